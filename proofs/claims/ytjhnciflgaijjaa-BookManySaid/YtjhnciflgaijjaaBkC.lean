/- BookMany: what is pending, and what is in the book. -/
import Derived.Test.YtjhnciflgaijjaaBkB
import Derived.Test.YtjhnciflgaijjaaSv4
namespace Go.Sv.Try
open Go Go.Proofs
set_option linter.unusedVariables false
set_option linter.unusedSimpArgs false
theorem look_map_none : ∀ {L : List Bts} {k : Int × Int} (n : Nat), (∀ x ∈ L, nmOf x ≠ k) → lookL ((L.zipIdx n).map fun p => (nmOf p.1, p.2)) k = none
  | [], k, n, h => rfl
  | x :: L, k, n, h => by
    show lookL ((nmOf x, n) :: (L.zipIdx (n + 1)).map fun p => (nmOf p.1, p.2)) k = none
    unfold lookL
    rw [if_neg fun q => h x (by simp) q.symm]
    exact look_map_none (n + 1) fun y hy => h y (by simp [hy])
theorem mapOf_none {L : List Bts} {k : Int × Int} (h : ∀ x ∈ L, nmOf x ≠ k) : lookL (mapOf L) k = none := look_map_none 0 h
def cntL (l : List (Int × Int)) (w : Int) : Int := (lookL l w).getD 0
theorem cnt_set (l : List (Int × Int)) (w v w' : Int) : cntL (setL l w v) w' = if w' = w then v else cntL l w' := by
  unfold cntL; rw [look_set]; split <;> rfl
def Told (l : List (Int × Int)) (x : Bts) : Prop := ∃ w n c, x = writeB (entM w n [c]) ∧ (0 ≤ w ∧ w ≤ 15) ∧ 1 ≤ n ∧ n ≤ cntL l w ∧ n ≤ 1000
theorem told_chk {w n : Int} {c : UInt8} (h1 : 0 ≤ w ∧ w ≤ 15) (h2 : 1 ≤ n) (h3 : n ≤ 1000) : checkM (entM w n [c]) = 0 := checkM_ent ⟨h1.1, by omega⟩ ⟨by omega, by omega⟩ (by simp)
theorem told_len {w n : Int} {c : UInt8} (h1 : 0 ≤ w ∧ w ≤ 15) (h2 : 1 ≤ n) (h3 : n ≤ 1000) : (writeB (entM w n [c])).length ≤ 100 := by
  have a1 := digits_len w.toNat 1 (by omega)
  have a2 := digits_len n.toNat 2 (by omega)
  have fl : ∀ t b, ((opt1 t b).flatMap fieldB).length ≤ b.length + 4 := fun t b => by
    unfold opt1
    split
    · simp
    · simp [fieldB, runB]
  have f0 : ∀ t, ((opt1 t ([] : Bts)).flatMap fieldB).length = 0 := fun t => by simp [opt1]
  have e : (fieldList (entM w n [c])) = opt1 1 (digits w.toNat) ++ (opt1 2 (digits 0) ++ (opt1 3 (digits 0) ++ (opt1 4 (digits 0) ++ (opt1 5 (digits n.toNat) ++ (opt1 6 [] ++ (opt1 7 [c] ++ (opt1 8 [] ++ (opt1 9 [] ++ [])))))))) := rfl
  unfold writeB
  rw [e]
  simp only [digits_zero, List.flatMap_append, List.length_cons, List.length_append, f0, List.flatMap_nil, List.length_nil]
  have b1 := fl 1 (digits w.toNat)
  have b2 := fl 5 (digits n.toNat)
  have b3 := fl 7 [c]
  simp only [List.length_singleton] at b3
  omega
theorem told_name {w n : Int} {c : UInt8} (h1 : 0 ≤ w ∧ w ≤ 15) (h2 : 1 ≤ n) (h3 : n ≤ 1000) : nmOf (writeB (entM w n [c])) = (w, n) := nmOf_ent (told_chk h1 h2 h3)
theorem told_ent {w n : Int} {c : UInt8} (h1 : 0 ≤ w ∧ w ≤ 15) (h2 : 1 ≤ n) (h3 : n ≤ 1000) : entC (writeB (entM w n [c])) = 0 := entC_ent (told_chk h1 h2 h3) h1.2 h2 (by simp)
theorem Told.up {l : List (Int × Int)} {x : Bts} {w v : Int} (h : Told l x) (hv : cntL l w ≤ v) : Told (setL l w v) x := by
  obtain ⟨w', n, c, h1, h2, h3, h4, h5⟩ := h
  refine ⟨w', n, c, h1, h2, h3, ?_, h5⟩
  rw [cnt_set]
  split
  · rename_i q; subst q; omega
  · exact h4
theorem lens_told : ∀ {P : List Bts} {l : List (Int × Int)}, (∀ x ∈ P, Told l x) → lens P ≤ 100 * P.length
  | [], l, h => by simp [lens, sumOf]
  | x :: P, l, h => by
    obtain ⟨w, n, c, rfl, h2, h3, h4, h5⟩ := h x (by simp)
    have := told_len (c := c) h2 h3 h5
    have ih := lens_told (P := P) (l := l) fun y hy => h y (by simp [hy])
    rw [lens_cons, List.length_cons]; omega
theorem fold_new {L P : List Bts} {l : List (Int × Int)} {w : Int} {c : UInt8} (h : P.foldl addE L = L ++ P) (ht : ∀ x ∈ L ++ P, Told l x) (hw : 0 ≤ w ∧ w ≤ 15) (h0 : 0 ≤ cntL l w) (h3 : cntL l w + 1 ≤ 1000) (hl : L.length + P.length < 1000) :
    (P ++ [writeB (entM w (cntL l w + 1) [c])]).foldl addE L = L ++ (P ++ [writeB (entM w (cntL l w + 1) [c])]) := by
  rw [List.foldl_append, h]
  show addE (L ++ P) _ = _
  rw [addE_yes (told_ent hw (by omega) h3) ?_ (by rw [List.length_append]; omega), List.append_assoc]
  rw [told_name hw (by omega) h3]
  refine mapOf_none fun x hx q => ?_
  obtain ⟨w', n, c', rfl, h2, h4, h5, h6⟩ := ht x hx
  rw [told_name h2 h4 h6] at q
  cases q
  omega
end Go.Sv.Try
namespace Go.Sv.Try
open Go Go.Proofs
set_option linter.unusedVariables false
set_option linter.unusedSimpArgs false
abbrev evI : Int → V := fun n => V.int .i64 n
theorem mkmII : mkm Try.prog 86 (some none) = some .newMap := by kernel_rfl
theorem mtII : mapT Try.prog 86 = some (3, 3) := by kernel_rfl
def zOf (fo : Option Nat) : Nat → Prop := fun f => fo = some f
structure BmI (A B : AS) (bp tp r rm : Nat) (pv : V) (L P : List Bts) (Ml : List (Int × Int)) (i : Nat) : Prop where
  fr : Fr S0 A B
  ex : ∃ Hs fl ft fh fo, IsBk (zOf fo) B bp tp r L Hs fl ft fh ∧ Hs.length ≤ i ∧ Lst (eSl eU8) (qHp (bkX (zOf fo) fl ft fh) B) B pv P fo ∧ (∀ f, fo = some f → fl ≠ some f ∧ ft ≠ some f ∧ fh ≠ some f) ∧ ∀ f, bkX (zOf fo) fl ft fh f → A.blk.length ≤ f
  b1 : A.blk.length ≤ bp
  b2 : A.blk.length ≤ tp
  b3 : A.maps.length ≤ r
  b4 : A.maps.length ≤ rm
  mp : MapIs B rm evI evI Ml
  ne : rm ≠ r
  cn : ∀ w, 0 ≤ cntL Ml w ∧ cntL Ml w ≤ i
  en : ∀ x ∈ L ++ P, Told Ml x
  fo : P.foldl addE L = L ++ P
  ln : L.length + P.length ≤ i
section
variable {A B C : AS} {m : Hp} {Z Z' : Nat → Prop} {bp tp r rm i : Nat} {L P : List Bts} {Hs : List HdP} {fl ft fh : Option Nat} {S : Loc → Prop} {Ml : List (Int × Int)} {pv : V}
theorem look_cnt (h : MapIs A rm evI evI Ml) (w : Int) : evLookup Try.prog 86 (.map rm) (.int .i64 w) false A = some (.int .i64 (cntL Ml w)) := by
  rw [h.look (P := Try.prog) kInt mtII zIB w false]
  unfold cntL
  cases lookL Ml w <;> rfl
theorem Own.qHp {N : Nat} {v : V} {l : Bts} {X : Nat → Prop} (h : Own N A v l.length 1 (bc l)) (hX : ∀ f, X f → f < N) : Slc eU8 (Go.Sv.qHp X A) v l := by
  obtain ⟨_, _, ⟨rfl, h0⟩ | ⟨b, f, base, rfl, h1, h2, h3, _⟩⟩ := h
  · exact .inl ⟨rfl, List.eq_nil_of_length_eq_zero h0⟩
  · exact row_slcQ h1 fun q => by have := hX f q; omega
theorem IsBk.weak (h : IsBk Z A bp tp r L Hs fl ft fh) (hz : ∀ f, Z' f → Z f) : IsBk Z' A bp tp r L Hs fl ft fh :=
  ⟨h.raw.frO (.refl S0 A) (fun q => q) (fun q => q) (fun q => q) .s0 .s0 .s0 (qHp_anti fun f q => q.imp (hz f) id), h.ent, h.len⟩
theorem BmI.fr0 (h : BmI A B bp tp r rm pv L P Ml i) (hf : Fr S0 B C) : BmI A C bp tp r rm pv L P Ml i := by
  obtain ⟨Hs, fl, ft, fh, fo, h1, h2, h3, h4, h5⟩ := h.ex
  exact { h with fr := h.fr.then0 hf, ex := ⟨Hs, fl, ft, fh, fo, h1.fr0 hf, h2, (h3.fr0 hf).mono (qHp_fr0 hf), h4, h5⟩, mp := h.mp.fr hf fun q => q }
theorem BmI.mapU (h : BmI A B bp tp r rm pv L P Ml i) (hw : WF A) {w : Int} (hf : Fr (· = .map rm) B C) (hm : MapIs C rm evI evI (setL Ml w (cntL Ml w + 1))) : BmI A C bp tp r rm pv L P (setL Ml w (cntL Ml w + 1)) (i + 1) := by
  obtain ⟨Hs, fl, ft, fh, fo, h1, h2, h3, h4, h5⟩ := h.ex
  have hwB := h.fr.wf hw
  have o : ∀ fo, Off fo B (· = .map rm) := fun fo b q => by cases q
  have hq := qHp_fr (X := bkX (zOf fo) fl ft fh) (Y := bkX (zOf fo) fl ft fh) hf (fun b k q => by cases q) hwB fun f q => .inl q
  refine { fr := h.fr.trans hf fun z q => .inr (by subst q; exact h.b4), ex := ⟨Hs, fl, ft, fh, fo, ⟨h1.raw.frO hf (fun q => by cases q) (fun q => by cases q) (fun q => by cases q; exact h.ne rfl) (o _) (o _) (o _) hq, h1.ent, h1.len⟩, by omega, (h3.fr hf (o _)).mono hq, h4, h5⟩, b1 := h.b1, b2 := h.b2, b3 := h.b3, b4 := h.b4, mp := hm, ne := h.ne, cn := fun w' => ?_, en := fun x hx => (h.en x hx).up (by omega), fo := h.fo, ln := by have := h.ln; omega }
  rw [cnt_set]
  have a1 := h.cn w
  have a2 := h.cn w'
  split <;> omega
theorem BmI.push {D : AS} (h : BmI A D bp tp r rm pv L P Ml i) (hw : WF A) (hf : Fr S0 D B) {x : Bts} {u : V} {N : Nat} (ho : Own N B u x.length 1 (bc x)) (hN : D.blk.length ≤ N)
    (hfold : (P ++ [x]).foldl addE L = L ++ (P ++ [x])) (ht : Told Ml x) (hl : L.length + P.length + 1 ≤ i) (hi : i ≤ 1000) :
    ∃ pv' C, evAppend Try.prog 22 22 pv (.sl B.blk.length 0 1 1) (B.push ⟨[u], .arr B.blk.length 0⟩) = some (pv', C) ∧ BmI A C bp tp r rm pv' L (P ++ [x]) Ml i := by
  obtain ⟨Hs, fl, ft, fh, fo, j1, h2, j3, h4, h5⟩ := h.ex
  obtain ⟨e1, e2, e3, e4, e5⟩ := j1.raw.lt
  have hu := Own.qHp (X := bkX (zOf fo) fl ft fh) ho fun f q => by
    rcases q with q | q | q | q
    · have := j3.famLt f q; omega
    · have := e3 f q; omega
    · have := e4 f q; omega
    · have := e5 f q; omega
  have h := h.fr0 hf
  have h1 := j1.fr0 hf
  have h3 := (j3.fr0 hf).mono (qHp_fr0 hf)
  have hwB := h.fr.wf hw
  obtain ⟨pv', C, fo', p1, p2, p3, p4⟩ := h3.push (P := Try.prog) (t := 22) (tx := 22) (n := 1) rfl sl22 Try.underlying22 hwB (y := x) (cs' := [u]) ⟨u, rfl, hu⟩ (by omega) (by omega)
  obtain ⟨⟨_, bx1⟩, _, bx2⟩ := h1.raw.box
  obtain ⟨l1, l2, l3, l4, l5⟩ := h1.raw.lt
  have nm : ∀ k, ¬ inFamO B fo (.map k) := fun k q => by cases fo <;> exact q.elim
  have hz : ∀ f, zOf fo' f → zOf fo f ∨ B.blk.length ≤ f := fun f q => p4.or q
  refine ⟨pv', C, p1, { fr := h.fr.newFam hw p3 fun f q => h5 f (.inl q), ex := ⟨Hs, fl, ft, fh, fo', h1.oth hwB p3 (inFamO_var bx1) (inFamO_var bx2) (nm r) (.famO fun f q => q) (fun f q z => ?_) hz, h2, p2.mono (qHp_fr p3 (.famO fun f q => .inl q) hwB fun f q => ?_), fun f q => ?_, fun f q => ?_⟩, b1 := h.b1, b2 := h.b2, b3 := h.b3, b4 := h.b4, mp := h.mp.fr p3 (nm rm), ne := h.ne, cn := h.cn, en := fun y hy => ?_, fo := hfold, ln := by rw [List.length_append]; show L.length + (P.length + 1) ≤ i; omega }⟩
  · obtain ⟨e1, e2, e3⟩ := h4 f z
    rcases q with q | q | q
    · exact e1 q
    · exact e2 q
    · exact e3 q
  · rcases q with q | q
    · exact (hz f q).imp .inl id
    · exact .inl (.inr q)
  · rcases p4.or q with y | y
    · exact h4 f y
    · refine ⟨fun z => ?_, fun z => ?_, fun z => ?_⟩
      · have := l3 f z; omega
      · have := l4 f z; omega
      · have := l5 f z; omega
  · have := h.fr.len
    rcases q with q | q
    · rcases hz f q with y | y
      · exact h5 f (.inl y)
      · omega
    · exact h5 f (.inr q)
  · rw [← List.append_assoc] at hy
    rcases List.mem_append.1 hy with hy | hy
    · exact h.en y hy
    · rw [List.mem_singleton.1 hy]; exact ht
theorem BmI.flush (h : BmI A B bp tp r rm pv L P Ml i) (hw : WF A) {v : V} {b : Bts} (hm : m.on B) (hv : Slc eU8 m v b) (hb : b.length ≤ 1000000000000) (hi : i ≤ 1000) (hb2 : applyB L b = L ++ P ∨ applyB L b = L) :
    ∃ C, EvF Try.prog HH 44 [.ptr bp 0, v] B (.int .i64 (((applyB L b).length : Int) - L.length)) C ∧ BmI A C bp tp r rm .snil (applyB L b) [] Ml (i + 1) := by
  obtain ⟨Hs, fl, ft, fh, fo, h1, h2, h3, h4, h5⟩ := h.ex
  have hwB := h.fr.wf hw
  obtain ⟨_, C, k1, rfl, f1, fl', ft', fh', k2, g1, g2, g3⟩ := apply_spec hwB (fun f q => h3.famLt f q) h1 hm hv hb (by omega)
  have hl := h.fr.len
  have nm : ¬ bkS B bp tp r fl ft fh (.map rm) := by
    rintro (q | q | q | q | q | q)
    · cases q
    · cases q
    · cases q; exact h.ne rfl
    · cases fl <;> exact q.elim
    · cases ft <;> exact q.elim
    · cases fh <;> exact q.elim
  refine ⟨C, k1, { fr := h.fr.trans f1 fun z q => .inr (bkS_new hw h.fr h.b1 h.b2 h.b3 (fun f q => h5 f (.inr (.inl q))) (fun f q => h5 f (.inr (.inr (.inl q)))) (fun f q => h5 f (.inr (.inr (.inr q)))) z q), ex := ⟨_, fl', ft', fh', none, k2.weak (fun f q => by cases q), by rw [List.length_append]; simp; omega, .nil, (fun f q => by cases q), fun f q => ?_⟩, b1 := h.b1, b2 := h.b2, b3 := h.b3, b4 := h.b4, mp := h.mp.fr f1 nm, ne := h.ne, cn := fun w => by have := h.cn w; omega, en := fun x hx => ?_, fo := by simp, ln := ?_ }⟩
  · rcases q with q | q | q | q
    · cases q
    · exact Gr.ge g1 hl (fun f q => h5 f (.inr (.inl q))) f q
    · exact Gr.ge g2 hl (fun f q => h5 f (.inr (.inr (.inl q)))) f q
    · exact Gr.ge g3 hl (fun f q => h5 f (.inr (.inr (.inr q)))) f q
  · rw [List.append_nil] at hx
    rcases hb2 with q | q
    · rw [q] at hx; exact h.en x hx
    · rw [q] at hx; exact h.en x (List.mem_append_left _ hx)
  · have := h.ln
    rcases hb2 with q | q
    · rw [q, List.length_append]; simp; omega
    · rw [q]; simp; omega
end
end Go.Sv.Try
namespace Go.Sv.Try
open Go Go.Proofs
set_option linter.unusedVariables false
set_option linter.unusedSimpArgs false
section
variable {A B C : AS} {m : Hp} {bp tp r rm i : Nat} {L P : List Bts} {Ml : List (Int × Int)} {pv : V}
theorem BmI.slc (h : BmI A B bp tp r rm pv L P Ml i) : Slc (eSl eU8) (arrHp B) pv P := by
  obtain ⟨Hs, fl, ft, fh, fo, h1, h2, h3, h4, h5⟩ := h.ex
  exact h3.slcArr (qHp_arr _ _)
theorem BmI.size (h : BmI A B bp tp r rm pv L P Ml i) : EvF Try.prog HH 45 [.ptr bp 0] B (.int .i64 L.length) B := by
  obtain ⟨Hs, fl, ft, fh, fo, h1, h2, h3, h4, h5⟩ := h.ex
  exact bookSize_spec h1.raw
theorem split_nil : splitB [] = [] := if_pos (.inl (by decide))
theorem apply_nil (L : List Bts) : applyB L [] = L := by unfold applyB; rw [split_nil]; rfl
set_option maxRecDepth 10000 in
set_option maxHeartbeats 32000000 in
theorem bookMany_spec {v : V} {ws : List Int} {size : Int} (hw : WF A) (hm : m.on A) (hl : Slc (eInt .i64) m v ws) :
    ∃ w A', EvF Try.prog HH 8 [v, .int .i64 size] A w A' ∧ w = .bool true := by
  refine run_fn2 rfl Try.func8 (by unfold Try.f8; rfl) Try.ntmps8 (by unfold Try.f8; rfl) (by simp) ?_
  have hlen := fun B => hl.len (P := Try.prog) Try.underlying52 B
  obtain ⟨_, A1, k1, rfl, f1⟩ := bookKeeps_spec hw
  have w1 := f1.wf hw
  simp only [RT, Nat.reduceLT, Nat.reduceBEq, Nat.reduceEqDiff, Nat.reduceAdd, Int.reduceEq, Int.reduceLT, Int.reduceLE, Int.reduceGT, Int.reduceGE]
  refine run_call1 k1 ?_
  by_cases c1 : (ws.length : Int) > 30
  · simp only [RT, Nat.reduceLT, Nat.reduceBEq, Nat.reduceEqDiff, Nat.reduceAdd, Int.reduceEq, Int.reduceLT, Int.reduceLE, Int.reduceGT, Int.reduceGE, un_notd, hlen, decide_eq_true c1]
  by_cases c2 : size < 1
  · simp only [RT, Nat.reduceLT, Nat.reduceBEq, Nat.reduceEqDiff, Nat.reduceAdd, Int.reduceEq, Int.reduceLT, Int.reduceLE, Int.reduceGT, Int.reduceGE, un_notd, hlen, decide_eq_false c1, decide_eq_true c2]
  by_cases c3 : size > 10
  · simp only [RT, Nat.reduceLT, Nat.reduceBEq, Nat.reduceEqDiff, Nat.reduceAdd, Int.reduceEq, Int.reduceLT, Int.reduceLE, Int.reduceGT, Int.reduceGE, un_notd, hlen, decide_eq_false c1, decide_eq_false c2, decide_eq_true c3]
  obtain ⟨_, A2, k2, f2, bp, tp, r, ft, rfl, hB, hft, g1, g2, g3⟩ := bookNew_spec (Z := zOf none) w1
  simp only [RT, Nat.reduceLT, Nat.reduceBEq, Nat.reduceEqDiff, Nat.reduceAdd, Int.reduceEq, Int.reduceLT, Int.reduceLE, Int.reduceGT, Int.reduceGE, un_notd, hlen, decide_eq_false c1, decide_eq_false c2, decide_eq_false c3]
  refine run_call1 k2 ?_
  obtain ⟨A3, e3⟩ : ∃ B, B = A2.pushMap ⟨[], 0⟩ := ⟨_, rfl⟩
  have f3 : Fr S0 A2 A3 := by rw [e3]; exact Fr.pushMap A2 _
  obtain ⟨rm, hrm⟩ : ∃ r, r = A2.maps.length := ⟨_, rfl⟩
  have hM3 : MapIs A3 rm evI evI [] := by rw [e3, hrm]; exact MapIs.new A2
  have l1 := f1.len
  have l1' := f1.mlen
  have l2 := f2.mlen
  have hlt := hB.raw.lt
  have hrl := hB.raw.rl
  have hI : BmI A A3 bp tp r rm .snil [] [] [] 0 := {
    fr := (f1.then0 f2).then0 f3
    ex := ⟨[], none, ft, none, none, hB.fr0 f3, by simp, .nil, (fun f q => by cases q), fun f q => by
      rcases q with q | q | q | q
      · cases q
      · cases q
      · have := hft f q; omega
      · cases q⟩
    b1 := by omega
    b2 := by omega
    b3 := by omega
    b4 := by omega
    mp := hM3
    ne := by omega
    cn := fun w => ⟨Int.le_refl _, Int.le_refl _⟩
    en := fun x q => by cases q
    fo := rfl
    ln := by simp }
  simp only [RT, Nat.reduceLT, Nat.reduceBEq, Nat.reduceEqDiff, Nat.reduceAdd, Int.reduceEq, Int.reduceLT, Int.reduceLE, Int.reduceGT, Int.reduceGE, pEqB, mkmII, ← e3, ← hrm, hlen]
  refine run_loop_j (fun z e B => ∃ (i j : Nat) (pv : V) (L P : List Bts) (Ml : List (Int × Int)), z = ws.length - i ∧ i ≤ ws.length ∧ j ≤ 3 * i ∧ e.get 34 = .int .i64 i ∧ e.get 0 = v ∧ e.get 1 = .int .i64 size ∧ e.get 5 = .ptr bp 0 ∧ e.get 6 = .map rm ∧ e.get 7 = pv ∧ e.get 8 = .int .i64 L.length ∧ e.get 32 = v ∧ e.get 33 = .int .i64 ws.length ∧ BmI A B bp tp r rm pv L P Ml j)
    (fun z e B => (Is z .ret ∧ e.get 4 = .bool true) ∨ (Is z (.exit 0) ∧ ∃ (j : Nat) (pv : V) (L P : List Bts) (Ml : List (Int × Int)), e.get 5 = .ptr bp 0 ∧ e.get 8 = .int .i64 L.length ∧ BmI A B bp tp r rm pv L P Ml j))
    ⟨_, 0, 0, .snil, [], [], [], rfl, by omega, by omega, rfl, rfl, rfl, rfl, rfl, rfl, rfl, rfl, rfl, hI⟩ ?_ ?_
  rotate_left
  · rintro z e B hz (⟨rfl, h4⟩ | ⟨rfl, j, pv, L, P, Ml, h5, h8, hI⟩)
    · simp only [RT, Nat.reduceLT, Nat.reduceBEq, Nat.reduceEqDiff, Nat.reduceAdd, Int.reduceEq, Int.reduceLT, Int.reduceLE, Int.reduceGT, Int.reduceGE, h4]
    · simp only [RT, Nat.reduceLT, Nat.reduceBEq, Nat.reduceEqDiff, Nat.reduceAdd, Int.reduceEq, Int.reduceLT, Int.reduceLE, Int.reduceGT, Int.reduceGE, h5]
      refine run_call1 hI.size ?_
      simp only [RT, Nat.reduceLT, Nat.reduceBEq, Nat.reduceEqDiff, Nat.reduceAdd, Int.reduceEq, Int.reduceLT, Int.reduceLE, Int.reduceGT, Int.reduceGE, h8]
  clear hI k1 k2 hB hM3
  rintro z e B ⟨i, j, pv, L, P, Ml, rfl, hi, hj, h34, h0, h1, h5, h6, h7, h8, h32, h33, hI⟩
  simp only [RT, Nat.reduceLT, Nat.reduceBEq, Nat.reduceEqDiff, Nat.reduceAdd, Int.reduceEq, Int.reduceLT, Int.reduceLE, Int.reduceGT, Int.reduceGE, h33, h34]
  refine condK_of (fun q1 => ?_) (fun q1 => ?_)
  rotate_left
  · simp only [RT, Nat.reduceLT, Nat.reduceBEq, Nat.reduceEqDiff, Nat.reduceAdd, Int.reduceEq, Int.reduceLT, Int.reduceLE, Int.reduceGT, Int.reduceGE]
    exact .inr ⟨rfl, j, pv, L, P, Ml, h5, h8, hI⟩
  obtain ⟨w, hx⟩ := get_lt (l := ws) (i := i) (by omega)
  have hmB := hm.fr0 hI.fr
  obtain ⟨b, o, c, y3, y4, y5⟩ := hl.at (P := Try.prog) (k := .i64) hmB Try.underlying52 sz3 ag3 hx
  rw [eInt_W.1 y5] at y4
  by_cases d1 : w < 0
  · simp only [RT, Nat.reduceLT, Nat.reduceBEq, Nat.reduceEqDiff, Nat.reduceAdd, Int.reduceEq, Int.reduceLT, Int.reduceLE, Int.reduceGT, Int.reduceGE, h32, h34, y3, y4, decide_eq_true d1]
    exact .inl rfl
  by_cases d2 : w > 15
  · simp only [RT, Nat.reduceLT, Nat.reduceBEq, Nat.reduceEqDiff, Nat.reduceAdd, Int.reduceEq, Int.reduceLT, Int.reduceLE, Int.reduceGT, Int.reduceGE, h32, h34, y3, y4, decide_eq_false d1, decide_eq_true d2]
    exact .inl rfl
  have hc := hI.cn w
  have hln := hI.ln
  have hj90 : j ≤ 90 := by omega
  have hwc : IntKind.i64.wrap (cntL Ml w + 1) = cntL Ml w + 1 := wrapI (by omega) (by omega)
  have hk1 := look_cnt hI.mp w
  obtain ⟨C, u1, u2, u3⟩ := hI.mp.upd (P := Try.prog) kInt mtII w (cntL Ml w + 1)
  have hI1 := hI.mapU hw u2 u3
  have hk2 := look_cnt u3 w
  rw [cnt_set, if_pos rfl] at hk2
  obtain ⟨D, e4⟩ : ∃ X, X = C.push ⟨bc [UInt8.ofNat i], .arr C.blk.length 0⟩ := ⟨_, rfl⟩
  have s4 := new_arrBts C [UInt8.ofNat i] (sz := 1) rfl
  rw [← e4] at s4
  have f4 : Fr S0 C D := by rw [e4]; exact Fr.pushArr C _
  obtain ⟨b4, hb4⟩ : ∃ b, b = C.blk.length := ⟨_, rfl⟩
  rw [← hb4] at s4 e4
  have e4 : D = C.push ⟨[.int .u8 ((UInt8.ofNat i).toNat : Int)], .arr b4 0⟩ := e4
  have wC := hI1.fr.wf hw
  have wD := f4.wf wC
  obtain ⟨_, E, k5, f5, u, rfl, z0, z1⟩ := entry_spec (who := w) (num := cntL Ml w + 1) wD (arrHp_on D) s4 (by simp)
  have hE0 : entryE w (cntL Ml w + 1) [UInt8.ofNat i] = 0 := entryE_ok ⟨by omega, by omega⟩ ⟨by omega, by omega⟩ (by simp)
  rw [hE0] at k5
  have own := z1 hE0
  obtain ⟨x, hxE⟩ : ∃ x, x = writeB (entM w (cntL Ml w + 1) [UInt8.ofNat i]) := ⟨_, rfl⟩
  rw [← hxE] at own
  have hfold := fold_new (c := UInt8.ofNat i) hI.fo hI.en ⟨by omega, by omega⟩ hc.1 (by omega) (by omega)
  rw [← hxE] at hfold
  have htold : Told (setL Ml w (cntL Ml w + 1)) x := ⟨w, cntL Ml w + 1, UInt8.ofNat i, hxE, ⟨by omega, by omega⟩, by omega, by rw [cnt_set, if_pos rfl]; exact Int.le_refl _, by omega⟩
  obtain ⟨pv', F, p1, hI3⟩ := hI1.push hw (f4.then0 f5) own f4.len hfold htold (by omega) (by omega)
  have hwi : IntKind.i64.wrap ((i : Int) + 1) = ((i + 1 : Nat) : Int) := by rw [wrapS (by omega)]
  have hw1 : IntKind.i64.wrap ((ws.length : Int) - 1) = (ws.length : Int) - 1 := wrapI (by omega) (by omega)
  have hlenP := fun B => hI3.slc.len (P := Try.prog) Try.underlying22 B
  have hcv8 : cnv Try.prog 3 5 (some (.int .i64 (i : Int))) C = some (.val (.int .u8 ((UInt8.ofNat i).toNat : Int))) := by rw [cnv8, u8wrap]
  obtain ⟨P', hP'⟩ : ∃ p, p = P ++ [x] := ⟨_, rfl⟩
  rw [← hP'] at hI3 hlenP
  have hln3 := hI3.ln
  have hen := hI3.en
  have htP : ∀ y ∈ P', Told (setL Ml w (cntL Ml w + 1)) y := fun y hy => hen y (List.mem_append_right _ hy)
  have hPl : ∀ y ∈ P', y.length ≤ 1000000000000 := fun y hy => by
    obtain ⟨w', n', c', rfl, a2, a3, a4, a5⟩ := htP y hy
    have := told_len (c := c') a2 a3 a5
    omega
  have hlens := lens_told htP
  obtain ⟨_, G, kJ, fJ, s, rfl, z2, z3⟩ := join_spec (hI3.fr.wf hw) (arrHp_on F) hI3.slc (by omega) hPl
  have hI4 := hI3.fr0 fJ
  have hne1 : evEq Try.prog 4 (.bool true) (.bool true) = some true := by rw [eq_bool Try.underlying4]; rfl
  have hne2 : evEq Try.prog 4 (.bool false) (.bool false) = some true := by rw [eq_bool Try.underlying4]; rfl
  simp only [RT, Nat.reduceLT, Nat.reduceBEq, Nat.reduceEqDiff, Nat.reduceAdd, Int.reduceEq, Int.reduceLT, Int.reduceLE, Int.reduceGT, Int.reduceGE, h32, h34, y3, y4, decide_eq_false d1, decide_eq_false d2, h6, hk1, hwc, u1, hk2, hcv8, bsl1, ← hb4, ← e4]
  refine run_call1 k5 ?_
  simp only [RT, Nat.reduceLT, Nat.reduceBEq, Nat.reduceEqDiff, Nat.reduceAdd, Int.reduceEq, Int.reduceLT, Int.reduceLE, Int.reduceGT, Int.reduceGE, h7, bslB1 own.form, p1, hlenP, h1, h0, hlen, hw1, h34]
  have g3 : (P'.length : Int) = size ∨ (¬ (P'.length : Int) = size ∧ (i : Int) = (ws.length : Int) - 1) ∨ (¬ (P'.length : Int) = size ∧ ¬ (i : Int) = (ws.length : Int) - 1) := by omega
  rcases g3 with g1 | ⟨g1, g2⟩ | ⟨g1, g2⟩
  rotate_left 2
  · simp only [RT, Nat.reduceLT, Nat.reduceBEq, Nat.reduceEqDiff, Nat.reduceAdd, Int.reduceEq, Int.reduceLT, Int.reduceLE, Int.reduceGT, Int.reduceGE, decide_eq_false g1, h0, hlen, hw1, decide_eq_false g2, h34, hwi]
    refine ⟨ws.length - (i + 1), by omega, i + 1, j + 1, pv', L, P', setL Ml w (cntL Ml w + 1), rfl, by omega, by omega, ?_⟩
    and_intros <;> first | rfl | assumption
  · simp only [RT, Nat.reduceLT, Nat.reduceBEq, Nat.reduceEqDiff, Nat.reduceAdd, Int.reduceEq, Int.reduceLT, Int.reduceLE, Int.reduceGT, Int.reduceGE, decide_eq_true g1]
    refine run_call1 kJ ?_
    by_cases c8 : P'.length ≤ 8
    · have hj0 : joinE P' = 0 := joinE_ok c8 (by omega)
      have hchk : checkM (batM P') = 0 := checkM_bat (by omega) (by omega)
      have hAp : applyB L (writeB (batM P')) = L ++ P' := by unfold applyB; rw [split_bat c8 hchk]; exact hI3.fo
      have ownB := z3 hj0
      have hbl : (writeB (batM P')).length ≤ 1800091 := writeB_len (batM_in hI3.slc) (okM_of hchk)
      obtain ⟨H, kA, hI5⟩ := hI4.flush hw (arrHp_on G) ownB.arrBts (by omega) (by omega) (.inl hAp)
      rw [hAp] at kA hI5
      have e1 : (((L ++ P').length : Int) - L.length) = (P'.length : Int) := by rw [List.length_append]; omega
      rw [e1] at kA
      have e2 : IntKind.i64.wrap ((L.length : Int) + (P'.length : Int)) = ((L ++ P').length : Int) := by rw [wrapI (by omega) (by omega), List.length_append]; omega
      simp only [RT, Nat.reduceLT, Nat.reduceBEq, Nat.reduceEqDiff, Nat.reduceAdd, Int.reduceEq, Int.reduceLT, Int.reduceLE, Int.reduceGT, Int.reduceGE, hj0, hlenP, decide_eq_true (show (P'.length : Int) ≤ 8 by omega), hne1, h8, e2, h5]
      refine run_call1 kA ?_
      simp only [RT, Nat.reduceLT, Nat.reduceBEq, Nat.reduceEqDiff, Nat.reduceAdd, Int.reduceEq, Int.reduceLT, Int.reduceLE, Int.reduceGT, Int.reduceGE, hlenP, h34, hwi]
      refine ⟨ws.length - (i + 1), by omega, i + 1, j + 1 + 1, .snil, L ++ P', [], setL Ml w (cntL Ml w + 1), rfl, by omega, by omega, ?_⟩
      and_intros <;> first | rfl | assumption
    · have hj0 : joinE P' = 2 := if_pos (by omega)
      have hs : s = .snil := z2 (by rw [hj0]; decide)
      subst hs
      obtain ⟨H, kA, hI5⟩ := hI4.flush hw (v := .snil) (b := []) (m := Hp.emp) (Hp.on_emp _) (.inl ⟨rfl, rfl⟩) (by simp) (by omega) (.inr (apply_nil L))
      rw [apply_nil] at kA hI5
      have e1 : ((L.length : Int) - (L.length : Int)) = 0 := by omega
      rw [e1] at kA
      simp only [RT, Nat.reduceLT, Nat.reduceBEq, Nat.reduceEqDiff, Nat.reduceAdd, Int.reduceEq, Int.reduceLT, Int.reduceLE, Int.reduceGT, Int.reduceGE, hj0, hlenP, decide_eq_false (show ¬ (P'.length : Int) ≤ 8 by omega), hne2, h8, h5]
      refine run_call1 kA ?_
      simp only [RT, Nat.reduceLT, Nat.reduceBEq, Nat.reduceEqDiff, Nat.reduceAdd, Int.reduceEq, Int.reduceLT, Int.reduceLE, Int.reduceGT, Int.reduceGE, hlenP, h34, hwi]
      refine ⟨ws.length - (i + 1), by omega, i + 1, j + 1 + 1, .snil, L, [], setL Ml w (cntL Ml w + 1), rfl, by omega, by omega, ?_⟩
      and_intros <;> first | rfl | assumption
  · simp only [RT, Nat.reduceLT, Nat.reduceBEq, Nat.reduceEqDiff, Nat.reduceAdd, Int.reduceEq, Int.reduceLT, Int.reduceLE, Int.reduceGT, Int.reduceGE, decide_eq_false g1, h0, hlen, hw1, decide_eq_true g2]
    refine run_call1 kJ ?_
    by_cases c8 : P'.length ≤ 8
    · have hj0 : joinE P' = 0 := joinE_ok c8 (by omega)
      have hchk : checkM (batM P') = 0 := checkM_bat (by omega) (by omega)
      have hAp : applyB L (writeB (batM P')) = L ++ P' := by unfold applyB; rw [split_bat c8 hchk]; exact hI3.fo
      have ownB := z3 hj0
      have hbl : (writeB (batM P')).length ≤ 1800091 := writeB_len (batM_in hI3.slc) (okM_of hchk)
      obtain ⟨H, kA, hI5⟩ := hI4.flush hw (arrHp_on G) ownB.arrBts (by omega) (by omega) (.inl hAp)
      rw [hAp] at kA hI5
      have e1 : (((L ++ P').length : Int) - L.length) = (P'.length : Int) := by rw [List.length_append]; omega
      rw [e1] at kA
      have e2 : IntKind.i64.wrap ((L.length : Int) + (P'.length : Int)) = ((L ++ P').length : Int) := by rw [wrapI (by omega) (by omega), List.length_append]; omega
      simp only [RT, Nat.reduceLT, Nat.reduceBEq, Nat.reduceEqDiff, Nat.reduceAdd, Int.reduceEq, Int.reduceLT, Int.reduceLE, Int.reduceGT, Int.reduceGE, hj0, hlenP, decide_eq_true (show (P'.length : Int) ≤ 8 by omega), hne1, h8, e2, h5]
      refine run_call1 kA ?_
      simp only [RT, Nat.reduceLT, Nat.reduceBEq, Nat.reduceEqDiff, Nat.reduceAdd, Int.reduceEq, Int.reduceLT, Int.reduceLE, Int.reduceGT, Int.reduceGE, hlenP, h34, hwi]
      refine ⟨ws.length - (i + 1), by omega, i + 1, j + 1 + 1, .snil, L ++ P', [], setL Ml w (cntL Ml w + 1), rfl, by omega, by omega, ?_⟩
      and_intros <;> first | rfl | assumption
    · have hj0 : joinE P' = 2 := if_pos (by omega)
      have hs : s = .snil := z2 (by rw [hj0]; decide)
      subst hs
      obtain ⟨H, kA, hI5⟩ := hI4.flush hw (v := .snil) (b := []) (m := Hp.emp) (Hp.on_emp _) (.inl ⟨rfl, rfl⟩) (by simp) (by omega) (.inr (apply_nil L))
      rw [apply_nil] at kA hI5
      have e1 : ((L.length : Int) - (L.length : Int)) = 0 := by omega
      rw [e1] at kA
      simp only [RT, Nat.reduceLT, Nat.reduceBEq, Nat.reduceEqDiff, Nat.reduceAdd, Int.reduceEq, Int.reduceLT, Int.reduceLE, Int.reduceGT, Int.reduceGE, hj0, hlenP, decide_eq_false (show ¬ (P'.length : Int) ≤ 8 by omega), hne2, h8, h5]
      refine run_call1 kA ?_
      simp only [RT, Nat.reduceLT, Nat.reduceBEq, Nat.reduceEqDiff, Nat.reduceAdd, Int.reduceEq, Int.reduceLT, Int.reduceLE, Int.reduceGT, Int.reduceGE, hlenP, h34, hwi]
      refine ⟨ws.length - (i + 1), by omega, i + 1, j + 1 + 1, .snil, L, [], setL Ml w (cntL Ml w + 1), rfl, by omega, by omega, ?_⟩
      and_intros <;> first | rfl | assumption
end
end Go.Sv.Try
