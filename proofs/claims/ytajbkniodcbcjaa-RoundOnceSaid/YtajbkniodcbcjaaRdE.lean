/- Rounds: nobody votes twice in a round in one way; who is done has seen enough. -/
import Derived.Test.YtajbkniodcbcjaaRdD
import Derived.Test.YtajbkniodcbcjaaSv4
namespace Go.Sv
open Go
set_option linter.unusedVariables false
set_option linter.unusedSimpArgs false
section
variable {κ : Type} [DecidableEq κ] {enc : κ → V} {P : Program} {t kt et : TypeId} {A B : AS} {r : Nat} {X : κ → Prop}
def SetIs (A : AS) (r : Nat) (enc : κ → V) (X : κ → Prop) : Prop := ∃ l : List (κ × Bool), MapIs A r enc V.bool l ∧ (∀ k w, lookL l k = some w → w = true ∧ X k) ∧ ∀ k, X k → lookL l k = some true
theorem SetIs.new (A : AS) : SetIs (A.pushMap ⟨[], 0⟩) A.maps.length enc (fun _ : κ => False) := ⟨[], MapIs.new A, fun k w q => by simp [lookL] at q, fun k q => q.elim⟩
theorem SetIs.keep (h : SetIs A r enc X) (k : ∀ mo, A.maps[r]? = some mo → B.maps[r]? = some mo) : SetIs B r enc X := by
  obtain ⟨l, ⟨mo, h1, h2⟩, h3, h4⟩ := h
  exact ⟨l, ⟨mo, k mo h1, h2⟩, h3, h4⟩
theorem SetIs.fr {S : Loc → Prop} (h : SetIs A r enc X) (hf : Fr S A B) (hs : ¬ S (.map r)) : SetIs B r enc X := h.keep fun mo q => hf.map r mo q hs
theorem SetIs.fr0 (h : SetIs A r enc X) (hf : Fr S0 A B) : SetIs B r enc X := h.fr hf fun q => q
theorem SetIs.yes (h : SetIs A r enc X) (hK : KeyT P kt enc) (ht : mapT P t = some (kt, et)) (hz : zeroT P et = some (.bool false)) {k : κ} (hx : X k) : evLookup P t (.map r) (enc k) false A = some (.bool true) := by
  obtain ⟨l, h1, h2, h3⟩ := h
  rw [h1.look hK ht hz k false, h3 k hx]; rfl
theorem SetIs.no (h : SetIs A r enc X) (hK : KeyT P kt enc) (ht : mapT P t = some (kt, et)) (hz : zeroT P et = some (.bool false)) {k : κ} (hx : ¬ X k) : evLookup P t (.map r) (enc k) false A = some (.bool false) := by
  obtain ⟨l, h1, h2, h3⟩ := h
  rw [h1.look hK ht hz k false]
  cases q : lookL l k with
  | none => rfl
  | some w => exact absurd (h2 k w q).2 hx
theorem SetIs.put (h : SetIs A r enc X) (hK : KeyT P kt enc) (ht : mapT P t = some (kt, et)) (k : κ) : ∃ A', evMapUpdate P t (.map r) (enc k) (.bool true) A = some A' ∧ Fr (· = .map r) A A' ∧ SetIs A' r enc (fun x => X x ∨ x = k) := by
  obtain ⟨l, h1, h2, h3⟩ := h
  cases q : lookL l k with
  | none =>
    obtain ⟨A', u1, u2, u3⟩ := h1.put (P := P) hK ht true q
    refine ⟨A', u1, u2, _, u3, fun x w y => ?_, fun x y => ?_⟩
    · rw [lookL_app] at y
      cases hx : lookL l x with
      | some w' => rw [hx] at y; cases y; exact ⟨(h2 x w hx).1, .inl (h2 x w hx).2⟩
      | none =>
        rw [hx] at y
        simp only [lookL] at y
        split at y
        · rename_i e; cases y; exact ⟨rfl, .inr e⟩
        · simp at y
    · rw [lookL_app]
      rcases y with y | y
      · rw [h3 x y]
      · rw [y, q]; simp [lookL]
  | some w =>
    have := (h2 k w q).1
    subst this
    obtain ⟨A', u1, u2, u3⟩ := h1.again (P := P) hK ht q
    exact ⟨A', u1, u2, l, u3, fun x w y => ⟨(h2 x w y).1, .inl (h2 x w y).2⟩, fun x y => y.elim (h3 x) fun e => by rw [e]; exact q⟩
theorem keyTri (hs : shapeT P 50 kt = some [.int .i64, .int .i64, .int .i64]) (ha : aggT P kt = some true) : KeyT P kt (fun p : Int × Int × Int => V.agg [.int .i64 p.1, .int .i64 p.2.1, .int .i64 p.2.2]) where
  ok := fun k es h => by
    unfold keyOk
    simp only [hs, ha]
    rw [Bool.and_eq_true, Bool.and_eq_true]
    refine ⟨⟨rfl, keysFit_of fun e he => ?_⟩, List.all_eq_true.2 fun e he => ?_⟩
    · obtain ⟨a, q⟩ := h e he; rw [q]; rfl
    · obtain ⟨a, q⟩ := h e he; rw [q]
  eq := fun a b => by
    show ((IntKind.i64 == IntKind.i64 && a.1 == b.1) && ((IntKind.i64 == IntKind.i64 && a.2.1 == b.2.1) && ((IntKind.i64 == IntKind.i64 && a.2.2 == b.2.2) && true))) = _
    obtain ⟨a1, a2, a3⟩ := a
    obtain ⟨b1, b2, b3⟩ := b
    by_cases h1 : a1 = b1 <;> by_cases h2 : a2 = b2 <;> by_cases h3 : a3 = b3 <;> simp [h1, h2, h3]
abbrev Id32 := {x : Bts // x.length = 32}
theorem keyId (hs : shapeT P 50 kt = some (List.replicate 32 (.int .u8))) (ha : aggT P kt = some true) : KeyT P kt (fun p : Id32 => V.agg (bc p.1)) where
  ok := fun k es h => by
    have fb : ∀ p : Id32, fitsAll (List.replicate 32 (.int .u8)) (bc p.1) = true := fun p => by have := fits_bytes p.1; rwa [p.2] at this
    unfold keyOk
    simp only [hs, ha]
    rw [Bool.and_eq_true, Bool.and_eq_true]
    refine ⟨⟨fb k, keysFit_of fun e he => ?_⟩, List.all_eq_true.2 fun e he => ?_⟩
    · obtain ⟨a, q⟩ := h e he; rw [q]; exact fb a
    · obtain ⟨a, q⟩ := h e he; rw [q]
  eq := fun a b => by
    show eqFlats (bc a.1) (bc b.1) = _
    rw [eqFlats_bytes a.1 b.1 (by rw [a.2, b.2])]
    by_cases q : a.1 = b.1
    · rw [decide_eq_true q, decide_eq_true (Subtype.ext q)]
    · rw [decide_eq_false q, decide_eq_false (fun z => q (congrArg Subtype.val z))]
end
def cov (s : Led) (me : Nat) (k : Int × Int × Int) : Prop := (k.1 = 1 ∧ s.off k.2.1.toNat = true) ∨ (k.1 = 2 ∧ s.v k.2.1.toNat k.2.2.toNat me ≠ z32) ∨ (k.1 = 3 ∧ s.tim k.2.1.toNat k.2.2.toNat = true) ∨ (k.1 = 4 ∧ s.done = true)
def keyA (a : Act) : Int × Int × Int := if a.kind = 4 then (4, 0, 0) else (a.kind, a.round, a.num)
theorem ok_done0 {n me : Nat} {kn : List Bts} {s : Led} {a : Act} (h : s.ok n me kn a) : s.done = false := by cases h <;> assumption
theorem ok_new {n me : Nat} {kn : List Bts} {s : Led} {a : Act} (h : s.ok n me kn a) : ¬ cov s me (keyA a) := by
  cases h with
  | send R val id h h1 h2 h3 =>
    rintro (⟨q, w⟩ | ⟨q, w⟩ | ⟨q, w⟩ | ⟨q, w⟩)
    · rw [show ((keyA ⟨1, R, 0, val, id⟩).2.1) = R from rfl, h3] at w; cases w
    all_goals (have q : (1 : Int) = _ := q; omega)
  | vote R K id h h1 h2 h3 =>
    rintro (⟨q, w⟩ | ⟨q, w⟩ | ⟨q, w⟩ | ⟨q, w⟩)
    · have q : (2 : Int) = _ := q; omega
    · exact w (putC_right h1).2.2
    all_goals (have q : (2 : Int) = _ := q; omega)
  | tim R K h h1 h2 h3 h4 h5 =>
    rintro (⟨q, w⟩ | ⟨q, w⟩ | ⟨q, w⟩ | ⟨q, w⟩)
    · have q : (3 : Int) = _ := q; omega
    · have q : (3 : Int) = _ := q; omega
    · rw [show ((keyA ⟨3, R, K, 0, z32⟩).2.1) = R from rfl, show ((keyA ⟨3, R, K, 0, z32⟩).2.2) = K from rfl, h5] at w; cases w
    · have q : (3 : Int) = _ := q; omega
  | done R id h h1 h2 =>
    rintro (⟨q, w⟩ | ⟨q, w⟩ | ⟨q, w⟩ | ⟨q, w⟩)
    · have q : (4 : Int) = _ := q; omega
    · have q : (4 : Int) = _ := q; omega
    · have q : (4 : Int) = _ := q; omega
    · rw [h] at w; cases w
theorem set1_true {f : Nat → Bool} {i j : Nat} (h : f j = true) : set1 f i true j = true := by unfold set1; split; rfl; exact h
theorem set2_true {f : Nat → Nat → Bool} {i i2 j j2 : Nat} (h : f j j2 = true) : set2 f i i2 true j j2 = true := by unfold set2; split; rfl; exact h
theorem cov_after {n me : Nat} {kn : List Bts} {s : Led} {a : Act} (h : s.ok n me kn a) {k : Int × Int × Int} (hk : cov s me k ∨ k = keyA a) : cov (s.after me a) me k := by
  cases h with
  | send R val id h h1 h2 h3 =>
    rw [after_send]
    rcases hk with (⟨q, w⟩ | ⟨q, w⟩ | ⟨q, w⟩ | ⟨q, w⟩) | rfl
    · exact .inl ⟨q, set1_true w⟩
    · exact .inr (.inl ⟨q, w⟩)
    · exact .inr (.inr (.inl ⟨q, w⟩))
    · exact .inr (.inr (.inr ⟨q, w⟩))
    · exact .inl ⟨rfl, by show set1 s.off R.toNat true R.toNat = true; simp [set1]⟩
  | vote R K id h h1 h2 h3 =>
    rw [after_vote]
    have hid := (putC_right h1).2.1
    rcases hk with (⟨q, w⟩ | ⟨q, w⟩ | ⟨q, w⟩ | ⟨q, w⟩) | rfl
    · exact .inl ⟨q, w⟩
    · refine .inr (.inl ⟨q, ?_⟩)
      show setV s.v R.toNat K.toNat me id _ _ _ ≠ z32
      unfold setV; split
      · exact hid
      · exact w
    · exact .inr (.inr (.inl ⟨q, w⟩))
    · exact .inr (.inr (.inr ⟨q, w⟩))
    · refine .inr (.inl ⟨rfl, ?_⟩)
      show setV s.v R.toNat K.toNat me id R.toNat K.toNat me ≠ z32
      unfold setV; rw [if_pos ⟨rfl, rfl, rfl⟩]; exact hid
  | tim R K h h1 h2 h3 h4 h5 =>
    rw [after_tim]
    rcases hk with (⟨q, w⟩ | ⟨q, w⟩ | ⟨q, w⟩ | ⟨q, w⟩) | rfl
    · exact .inl ⟨q, w⟩
    · exact .inr (.inl ⟨q, w⟩)
    · exact .inr (.inr (.inl ⟨q, set2_true w⟩))
    · exact .inr (.inr (.inr ⟨q, w⟩))
    · exact .inr (.inr (.inl ⟨rfl, by show set2 s.tim R.toNat K.toNat true R.toNat K.toNat = true; simp [set2]⟩))
  | done R id h h1 h2 =>
    rw [after_done]
    rcases hk with (⟨q, w⟩ | ⟨q, w⟩ | ⟨q, w⟩ | ⟨q, w⟩) | rfl
    · exact .inl ⟨q, w⟩
    · exact .inr (.inl ⟨q, w⟩)
    · exact .inr (.inr (.inl ⟨q, w⟩))
    · exact .inr (.inr (.inr ⟨q, rfl⟩))
    · exact .inr (.inr (.inr ⟨rfl, rfl⟩))
theorem ok_done4 {n me : Nat} {kn : List Bts} {s : Led} {a : Act} (h : s.ok n me kn a) (k : a.kind = 4) : sureN n s.v a.round 1 = some a.id ∧ a.id ∈ kn := by
  cases h with
  | send R val id _ _ _ _ => exact absurd k (by show ¬ ((1 : Int) = 4); omega)
  | tim R K _ _ _ _ _ _ => exact absurd k (by show ¬ ((3 : Int) = 4); omega)
  | vote R K id hd c1 c2 c3 => exact absurd k (by show ¬ ((2 : Int) = 4); omega)
  | done R id _ h1 h2 => exact ⟨h1, h2⟩
theorem after4 {me : Nat} {s : Led} {a : Act} (k : a.kind = 4) : (s.after me a).v = s.v ∧ (s.after me a).done = true := by
  unfold Led.after; rw [if_neg (by omega), if_neg (by omega), if_neg (by omega)]; exact ⟨rfl, rfl⟩
theorem after_v2 {me : Nat} {s : Led} {a : Act} (k : a.kind = 2) : (s.after me a).v = setV s.v a.round.toNat a.num.toNat me a.id := by rw [after_kind2 k]
theorem cov_give {n me : Nat} {s s1 : Led} {i : RIn} (h1 : s1.v = giveV n me s.v i) (h2 : ∀ j, s.off j = true → s1.off j = true) (h3 : s1.tim = s.tim) (h4 : s1.done = s.done) {k : Int × Int × Int} (hk : cov s me k) : cov s1 me k := by
  rcases hk with ⟨q, w⟩ | ⟨q, w⟩ | ⟨q, w⟩ | ⟨q, w⟩
  · exact .inl ⟨q, h2 _ w⟩
  · refine .inr (.inl ⟨q, ?_⟩)
    rw [h1]; unfold giveV
    split
    · rename_i z
      rw [putV_other z.2]; exact w
    · exact w
  · exact .inr (.inr (.inl ⟨q, by rw [h3]; exact w⟩))
  · exact .inr (.inr (.inr ⟨q, by rw [h4]; exact w⟩))
theorem giveK_mem {r : Rd} {i : RIn} (h7 : i.kind ≠ 7) {y : Bts} (h : y ∈ giveK r i) : y ∈ r.known ∨ (i.kind = 1 ∧ y = i.id) := by
  unfold giveK at h
  split at h
  · rename_i q
    unfold Rd.Remember at h
    split at h
    · rcases List.mem_append.1 h with h | h
      · exact .inl h
      · rcases q with q | q
        · exact .inr ⟨q, by simpa using h⟩
        · exact absurd q h7
    · exact .inl h
  · exact .inl h
end Go.Sv
namespace Go.Sv.Try
open Go Go.Proofs
theorem mkm62 : mkm Try.prog 62 (some none) = some .newMap := by kernel_rfl
theorem mt62 : mapT Try.prog 62 = some (57, 4) := by kernel_rfl
theorem mkm63 : mkm Try.prog 63 (some none) = some .newMap := by kernel_rfl
theorem mt63 : mapT Try.prog 63 = some (39, 4) := by kernel_rfl
def encT (p : Int × Int × Int) : V := V.agg [.int .i64 p.1, .int .i64 p.2.1, .int .i64 p.2.2]
def encI (p : Id32) : V := V.agg (bc p.1)
theorem kTri : KeyT Try.prog 57 encT := keyTri (by kernel_rfl) ag57
theorem kId : KeyT Try.prog 39 encI := keyId (by kernel_rfl) ag39
theorem zb : zeroT Try.prog 4 = some (.bool false) := by kernel_rfl
theorem bldK3 (a b c : Int) : evBuild Try.prog 57 [(0, .int .i64 a), (1, .int .i64 b), (2, .int .i64 c)] = some (.agg [.int .i64 a, .int .i64 b, .int .i64 c]) := by kernel_rfl
theorem bldK1 (a : Int) : evBuild Try.prog 57 [(0, .int .i64 a)] = some (.agg [.int .i64 a, .int .i64 0, .int .i64 0]) := by kernel_rfl
theorem newK3 {A : AS} (a b c : Int) : ∃ A', evStore Try.prog 57 (.ptr A.blk.length 0) (.agg [.int .i64 a, .int .i64 b, .int .i64 c]) (A.push ⟨[.int .i64 0, .int .i64 0, .int .i64 0], .var⟩) = some A' ∧ Fr S0 A A' ∧ A'.blk[A.blk.length]? = some ⟨[.int .i64 a, .int .i64 b, .int .i64 c], .var⟩ ∧ A'.blk.length = A.blk.length + 1 :=
  new_set (P := Try.prog) A (cs := [.int .i64 a, .int .i64 b, .int .i64 c]) rfl sz57 rfl rfl
theorem setK3 {A : AS} {x : Nat} {p q r : Int} (a b c : Int) (h : A.blk[x]? = some ⟨[.int .i64 p, .int .i64 q, .int .i64 r], .var⟩) : ∃ A', evStore Try.prog 57 (.ptr x 0) (.agg [.int .i64 a, .int .i64 b, .int .i64 c]) A = some A' ∧ Fr (· = .row x) A A' ∧ A'.blk[x]? = some ⟨[.int .i64 a, .int .i64 b, .int .i64 c], .var⟩ := by
  obtain ⟨A', s1, s2, s3, s4⟩ := store_var (P := Try.prog) (t := 57) (o := 0) (x := .agg [.int .i64 a, .int .i64 b, .int .i64 c]) (cs := [.int .i64 a, .int .i64 b, .int .i64 c]) h rfl sz57 (by simp) rfl
  exact ⟨A', s1, s2, by rw [s3]; rfl⟩
theorem ldK3 {A : AS} {x : Nat} {k : BK} {a b c : Int} (h : A.blk[x]? = some ⟨[.int .i64 a, .int .i64 b, .int .i64 c], k⟩) : evLoad Try.prog 57 (.ptr x 0) A = some (.agg [.int .i64 a, .int .i64 b, .int .i64 c]) := At.load h (At.all _) ag57 sz57 rfl
end Go.Sv.Try
namespace Go.Sv.Try
open Go Go.Proofs
set_option linter.unusedVariables false
set_option linter.unusedSimpArgs false
section
variable {A B C : AS} {rp cp : Nat} {r r' : Rd} {vb : Nat → Nat} {fk : Option Nat} {cp2 n : Nat} {vb2 : Nat → Nat} {v2 : Vt}
set_option maxRecDepth 10000 in
set_option maxHeartbeats 32000000 in
theorem roundOnce_spec {m : Hp} {A : AS} {v : V} {l : List InP} (hw : WF A) (hm : m.on A) (h : Slc eIn m v l) {n me ht : Int} (h1 : IntIn .i64 n) (h3 : IntIn .i64 ht) : ∃ w A', EvF Try.prog HH 5 [.agg [.int .i64 n, .int .i64 me, .int .i64 ht], v] A w A' ∧ w = .bool true := by
  refine run_fn2 rfl Try.func5 (by unfold Try.f5; rfl) Try.ntmps5 (by unfold Try.f5; rfl) (by simp) ?_
  simp only [RT, Nat.reduceLT, Nat.reduceBEq, Nat.reduceEqDiff, Nat.reduceAdd, Int.reduceEq, Int.reduceLT, Int.reduceLE, Int.reduceGT, Int.reduceGE]
  obtain ⟨A1, e1, f1, r1, n1⟩ := new_var A [.int .i64 n, .int .i64 me, .int .i64 ht]
  rw [← e1]
  refine run_call1 (evF_ground rfl) ?_
  have hlen := fun B => h.len (P := Try.prog) Try.underlying58 B
  have w1 := f1.wf hw
  simp only [RT, Nat.reduceLT, Nat.reduceBEq, Nat.reduceEqDiff, Nat.reduceAdd, Int.reduceEq, Int.reduceLT, Int.reduceLE, Int.reduceGT, Int.reduceGE, ix3, ld3 r1]
  obtain ⟨w, A2, k1, f2, k2⟩ := newR_spec (me := me) w1 h1 h3
  refine run_call1 k1 ?_
  rcases k2 with ⟨er, he, rfl⟩ | ⟨n, me, rp, cp, vb, rfl, rfl, hn, hme, ht0, ht1, rfl, hR, hN, hcpl⟩
  · simp only [RT, Nat.reduceLT, Nat.reduceBEq, Nat.reduceEqDiff, Nat.reduceAdd, Int.reduceEq, Int.reduceLT, Int.reduceLE, Int.reduceGT, Int.reduceGE, decide_eq_true (show ¬ (er = 0) from he)]
  simp only [RT, Nat.reduceLT, Nat.reduceBEq, Nat.reduceEqDiff, Nat.reduceAdd, Int.reduceEq, Int.reduceLT, Int.reduceLE, Int.reduceGT, Int.reduceGE, pEqR, hlen]
  refine condK_of (fun g => ?_) (fun g => ?_)
  · simp only [RT, Nat.reduceLT, Nat.reduceBEq, Nat.reduceEqDiff, Nat.reduceAdd, Int.reduceEq, Int.reduceLT, Int.reduceLE, Int.reduceGT, Int.reduceGE]
  simp only [RT, Nat.reduceLT, Nat.reduceBEq, Nat.reduceEqDiff, Nat.reduceAdd, Int.reduceEq, Int.reduceLT, Int.reduceLE, Int.reduceGT, Int.reduceGE, ix3, ld3 (f2.row0 r1)]
  obtain ⟨w, A3, k3, f3, k4⟩ := cntNew_spec (f2.wf w1) h1.1 h1.2
  refine run_call1 k3 ?_
  rcases k4 with ⟨q, rfl⟩ | ⟨n', cp2, vb2, qn, hn', rfl, hC, hcp2, hvb2⟩
  · exact absurd hn (fun z => flts_bad q (by unfold okN at z; omega))
  obtain rfl : n' = n := by omega
  simp only [RT, Nat.reduceLT, Nat.reduceBEq, Nat.reduceEqDiff, Nat.reduceAdd, Int.reduceEq, Int.reduceLT, Int.reduceLE, Int.reduceGT, Int.reduceGE, pEqC, mkm62, mkm63, hlen]
  have hJ3 := J2.new f2 hR hN f3 hC hcp2 hvb2
  have fm1 := Fr.pushMap A3 ⟨[], 0⟩
  have sm1 := SetIs.new (enc := encT) A3
  have ml1 : (A3.pushMap ⟨[], 0⟩).maps.length = A3.maps.length + 1 := by show (A3.maps ++ [_]).length = _; simp
  generalize A3.pushMap ⟨[], 0⟩ = A4 at *
  have fm2 := Fr.pushMap A4 ⟨[], 0⟩
  have sm2 := SetIs.new (enc := encI) A4
  generalize A4.pushMap ⟨[], 0⟩ = A5 at *
  have hJ4 := (hJ3.s0 fm1).s0 fm2
  obtain ⟨m1, hm1⟩ : ∃ b, b = A3.maps.length := ⟨_, rfl⟩
  obtain ⟨m2, hm2⟩ : ∃ b, b = A4.maps.length := ⟨_, rfl⟩
  obtain ⟨b0, hb0⟩ : ∃ b, b = A.blk.length := ⟨_, rfl⟩
  have r4 := fm2.row0 (fm1.row0 (f3.row0 (f2.row0 r1)))
  have hb0r : b0 ≠ rp := by have := hN.1; have := f1.len; omega
  have hm12 : m1 ≠ m2 := by omega
  have hm1A : A1.maps.length ≤ m1 := by have := f2.mlen; have := f3.mlen; omega
  have hm2A : A1.maps.length ≤ m2 := by omega
  have sm1' := sm1.fr0 fm2
  rw [← hm1] at sm1' ⊢
  rw [← hm2] at sm2 ⊢
  rw [← hb0] at r4 ⊢
  refine run_loop_j (fun z e B => ∃ (i : Nat) (r : Rd) (s : Led) (fk : Option Nat) (X : Int × Int × Int → Prop) (Y : Id32 → Prop) (dn : Bool), z = l.length - i ∧ i ≤ l.length ∧ e.get 54 = .int .i64 i ∧ e.get 5 = .ptr rp 0 ∧ e.get 7 = .ptr cp2 0 ∧ e.get 9 = .map m1 ∧ e.get 10 = .map m2 ∧ e.get 11 = .bool dn ∧ e.get 2 = .ptr b0 0 ∧ e.get 52 = v ∧ e.get 53 = .int .i64 l.length ∧ J2 A1 B rp cp vb r fk cp2 n' vb2 s.v ∧ B.blk[b0]? = some ⟨[.int .i64 n', .int .i64 me, .int .i64 ht], .var⟩ ∧ SetIs B m1 encT X ∧ SetIs B m2 encI Y ∧ (∀ k, X k → cov s me k) ∧ (∀ y : Id32, y.1 ∈ r.known → Y y) ∧ (dn = true → s.done = true) ∧ Rng r ∧ r.acts = [] ∧ Mt s r ∧ r.n = n' ∧ r.me = me)
    (fun z e B => Is z (.exit 0))
    ⟨_, 0, rd0 n' me ht, led0, none, fun _ => False, fun _ => False, false, rfl, by omega, rfl, rfl, rfl, rfl, rfl, rfl, rfl, rfl, rfl, hJ4, r4, sm1', sm2, fun k q => q.elim, (fun y q => by simp [rd0] at q), (fun q => by cases q), rng0 hme ht0 ht1, rfl, mt0 hn hme, rfl, rfl⟩ ?_ ?_
  rotate_left
  · rintro z e B hz rfl
    simp only [RT, Nat.reduceLT, Nat.reduceBEq, Nat.reduceEqDiff, Nat.reduceAdd, Int.reduceEq, Int.reduceLT, Int.reduceLE, Int.reduceGT, Int.reduceGE]
  rintro z e B ⟨i, r, s, fk, X, Y, dn, rfl, hi, h54, h5, h7, h9, h10, h11, h2, h52, h53, hJ, q0, qX, qY, hX, hY, hdn, hr, ha, hM, hrn, hrm⟩
  simp only [RT, Nat.reduceLT, Nat.reduceBEq, Nat.reduceEqDiff, Nat.reduceAdd, Int.reduceEq, Int.reduceLT, Int.reduceLE, Int.reduceGT, Int.reduceGE, h53, h54]
  refine condK_of (fun g => ?_) (fun g => ?_)
  rotate_left
  · simp only [RT, Nat.reduceLT, Nat.reduceBEq, Nat.reduceEqDiff, Nat.reduceAdd, Int.reduceEq, Int.reduceLT, Int.reduceLE, Int.reduceGT, Int.reduceGE]
    rfl
  obtain ⟨x, hx⟩ := get_lt (l := l) (i := i) (by omega)
  obtain ⟨b, o, c, g3, g4, g5⟩ := h.at (P := Try.prog) (k := .i64) (hm.fr0 (f1.then0 hJ.fr)) Try.underlying58 sz65 ag65 hx
  obtain ⟨rfl, hid⟩ := eIn_W g5
  obtain ⟨C, t1, t2, t3⟩ := newIn (A := B) hid
  have hrpB : rp < B.blk.length := by obtain ⟨_, _, b, _⟩ := hJ.rd.box; exact row_lt b
  have hIr : B.blk.length ≠ rp := by omega
  have fI := faIn B.blk.length
  have la := ldIn t3 hid
  have hJC := hJ.s0 t2
  have q0C := t2.row0 q0
  have qXC := qX.fr0 t2
  have qYC := qY.fr0 t2
  simp only [RT, Nat.reduceLT, Nat.reduceBEq, Nat.reduceEqDiff, Nat.reduceAdd, Int.reduceEq, Int.reduceLT, Int.reduceLE, Int.reduceGT, Int.reduceGE, h52, h54, g3, g4, zcIn, t1, fI, la]
  by_cases q6 : (toIn x).kind = 6
  · simp only [RT, Nat.reduceLT, Nat.reduceBEq, Nat.reduceEqDiff, Nat.reduceAdd, Int.reduceEq, Int.reduceLT, Int.reduceLE, Int.reduceGT, Int.reduceGE, decide_eq_true q6, h54]
    refine ⟨l.length - (i + 1), by omega, i + 1, r, s, fk, X, Y, dn, rfl, by omega, by rw [wrapS (by omega)], ?_⟩
    and_intros <;> assumption
  by_cases q7 : (toIn x).kind = 7
  · simp only [RT, Nat.reduceLT, Nat.reduceBEq, Nat.reduceEqDiff, Nat.reduceAdd, Int.reduceEq, Int.reduceLT, Int.reduceLE, Int.reduceGT, Int.reduceGE, decide_eq_false q6, decide_eq_true q7, h54, fI, la]
    refine ⟨l.length - (i + 1), by omega, i + 1, r, s, fk, X, Y, dn, rfl, by omega, by rw [wrapS (by omega)], ?_⟩
    and_intros <;> assumption
  simp only [RT, Nat.reduceLT, Nat.reduceBEq, Nat.reduceEqDiff, Nat.reduceAdd, Int.reduceEq, Int.reduceLT, Int.reduceLE, Int.reduceGT, Int.reduceGE, decide_eq_false q6, decide_eq_false q7, fI, la]
  have three : ((toIn x).kind = 3 ∧ (toIn x).who ≠ me) ∨ ((toIn x).kind = 3 ∧ (toIn x).who = me) ∨ (toIn x).kind = 1 ∨ ((toIn x).kind ≠ 3 ∧ (toIn x).kind ≠ 1) := by
    by_cases q : (toIn x).kind = 3
    · by_cases w : (toIn x).who = me
      · exact .inr (.inl ⟨q, w⟩)
      · exact .inl ⟨q, w⟩
    · by_cases w : (toIn x).kind = 1
      · exact .inr (.inr (.inl w))
      · exact .inr (.inr (.inr ⟨q, w⟩))
  have ixm := (ix3 b0).2.1
  have ldm := (ld3 q0C).2.1
  rcases three with ⟨y1, y2⟩ | ⟨y1, y2⟩ | y1 | ⟨y1, y2⟩
  have ldm := ldm
  obtain ⟨_, C', p1, p2, rfl, p3⟩ := put_spec (hJC.fr.wf w1) hJC.c2 (toIn x).round (toIn x).num (toIn x).who hid
  have nv : ∀ {b : Nat} {cs : List V}, C.blk[b]? = some ⟨cs, .var⟩ → C'.blk[b]? = some ⟨cs, .var⟩ := fun hb => p2.row _ _ hb (by rintro ⟨j, hj, q⟩; injection q with q; exact hJC.c2.nevar hj hb q.symm)
  have la' := ldIn (nv t3) hid
  simp only [RT, Nat.reduceLT, Nat.reduceBEq, Nat.reduceEqDiff, Nat.reduceAdd, Int.reduceEq, Int.reduceLT, Int.reduceLE, Int.reduceGT, Int.reduceGE, decide_eq_true y1, fI, la, h2, ixm, ldm, decide_eq_true (show ¬ ((toIn x).who = (me : Int)) from y2), h7]
  refine run_call1 p1 ?_
  simp only [RT, Nat.reduceLT, Nat.reduceBEq, Nat.reduceEqDiff, Nat.reduceAdd, Int.reduceEq, Int.reduceLT, Int.reduceLE, Int.reduceGT, Int.reduceGE, fI, la', decide_eq_false (show ¬ ((toIn x).kind = 1) by omega)]
  have hg : giveV r.n r.me s.v (toIn x) = putV n' s.v (toIn x).round (toIn x).num (toIn x).who (toIn x).id := by unfold giveV; rw [if_pos ⟨y1, by rw [hrm]; exact y2⟩, hrn]
  have hJ' := hJC.put p2 p3
  rw [← hg] at hJ'
  have t3' := nv t3
  have q0' := nv q0C
  have qX' := qXC.fr p2 (by rintro ⟨j, hj, q⟩; cases q)
  have qY' := qYC.fr p2 (by rintro ⟨j, hj, q⟩; cases q)
  have hY' : ∀ y : Id32, y.1 ∈ giveK r (toIn x) → Y y := fun y q => by
    rcases giveK_mem q7 q with q | q
    · exact hY y q
    · omega
  rotate_left
  simp only [RT, Nat.reduceLT, Nat.reduceBEq, Nat.reduceEqDiff, Nat.reduceAdd, Int.reduceEq, Int.reduceLT, Int.reduceLE, Int.reduceGT, Int.reduceGE, decide_eq_true y1, fI, la, h2, ixm, ldm, decide_eq_false (show ¬ ¬ ((toIn x).who = (me : Int)) from fun z => z y2), decide_eq_false (show ¬ ((toIn x).kind = 1) by omega)]
  have hg : giveV r.n r.me s.v (toIn x) = s.v := by unfold giveV; rw [if_neg (fun z => z.2 (by rw [hrm]; exact y2))]
  have hJ' := hJC
  rw [← hg] at hJ'
  have t3' := t3
  have q0' := q0C
  have qX' := qXC
  have qY' := qYC
  have hY' : ∀ y : Id32, y.1 ∈ giveK r (toIn x) → Y y := fun y q => by
    rcases giveK_mem q7 q with q | q
    · exact hY y q
    · omega
  rotate_left
  obtain ⟨C', u1, u2, u3⟩ := qYC.put (P := Try.prog) kId mt63 ⟨(toIn x).id, hid⟩
  have u1 : evMapUpdate Try.prog 63 (.map m2) (.agg (bc (toIn x).id)) (.bool true) C = some C' := u1
  simp only [RT, Nat.reduceLT, Nat.reduceBEq, Nat.reduceEqDiff, Nat.reduceAdd, Int.reduceEq, Int.reduceLT, Int.reduceLE, Int.reduceGT, Int.reduceGE, decide_eq_false (show ¬ ((toIn x).kind = 3) by omega), decide_eq_true y1, fI, la, h10, u1]
  have hg : giveV r.n r.me s.v (toIn x) = s.v := by unfold giveV; rw [if_neg (fun z => by have := z.1; omega)]
  have hJ' := hJC.map hm2A u2
  rw [← hg] at hJ'
  have t3' := u2.row _ _ t3 (fun q => by cases q)
  have q0' := u2.row _ _ q0C (fun q => by cases q)
  have qX' := qXC.fr u2 (fun q => hm12 (by injection q))
  have qY' := u3
  have hY' : ∀ y : Id32, y.1 ∈ giveK r (toIn x) → Y y ∨ y = ⟨(toIn x).id, hid⟩ := fun y q => by
    rcases giveK_mem q7 q with q | q
    · exact .inl (hY y q)
    · exact .inr (Subtype.ext q.2)
  rotate_left
  simp only [RT, Nat.reduceLT, Nat.reduceBEq, Nat.reduceEqDiff, Nat.reduceAdd, Int.reduceEq, Int.reduceLT, Int.reduceLE, Int.reduceGT, Int.reduceGE, decide_eq_false (show ¬ ((toIn x).kind = 3) from y1), decide_eq_false (show ¬ ((toIn x).kind = 1) from y2), fI, la]
  have hg : giveV r.n r.me s.v (toIn x) = s.v := by unfold giveV; rw [if_neg (fun z => y1 z.1)]
  have hJ' := hJC
  rw [← hg] at hJ'
  have t3' := t3
  have q0' := q0C
  have qX' := qXC
  have qY' := qYC
  have hY' : ∀ y : Id32, y.1 ∈ giveK r (toIn x) → Y y := fun y q => by
    rcases giveK_mem q7 q with q | q
    · exact hY y q
    · exact absurd q.1 y2
  rotate_left
  all_goals
    have laJ := ldIn t3' hid
    obtain ⟨w, D, m1', m2'⟩ := give1_spec (hJ'.fr.wf w1) hJ'.rd hr ha hid
    simp only [RT, Nat.reduceLT, Nat.reduceBEq, Nat.reduceEqDiff, Nat.reduceAdd, Int.reduceEq, Int.reduceLT, Int.reduceLE, Int.reduceGT, Int.reduceGE, h5, laJ]
    refine run_call1 m1' ?_
    obtain ⟨fk', fo, hJ2, m4, hfo, hkv, hkm⟩ := hJ'.give w1 m2'
    obtain ⟨s1, u1, u2, u3, u4, u5, u6, u7, u8⟩ := give_ok hM ha q6
    rw [← u1] at hJ2
    obtain ⟨v1, v2⟩ := hr.give ha (toIn x)
    obtain ⟨L, hL⟩ : ∃ L, L = (r.give (toIn x)).2 := ⟨_, rfl⟩
    have hLn : L.length ≤ 2001 := by rw [hL]; exact give_len hr ha _
    have mt2 := u7.mt
    have gd := u7.good
    have kp := u7.kp
    rw [← hL] at m4 mt2 gd
    have gd : Led.good n' me (giveK r (toIn x)) s1 L := by rw [← hrn, ← hrm]; exact gd
    have mt2 : Mt (L.foldl (Led.after me) s1) (r.give (toIn x)).1 := by rw [← hrm]; exact mt2
    have hrn2 : (r.give (toIn x)).1.n = n' := kp.n.trans hrn
    have hrm2 : (r.give (toIn x)).1.me = me := kp.me.trans hrm
    have hkn2 : (r.give (toIn x)).1.known = giveK r (toIn x) := kp.known
    have q0D := hkv _ _ q0' hb0r
    have qXD := qX'.keep (hkm m1)
    obtain ⟨Z, qYD, hYZ⟩ : ∃ Z : Id32 → Prop, SetIs D m2 encI Z ∧ ∀ y : Id32, y.1 ∈ giveK r (toIn x) → Z y := ⟨_, qY'.keep (hkm m2), hY'⟩
    have hX1 : ∀ k, X k → cov s1 me k := fun k q => cov_give (n := r.n) (by rw [u1, hrm]) u2 u3 u6 (hX k q)
    have hdn1 : dn = true → s1.done = true := fun q => by rw [u6]; exact hdn q
    have hln := fun B => m4.len (P := Try.prog) Try.underlying35 B
    simp only [RT, Nat.reduceLT, Nat.reduceBEq, Nat.reduceEqDiff, Nat.reduceAdd, Int.reduceEq, Int.reduceLT, Int.reduceLE, Int.reduceGT, Int.reduceGE, hln]
    refine run_loop_j (fun z e B => ∃ (j : Nat) (s2 : Led) (X2 : Int × Int × Int → Prop) (dn2 : Bool), z = L.length - j ∧ j ≤ L.length ∧ s2 = (L.take j).foldl (Led.after me) s1 ∧ e.get 96 = .int .i64 j ∧ e.get 11 = .bool dn2 ∧ J2 A1 B rp cp vb (r.give (toIn x)).1 fk' cp2 n' vb2 s2.v ∧ Lst eAct Hp.emp B w L fo ∧ B.blk[b0]? = some ⟨[.int .i64 n', .int .i64 me, .int .i64 ht], .var⟩ ∧ SetIs B m1 encT X2 ∧ SetIs B m2 encI Z ∧ (∀ k, X2 k → cov s2 me k) ∧ (dn2 = true → s2.done = true) ∧ e.get 5 = .ptr rp 0 ∧ e.get 7 = .ptr cp2 0 ∧ e.get 9 = .map m1 ∧ e.get 10 = .map m2 ∧ e.get 2 = .ptr b0 0 ∧ e.get 52 = v ∧ e.get 53 = .int .i64 l.length ∧ e.get 54 = .int .i64 i ∧ e.get 94 = w ∧ e.get 95 = .int .i64 L.length)
      (fun z e B => Is z (.exit 2) ∧ ∃ (s2 : Led) (X2 : Int × Int × Int → Prop) (dn2 : Bool), s2 = L.foldl (Led.after me) s1 ∧ e.get 11 = .bool dn2 ∧ J2 A1 B rp cp vb (r.give (toIn x)).1 fk' cp2 n' vb2 s2.v ∧ B.blk[b0]? = some ⟨[.int .i64 n', .int .i64 me, .int .i64 ht], .var⟩ ∧ SetIs B m1 encT X2 ∧ SetIs B m2 encI Z ∧ (∀ k, X2 k → cov s2 me k) ∧ (dn2 = true → s2.done = true) ∧ e.get 5 = .ptr rp 0 ∧ e.get 7 = .ptr cp2 0 ∧ e.get 9 = .map m1 ∧ e.get 10 = .map m2 ∧ e.get 2 = .ptr b0 0 ∧ e.get 52 = v ∧ e.get 53 = .int .i64 l.length ∧ e.get 54 = .int .i64 i)
      ⟨_, 0, s1, X, dn, rfl, by omega, rfl, rfl, h11, hJ2, m4, q0D, qXD, qYD, hX1, hdn1, h5, h7, h9, h10, h2, h52, h53, h54, rfl, rfl⟩ ?_ ?_
    rotate_left
    · rintro z e B hz ⟨rfl, s2, X2, dn2, hs2, h11, hJ, q0, qX, qY, hX2, hd2, h5, h7, h9, h10, h2, h52, h53, h54⟩
      simp only [RT, Nat.reduceLT, Nat.reduceBEq, Nat.reduceEqDiff, Nat.reduceAdd, Int.reduceEq, Int.reduceLT, Int.reduceLE, Int.reduceGT, Int.reduceGE, h54]
      rw [← hs2] at mt2
      refine ⟨l.length - (i + 1), by omega, i + 1, (r.give (toIn x)).1, s2, fk', X2, Z, dn2, rfl, by omega, by rw [wrapS (by omega)], ?_⟩
      rw [hkn2]
      and_intros <;> assumption
    rintro z e B ⟨j, s2, X2, dn2, rfl, hj, hs2, h96, h11, hJ, hLs, q0, qX, qY, hX2, hd2, h5, h7, h9, h10, h2, h52, h53, h54, h94, h95⟩
    simp only [RT, Nat.reduceLT, Nat.reduceBEq, Nat.reduceEqDiff, Nat.reduceAdd, Int.reduceEq, Int.reduceLT, Int.reduceLE, Int.reduceGT, Int.reduceGE, h95, h96]
    refine condK_of (fun g => ?_) (fun g => ?_)
    rotate_left
    · have : j = L.length := by omega
      subst this; rw [List.take_length] at hs2
      simp only [RT, Nat.reduceLT, Nat.reduceBEq, Nat.reduceEqDiff, Nat.reduceAdd, Int.reduceEq, Int.reduceLT, Int.reduceLE, Int.reduceGT, Int.reduceGE]
      refine ⟨rfl, s2, X2, dn2, hs2, ?_⟩
      and_intros <;> assumption
    obtain ⟨a, hax⟩ := get_lt (l := L) (i := j) (by omega)
    obtain ⟨b2, o2, c2, g3, g4, g5⟩ := hLs.at (P := Try.prog) (k := .i64) (Hp.on_emp B) Try.underlying35 sz42 ag42 hax
    obtain ⟨rfl, hal⟩ := eAct_W.1 g5
    obtain ⟨E, e1, e2, e3⟩ := newAc (A := B) hal
    obtain ⟨F, f1', f2', f3', f4'⟩ := newK3 (A := E) a.kind a.round a.num
    have fA := faAc0 B.blk.length
    have la2 := ldA0 e3 hal
    have la3 := ldA0 (f2'.row0 e3) hal
    have hok := good_at gd hax
    rw [← hs2] at hok
    have hnx : s2.after me a = (L.take (j + 1)).foldl (Led.after me) s1 := by rw [fold_snoc hax, ← hs2]
    have hno : ¬ X2 (keyA a) := fun q => ok_new hok (hX2 _ q)
    have hcv : ∀ k, X2 k ∨ k = keyA a → cov (s2.after me a) me k := fun k q => cov_after hok (q.imp (hX2 k) id)
    have hd0 : dn2 = false := by
      cases dn2 with
      | false => rfl
      | true => have := hd2 rfl; rw [ok_done0 hok] at this; cases this
    subst hd0
    have hJF := (hJ.s0 e2).s0 f2'
    have hLF := (hLs.fr0 e2).fr0 f2'
    have q0F := f2'.row0 (e2.row0 q0)
    have qXF := (qX.fr0 e2).fr0 f2'
    have qYF := (qY.fr0 e2).fr0 f2'
    have hwr : IntKind.i64.wrap ((j : Int) + 1) = ((j + 1 : Nat) : Int) := by rw [wrapS (by omega)]
    simp only [RT, Nat.reduceLT, Nat.reduceBEq, Nat.reduceEqDiff, Nat.reduceAdd, Int.reduceEq, Int.reduceLT, Int.reduceLE, Int.reduceGT, Int.reduceGE, h94, h96, g3, g4, zcA, e1, fA, la2, bldK3, zc57, f1', la3]
    by_cases k4 : a.kind = 4
    · have hky : keyA a = (4, 0, 0) := by unfold keyA; rw [if_pos k4]
      obtain ⟨G, x1, x2, x3⟩ := setK3 4 0 0 f3'
      have nF : ∀ {b : Nat} {kk : Blk}, B.blk[b]? = some kk → b ≠ E.blk.length := fun q => by have := (List.getElem?_eq_some_iff.1 q).1; have := e2.len; omega
      have fG : Fr S0 E G := f2'.row_ x2 (Nat.le_refl _)
      have hJG := (hJ.s0 e2).s0 fG
      have hLG := (hLs.fr0 e2).fr0 fG
      have q0G := fG.row0 (e2.row0 q0)
      have qXG := (qX.fr0 e2).fr0 fG
      have qYG := (qY.fr0 e2).fr0 fG
      have la4 := ldA0 (fG.row0 e3) hal
      have lk1 := qXG.no (P := Try.prog) kTri mt62 zb hno
      obtain ⟨I, u1, u2, u3⟩ := qXG.put (P := Try.prog) kTri mt62 (keyA a)
      rw [hky] at lk1 u1
      have lk1 : evLookup Try.prog 62 (.map m1) (.agg [.int .i64 4, .int .i64 0, .int .i64 0]) false G = some (.bool false) := lk1
      have u1 : evMapUpdate Try.prog 62 (.map m1) (.agg [.int .i64 4, .int .i64 0, .int .i64 0]) (.bool true) G = some I := u1
      have hJI := hJG.map hm1A u2
      have la5 := ldA0 (u2.row _ _ (fG.row0 e3) (fun q => by cases q)) hal
      obtain ⟨d1, d2⟩ := ok_done4 hok k4
      obtain ⟨d3, d4⟩ := sureN_some d1
      obtain ⟨_, H, y1, y2, rfl⟩ := sureC_spec (r := a.round) (k := 1) (hJI.fr.wf w1) hJI.c2
      rw [d3] at y1
      have y1 : EvF Try.prog HH 25 [.ptr cp2 0, .int .i64 a.round, .int .i64 1] I (.tup [.agg (bc a.id), .bool true]) H := y1
      obtain ⟨J, z1, z2, z3⟩ := newId (A := H) hal
      obtain ⟨_, K, n1, rfl, n2⟩ := nil_spec (A := J)
      have la6 := ldA0 (z2.row0 (y2.row0 (u2.row _ _ (fG.row0 e3) (fun q => by cases q)))) hal
      have qYK := (((qYG.fr u2 (fun q => hm12 (by injection q with q; exact q.symm))).fr0 y2).fr0 z2).fr0 n2
      have lk2 := qYK.yes (P := Try.prog) kId mt63 zb (hYZ ⟨a.id, hal⟩ d2)
      have lk2 : evLookup Try.prog 63 (.map m2) (.agg (bc a.id)) false K = some (.bool true) := lk2
      have ldJ := ldId z3 hal
      have ldK := ldId (n2.row0 z3) hal
      simp only [RT, Nat.reduceLT, Nat.reduceBEq, Nat.reduceEqDiff, Nat.reduceAdd, Int.reduceEq, Int.reduceLT, Int.reduceLE, Int.reduceGT, Int.reduceGE, decide_eq_true k4, fA, la3, bldK1, k4, x1, h9, ldK3 x3, lk1, h11, u1, la4, la5, decide_eq_false (show ¬ (a.kind = 2) by omega), h7]
      refine run_call1 y1 ?_
      simp only [RT, Nat.reduceLT, Nat.reduceBEq, Nat.reduceEqDiff, Nat.reduceAdd, Int.reduceEq, Int.reduceLT, Int.reduceLE, Int.reduceGT, Int.reduceGE, zcI, z1]
      simp only [RT, Nat.reduceLT, Nat.reduceBEq, Nat.reduceEqDiff, Nat.reduceAdd, Int.reduceEq, Int.reduceLT, Int.reduceLE, Int.reduceGT, Int.reduceGE, pl_5_34, rc_nil, ldJ, fA, la6, eqZ hal hal, decide_eq_false (show ¬ ¬ (a.id = a.id) from fun z => z rfl)]
      refine run_call1 n1 ?_
      simp only [RT, Nat.reduceLT, Nat.reduceBEq, Nat.reduceEqDiff, Nat.reduceAdd, Int.reduceEq, Int.reduceLT, Int.reduceLE, Int.reduceGT, Int.reduceGE, rc_nil, eqZ hal n32_len, decide_eq_false (show ¬ (a.id = n32) from d4), h10, ldK, lk2]
      refine ⟨rc_gload rfl rfl rfl rfl rfl ldK rfl rc_nil, ?_⟩
      simp only [RT, Nat.reduceLT, Nat.reduceBEq, Nat.reduceEqDiff, Nat.reduceAdd, Int.reduceEq, Int.reduceLT, Int.reduceLE, Int.reduceGT, Int.reduceGE, h96, hwr]
      have hJK : J2 A1 K rp cp vb (r.give (toIn x)).1 fk' cp2 n' vb2 (s2.after me a).v := by rw [(after4 k4).1]; exact ((hJI.s0 y2).s0 z2).s0 n2
      have hLK := (((hLG.fr u2 (fun b q => by cases q)).fr0 y2).fr0 z2).fr0 n2
      have q0K := n2.row0 (z2.row0 (y2.row0 (u2.row _ _ q0G (fun q => by cases q))))
      have qXK := ((u3.fr0 y2).fr0 z2).fr0 n2
      have hdK : true = true → (s2.after me a).done = true := fun _ => (after4 k4).2
      refine ⟨L.length - (j + 1), by omega, j + 1, s2.after me a, fun x => X2 x ∨ x = keyA a, true, rfl, by omega, hnx, ?_⟩
      and_intros <;> first | rfl | assumption
    have hky : keyA a = (a.kind, a.round, a.num) := by unfold keyA; rw [if_neg k4]
    have lk1 := qXF.no (P := Try.prog) kTri mt62 zb hno
    obtain ⟨I, u1, u2, u3⟩ := qXF.put (P := Try.prog) kTri mt62 (keyA a)
    rw [hky] at lk1 u1
    have lk1 : evLookup Try.prog 62 (.map m1) (.agg [.int .i64 a.kind, .int .i64 a.round, .int .i64 a.num]) false F = some (.bool false) := lk1
    have u1 : evMapUpdate Try.prog 62 (.map m1) (.agg [.int .i64 a.kind, .int .i64 a.round, .int .i64 a.num]) (.bool true) F = some I := u1
    have hJI := hJF.map hm1A u2
    have e5 := u2.row _ _ (f2'.row0 e3) (fun q => by cases q)
    have la5 := ldA0 e5 hal
    have q0I := u2.row _ _ q0F (fun q => by cases q)
    have hLI := hLF.fr u2 (fun b q => by cases q)
    have qYI := qYF.fr u2 (fun q => hm12 (by injection q with q; exact q.symm))
    by_cases k2 : a.kind = 2
    · obtain ⟨c1, _⟩ := ok_vote hok k2
      obtain ⟨_, J, p1, p2, rfl, p3⟩ := put_spec (hJI.fr.wf w1) hJI.c2 a.round a.num me hal
      rw [putV_set c1] at p3
      have nvJ : ∀ {b : Nat} {cs : List V}, I.blk[b]? = some ⟨cs, .var⟩ → J.blk[b]? = some ⟨cs, .var⟩ := fun hb => p2.row _ _ hb (by rintro ⟨j, hj, q⟩; injection q with q; exact hJI.c2.nevar hj hb q.symm)
      have la6 := ldA0 (nvJ e5) hal
      have ixm := (ix3 b0).2.1
      have ldm := (ld3 q0I).2.1
      simp only [RT, Nat.reduceLT, Nat.reduceBEq, Nat.reduceEqDiff, Nat.reduceAdd, Int.reduceEq, Int.reduceLT, Int.reduceLE, Int.reduceGT, Int.reduceGE, decide_eq_false k4, h9, ldK3 f3', lk1, h11, u1, fA, la5, decide_eq_true k2, h7, h2, ixm, ldm]
      refine run_call1 p1 ?_
      simp only [RT, Nat.reduceLT, Nat.reduceBEq, Nat.reduceEqDiff, Nat.reduceAdd, Int.reduceEq, Int.reduceLT, Int.reduceLE, Int.reduceGT, Int.reduceGE, fA, la6, decide_eq_false k4, h96, hwr]
      have hJK : J2 A1 J rp cp vb (r.give (toIn x)).1 fk' cp2 n' vb2 (s2.after me a).v := by rw [after_v2 k2]; exact hJI.put p2 p3
      have hLK := hLI.fr p2 (offVb' hJI.c2 hfo)
      have q0K := nvJ q0I
      have qXK := u3.fr p2 (by rintro ⟨j, hj, q⟩; cases q)
      have qYK := qYI.fr p2 (by rintro ⟨j, hj, q⟩; cases q)
      refine ⟨L.length - (j + 1), by omega, j + 1, s2.after me a, fun x => X2 x ∨ x = keyA a, false, rfl, by omega, hnx, ?_⟩
      and_intros <;> first | rfl | assumption | (intro q; cases q)
    · simp only [RT, Nat.reduceLT, Nat.reduceBEq, Nat.reduceEqDiff, Nat.reduceAdd, Int.reduceEq, Int.reduceLT, Int.reduceLE, Int.reduceGT, Int.reduceGE, decide_eq_false k4, h9, ldK3 f3', lk1, h11, u1, fA, la5, decide_eq_false k2, h96, hwr]
      have hJK : J2 A1 I rp cp vb (r.give (toIn x)).1 fk' cp2 n' vb2 (s2.after me a).v := by rw [(after_other k2).1]; exact hJI
      refine ⟨L.length - (j + 1), by omega, j + 1, s2.after me a, fun x => X2 x ∨ x = keyA a, false, rfl, by omega, hnx, ?_⟩
      and_intros <;> first | rfl | assumption | (intro q; cases q)
end
end Go.Sv.Try
