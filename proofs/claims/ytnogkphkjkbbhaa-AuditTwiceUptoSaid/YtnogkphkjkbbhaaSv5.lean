/- Slices of a family of rows of which nobody else reads: cut, and grown again. -/
import Derived.Test.YtnogkphkjkbbhaaSv4
namespace Go.Sv
open Go
set_option linter.unusedSimpArgs false
set_option linter.unusedVariables false
set_option linter.unnecessarySimpa false

/-- The rows of a family. -/
def inFam (A : AS) (f : Nat) : Loc → Prop
  | .row b => ∃ k base, A.blk[b]? = some k ∧ k.kind = .arr f base
  | .fam g => g = f
  | _ => False

/-- A part of a row of a family. -/
structure Part (A : AS) (v : V) (n sz : Nat) (cs : List V) (f : Nat) : Prop where
  len : cs.length = n * sz
  one : cs.all V.one = true
  fam : f < A.blk.length
  at_ : ∃ b o k base, v = .sl b o n sz ∧ A.blk[b]? = some k ∧ k.kind = .arr f base ∧ o + n * sz ≤ k.cells.length ∧ (k.cells.drop o).take (n * sz) = cs

theorem Part.form {A : AS} {v : V} {n sz f : Nat} {cs : List V} (h : Part A v n sz cs f) : ∃ b o n z, v = .sl b o n z := by
  obtain ⟨b, o, k, base, h, _⟩ := h.at_; exact ⟨_, _, _, _, h⟩
theorem Part.cells1 {A : AS} {v : V} {n sz f : Nat} {cs : List V} (h : Part A v n sz cs f) : v.cells = some [v] ∧ v.one = true := by
  obtain ⟨_, _, _, _, rfl⟩ := h.form; exact ⟨rfl, rfl⟩
theorem Part.fr {S : Loc → Prop} {A A' : AS} {v : V} {n sz f : Nat} {cs : List V} (h : Part A v n sz cs f) (hf : Fr S A A') (hs : ∀ b, S (.row b) → ∀ k base, A.blk[b]? = some k → k.kind ≠ .arr f base) : Part A' v n sz cs f := by
  obtain ⟨h1, h2, h3, b, o, k, base, h4, h5, h6, h7, h8⟩ := h
  exact ⟨h1, h2, by have := hf.len; omega, b, o, k, base, h4, hf.row b k h5 fun q => hs b q k base h5 h6, h6, h7, h8⟩
theorem Part.fr0 {A A' : AS} {v : V} {n sz f : Nat} {cs : List V} (h : Part A v n sz cs f) (hf : Fr S0 A A') : Part A' v n sz cs f := h.fr hf fun _ q => q.elim
theorem Part.frVar {A A' : AS} {v : V} {n sz f b : Nat} {cs cs' : List V} (h : Part A v n sz cs f) (hf : Fr (· = .row b) A A') (hb : A.blk[b]? = some ⟨cs', .var⟩) : Part A' v n sz cs f :=
  h.fr hf fun i q k base hk => by cases q; rw [hb] at hk; cases hk; simp

/-- What a part reads as. -/
theorem Part.src {P : Program} {tx el : TypeId} {A : AS} {v : V} {n sz f : Nat} {cs : List V} (h : Part A v n sz cs f) (hu : P.underlying tx = some (.slice el)) : srcV P tx sz v A = some (n, cs) := by
  obtain ⟨h1, h2, h3, b, o, k, base, rfl, h5, h6, h7, h8⟩ := h
  unfold srcV
  simp only [hu, if_true]
  unfold AS.range
  rw [h5]
  simp only []
  rw [if_pos h7, h8]; rfl
theorem Part.lenv {P : Program} {t e : TypeId} {A : AS} {v : V} {n sz f : Nat} {cs : List V} (h : Part A v n sz cs f) (hu : P.underlying t = some (.slice e)) (B : AS) : evLen P t v B = some (.int .i64 n) := by
  obtain ⟨b, o, k, base, rfl, _⟩ := h.at_
  unfold evLen; rw [hu]

/-- A part of a part. -/
theorem Part.sub {P : Program} {t e : TypeId} {A : AS} {v : V} {n sz f : Nat} {cs : List V} (h : Part A v n sz cs f) (hu : P.underlying t = some (.slice e)) (hs : szT P e = some sz) {lo hi : Nat} (h1 : lo ≤ hi) (h2 : hi ≤ n) {kl kh : IntKind} (B : AS) :
    ∃ w, evSlice P t v (some (.int kl lo)) (some (.int kh hi)) none B = some w ∧ Part A w (hi - lo) sz ((cs.take (hi * sz)).drop (lo * sz)) f := by
  obtain ⟨p1, p2, p3, b, o, k, base, rfl, p5, p6, p7, p8⟩ := h
  have m1 : lo * sz ≤ hi * sz := Nat.mul_le_mul_right _ h1
  have m2 : hi * sz ≤ n * sz := Nat.mul_le_mul_right _ h2
  have m3 : (hi - lo) * sz = hi * sz - lo * sz := Nat.sub_mul _ _ _
  refine ⟨.sl b (o + lo * sz) (hi - lo) sz, ?_, ?_, ?_, p3, b, o + lo * sz, k, base, rfl, p5, p6, by omega, ?_⟩
  · unfold evSlice
    simp only [hu, hs, boundV]
    have e1 : (lo : Int) ≤ hi := by omega
    have e2 : (hi : Int) ≤ n := by omega
    simp [e1, e2, h1, h2]
  · rw [List.length_drop, List.length_take, p1]; omega
  · rw [List.all_eq_true] at p2 ⊢
    exact fun x hx => p2 x (List.mem_of_mem_take (List.mem_of_mem_drop hx))
  · rw [← p8, List.take_take, Nat.min_eq_left m2, List.drop_take, List.drop_drop, m3]
theorem Part.subFrom {P : Program} {t e : TypeId} {A : AS} {v : V} {n sz f : Nat} {cs : List V} (h : Part A v n sz cs f) (hu : P.underlying t = some (.slice e)) (hs : szT P e = some sz) {lo : Nat} (h1 : lo ≤ n) {kl : IntKind} (B : AS) :
    ∃ w, evSlice P t v (some (.int kl lo)) none none B = some w ∧ Part A w (n - lo) sz (cs.drop (lo * sz)) f := by
  obtain ⟨w, q1, q2⟩ := h.sub (P := P) hu hs (lo := lo) (hi := n) (kl := kl) (kh := .i64) h1 (Nat.le_refl _) B
  rw [List.take_of_length_le (by rw [h.len]; exact Nat.le_refl _)] at q2
  refine ⟨w, ?_, q2⟩
  rw [← q1]
  obtain ⟨b, o, k, base, rfl, _⟩ := h.at_
  unfold evSlice; simp [hu, hs, boundV]
theorem Part.subTo3 {P : Program} {t e : TypeId} {A : AS} {v : V} {n sz f : Nat} {cs : List V} (h : Part A v n sz cs f) (hu : P.underlying t = some (.slice e)) (hs : szT P e = some sz) {hi : Nat} (h1 : hi ≤ n) {kh km : IntKind} (B : AS) :
    ∃ w, evSlice P t v none (some (.int kh hi)) (some (.int km hi)) B = some w ∧ Part A w hi sz (cs.take (hi * sz)) f := by
  obtain ⟨w, q1, q2⟩ := h.sub (P := P) hu hs (lo := 0) (hi := hi) (kl := .i64) (kh := kh) (by omega) h1 B
  rw [Nat.zero_mul, List.drop_zero, Nat.sub_zero] at q2
  refine ⟨w, ?_, q2⟩
  rw [← q1]
  obtain ⟨b, o, k, base, rfl, _⟩ := h.at_
  have e2 : (hi : Int) ≤ n := by omega
  unfold evSlice; simp [hu, hs, boundV, e2]

/-- A part that is grown: the rows of its family may be written. -/
theorem Part.append {P : Program} {A : AS} {v x : V} {t tx e : TypeId} {sz bt n k f : Nat} {cs new : List V} (h : Part A v n sz cs f) (hT : SlT P t e sz bt) (hw : WF A)
    (hsrc : srcV P tx sz x A = some (k, new)) (hk : new.length = k * sz) (hn : new.all V.one = true) (hbound : (n + k) * bt ≤ 140737488355328) (hbound2 : n + k ≤ 4611686018427387903) :
    ∃ v' A', evAppend P t tx v x A = some (v', A') ∧ Part A' v' (n + k) sz (cs ++ new) f ∧ Fr (inFam A f) A A' := by
  obtain ⟨zc, z1, z2⟩ := hT.z
  obtain ⟨z, rfl⟩ : ∃ z, sz = z + 1 := ⟨sz - 1, by have := hT.pos; omega⟩
  obtain ⟨p1, p2, p3, b, o, kb, base, rfl, p5, p6, p7, p8⟩ := h
  rw [evAppend_src hT.u hT.s hT.b z1 z2 hsrc hn]
  by_cases hk0 : k = 0
  · subst hk0
    have : new = [] := List.eq_nil_of_length_eq_zero (by rw [hk]; simp)
    subst this
    exact ⟨.sl b o n (z + 1), A, by simp, ⟨by simpa using p1, by simpa using p2, p3, b, o, kb, base, by simp, p5, p6, by simpa using p7, by simpa using p8⟩, .refl _ A⟩
  · have hrange : A.range b o (n * (z + 1)) = some cs := by
      unfold AS.range; rw [p5]; simp only []; rw [if_pos p7, p8]
    generalize hB : A.poison f (base + o + n * (z + 1)) (base + o + (n + k) * (z + 1)) none = B
    have hblk : ∀ (i : Nat), B.blk[i]? = (A.blk[i]?).map (poisonBlk f (base + o + n * (z + 1)) (base + o + (n + k) * (z + 1))) := fun i => by rw [← hB, poison_blk]
    have hlen : B.blk.length = A.blk.length := by rw [← hB]; simp [AS.poison]
    have hBm : B.maps = A.maps ∧ B.loops = A.loops ∧ B.its = A.its := by subst hB; exact ⟨rfl, rfl, rfl⟩
    have hl : (cs ++ new).length = (n + k) * (z + 1) := by rw [List.length_append, p1, hk, Nat.add_mul]
    refine ⟨.sl A.blk.length 0 (n + k) (z + 1), B.push ⟨cs ++ new, .arr f (base + o)⟩, ?_, ⟨hl, by rw [List.all_append, p2, hn]; rfl, by rw [push_len, hlen]; omega, A.blk.length, 0, ⟨cs ++ new, .arr f (base + o)⟩, base + o, rfl, ?_, rfl, by simp [hl], by rw [List.drop_zero, ← hl, List.take_length]⟩, ?_⟩
    · simp only [p5, hrange, p6]
      rw [if_neg (by simp), if_neg hk0, if_pos ⟨p2, hbound, hbound2⟩, hB]
    · rw [← hlen]; exact push_row B _
    · constructor
      · intro i x hi hns
        rw [push_blk, if_neg (by rw [hlen]; have := (List.getElem?_eq_some_iff.1 hi).1; omega), hblk, hi]
        simp only [Option.map_some, Option.some.injEq]
        refine poisonBlk_id fun base' hx => absurd ⟨x, base', hi, hx⟩ hns
      · intro i x hi
        have hp := poisonBlk_kind2 f (base + o + n * (z + 1)) (base + o + (n + k) * (z + 1)) x
        refine ⟨(poisonBlk f (base + o + n * (z + 1)) (base + o + (n + k) * (z + 1)) x).cells, ?_, hp.2⟩
        rw [push_blk, if_neg (by rw [hlen]; have := (List.getElem?_eq_some_iff.1 hi).1; omega), hblk, hi]
        simp only [Option.map_some, Option.some.injEq]
        cases hq : poisonBlk f (base + o + n * (z + 1)) (base + o + (n + k) * (z + 1)) x with
        | mk c kk => rw [hq] at hp; simp only [] at hp ⊢; rw [hp.1]
      · intro i x g base' hi hge hx
        rw [push_blk] at hi
        split at hi
        · cases hi; simp at hx
          rw [push_len, hlen]
          exact ⟨by omega, .inr (by show g = f; exact hx.1.symm)⟩
        · have := (List.getElem?_eq_some_iff.1 hi).1; omega
      · intro r mm hr _; show B.maps[r]? = _; rw [hBm.1]; exact hr
      · show A.maps.length ≤ B.maps.length; rw [hBm.1]; exact Nat.le_refl _
      · intro r mm hr _; show B.loops[r]? = _; rw [hBm.2.1]; exact hr
      · show A.loops.length ≤ B.loops.length; rw [hBm.2.1]; exact Nat.le_refl _
      · intro r mm hr _; show B.its[r]? = _; rw [hBm.2.2]; exact hr
      · show A.its.length ≤ B.its.length; rw [hBm.2.2]; exact Nat.le_refl _
/-- A first thing. -/
theorem Part.first {P : Program} {A : AS} {x : V} {t tx e : TypeId} {sz bt k : Nat} {new : List V} (hT : SlT P t e sz bt) (hsrc : srcV P tx sz x A = some (k, new)) (hk : new.length = k * sz) (hk0 : k ≠ 0) (hn : new.all V.one = true) (hbound : k * bt ≤ 140737488355328) (hbound2 : k ≤ 4611686018427387903) :
    ∃ v' A', evAppend P t tx .snil x A = some (v', A') ∧ Part A' v' k sz new A.blk.length ∧ Fr S0 A A' := by
  obtain ⟨zc, z1, z2⟩ := hT.z
  obtain ⟨z, rfl⟩ : ∃ z, sz = z + 1 := ⟨sz - 1, by have := hT.pos; omega⟩
  rw [evAppend_src hT.u hT.s hT.b z1 z2 hsrc hn]
  simp only []
  rw [if_neg hk0, if_pos ⟨hbound, hbound2⟩]
  exact ⟨_, _, rfl, ⟨hk, hn, by rw [push_len]; omega, A.blk.length, 0, _, 0, rfl, push_row A _, rfl, by simp [hk], by rw [List.drop_zero, ← hk, List.take_length]⟩, Fr.pushArr A new⟩

end Go.Sv


namespace Go.Sv
open Go
set_option linter.unusedSimpArgs false
set_option linter.unusedVariables false
set_option linter.unnecessarySimpa false

/-- A type of keys, and how keys are held. -/
structure KeyT (P : Program) (kt : TypeId) {κ : Type} [DecidableEq κ] (enc : κ → V) : Prop where
  ok : ∀ (k : κ) (es : List ME), (∀ e ∈ es, ∃ a, e.key = enc a) → keyOk P kt (enc k) es = true
  eq : ∀ a b, V.eqGround (enc a) (enc b) = decide (a = b)

theorem keysFit_of {sh : List CK} : ∀ {es : List ME}, (∀ e ∈ es, (match e.key with | .agg cs => fitsAll sh cs | v => fitsAll sh [v]) = true) → keysFit sh es = true
  | [], _ => rfl
  | e :: es, h => by
    unfold keysFit
    rw [Bool.and_eq_true]
    exact ⟨h e (by simp), keysFit_of fun x hx => h x (by simp [hx])⟩

theorem keyStr {P : Program} {kt : TypeId} (hs : shapeT P 50 kt = some [.str]) (ha : aggT P kt = some false) : KeyT P kt (fun s : List UInt8 => V.str s) where
  ok := fun k es h => by
    unfold keyOk
    simp only [hs, ha]
    rw [Bool.and_eq_true, Bool.and_eq_true]
    refine ⟨⟨rfl, keysFit_of fun e he => ?_⟩, List.all_eq_true.2 fun e he => ?_⟩
    · obtain ⟨a, q⟩ := h e he; rw [q]; rfl
    · obtain ⟨a, q⟩ := h e he; rw [q]
  eq := fun a b => by
    show (a == b) = _
    by_cases h : a = b <;> simp [h]
theorem keyPair {P : Program} {kt : TypeId} (hs : shapeT P 50 kt = some [.int .i64, .int .i64]) (ha : aggT P kt = some true) : KeyT P kt (fun p : Int × Int => V.agg [.int .i64 p.1, .int .i64 p.2]) where
  ok := fun k es h => by
    unfold keyOk
    simp only [hs, ha]
    rw [Bool.and_eq_true, Bool.and_eq_true]
    refine ⟨⟨rfl, keysFit_of fun e he => ?_⟩, List.all_eq_true.2 fun e he => ?_⟩
    · obtain ⟨a, q⟩ := h e he; rw [q]; rfl
    · obtain ⟨a, q⟩ := h e he; rw [q]
  eq := fun a b => by
    show ((IntKind.i64 == IntKind.i64 && a.1 == b.1) && ((IntKind.i64 == IntKind.i64 && a.2 == b.2) && true)) = _
    obtain ⟨a1, a2⟩ := a
    obtain ⟨b1, b2⟩ := b
    by_cases h1 : a1 = b1 <;> by_cases h2 : a2 = b2 <;> simp [h1, h2]

section
variable {κ β : Type} [DecidableEq κ] {enc : κ → V} {ev : β → V}

/-- What a key holds. -/
def lookL (l : List (κ × β)) (k : κ) : Option β := match l with
  | [] => none
  | (a, v) :: l => if k = a then some v else lookL l k

/-- A map holds a list. -/
def MapIs (A : AS) (r : Nat) (enc : κ → V) (ev : β → V) (l : List (κ × β)) : Prop := ∃ mo, A.maps[r]? = some mo ∧ mo.es.map (fun e => (e.key, e.val)) = l.map (fun p => (enc p.1, ev p.2))

omit [DecidableEq κ] in
theorem MapIs.fr {A A' : AS} {r : Nat} {l : List (κ × β)} {S : Loc → Prop} (h : MapIs A r enc ev l) (hf : Fr S A A') (hs : ¬ S (.map r)) : MapIs A' r enc ev l := by
  obtain ⟨mo, h1, h2⟩ := h; exact ⟨mo, hf.map r mo h1 hs, h2⟩
omit [DecidableEq κ] in
theorem MapIs.new (A : AS) : MapIs (A.pushMap ⟨[], 0⟩) A.maps.length enc ev ([] : List (κ × β)) := ⟨_, pushMap_get A _, rfl⟩

omit [DecidableEq κ] in
theorem keys_enc {es : List ME} {l : List (κ × β)} (h : es.map (fun e => (e.key, e.val)) = l.map (fun p => (enc p.1, ev p.2))) : ∀ e ∈ es, ∃ a, e.key = enc a := by
  intro e he
  have : (e.key, e.val) ∈ l.map (fun p => (enc p.1, ev p.2)) := by rw [← h]; exact List.mem_map.2 ⟨e, he, rfl⟩
  obtain ⟨p, _, q⟩ := List.mem_map.1 this
  exact ⟨p.1, by have := congrArg Prod.fst q; exact this.symm⟩

theorem find_look {P : Program} {kt : TypeId} (hK : KeyT P kt enc) (k : κ) : ∀ {es : List ME} {l : List (κ × β)}, es.map (fun e => (e.key, e.val)) = l.map (fun p => (enc p.1, ev p.2)) →
    (lookL l k = none → findME (enc k) es = none) ∧ ∀ v, lookL l k = some v → ∃ e, findME (enc k) es = some e ∧ e.val = ev v
  | [], [], _ => ⟨fun _ => rfl, fun v q => by simp [lookL] at q⟩
  | e :: es, (a, w) :: l, h => by
    simp only [List.map_cons, List.cons.injEq, Prod.mk.injEq] at h
    obtain ⟨⟨h1, h2⟩, h3⟩ := h
    obtain ⟨i1, i2⟩ := find_look hK k h3
    unfold findME lookL
    rw [h1, hK.eq]
    by_cases q : k = a
    · simp only [q, decide_true, if_true]
      exact ⟨fun z => by simp at z, fun v z => ⟨e, rfl, by rw [h2]; cases z; rfl⟩⟩
    · simp only [q, decide_false, if_false, Bool.false_eq_true]
      exact ⟨i1, i2⟩
  | [], _ :: _, h => by simp at h
  | _ :: _, [], h => by simp at h

/-- A look into a map. -/
theorem MapIs.look {P : Program} {t kt et : TypeId} {A : AS} {r : Nat} {l : List (κ × β)} (h : MapIs A r enc ev l) (hK : KeyT P kt enc) (ht : mapT P t = some (kt, et)) {z : V} (hz : zeroT P et = some z) (k : κ) (ok : Bool) :
    evLookup P t (.map r) (enc k) ok A = some (match lookL l k with | some v => if ok then .tup [ev v, .bool true] else ev v | none => if ok then .tup [z, .bool false] else z) := by
  obtain ⟨mo, h1, h2⟩ := h
  unfold evLookup
  simp only [ht, h1, Option.map_some, hz]
  rw [if_pos (hK.ok k mo.es (keys_enc h2))]
  obtain ⟨f1, f2⟩ := find_look hK k h2
  cases q : lookL l k with
  | none => rw [f1 q]
  | some v => obtain ⟨e, e1, e2⟩ := f2 v q; rw [e1]; simp only [e2]

/-- A new key. -/
theorem MapIs.put {P : Program} {t kt et : TypeId} {A : AS} {r : Nat} {l : List (κ × β)} (h : MapIs A r enc ev l) (hK : KeyT P kt enc) (ht : mapT P t = some (kt, et)) {k : κ} (v : β) (hn : lookL l k = none) :
    ∃ A', evMapUpdate P t (.map r) (enc k) (ev v) A = some A' ∧ Fr (· = .map r) A A' ∧ MapIs A' r enc ev (l ++ [(k, v)]) := by
  obtain ⟨mo, h1, h2⟩ := h
  obtain ⟨f1, f2⟩ := find_look hK k h2
  refine ⟨A.setMap r ⟨mo.es ++ [⟨enc k, ev v, mo.clock⟩], mo.clock + 1⟩, ?_, Fr.setMap A r _, ⟨_, setMap_get h1, by simp [h2]⟩⟩
  unfold evMapUpdate
  simp only [ht, h1]
  rw [if_pos (hK.ok k mo.es (keys_enc h2)), f1 hn]
theorem setME_same {P : Program} {kt : TypeId} (hK : KeyT P kt enc) {k : κ} {v : β} : ∀ {es : List ME} {l : List (κ × β)}, es.map (fun e => (e.key, e.val)) = l.map (fun p => (enc p.1, ev p.2)) → lookL l k = some v →
    (setME (enc k) (ev v) es).map (fun e => (e.key, e.val)) = l.map (fun p => (enc p.1, ev p.2))
  | [], [], _, h => by simp [lookL] at h
  | e :: es, (a, w) :: l, h, hl => by
    simp only [List.map_cons, List.cons.injEq, Prod.mk.injEq] at h
    obtain ⟨⟨h1, h2⟩, h3⟩ := h
    unfold setME
    unfold lookL at hl
    rw [h1, hK.eq]
    by_cases q : k = a
    · simp only [q, if_true] at hl
      cases hl
      simp only [q, decide_true, if_true, List.map_cons, h3]
    · simp only [q, if_false] at hl
      simp only [q, decide_false, Bool.false_eq_true, if_false, List.map_cons, h1, h2, setME_same hK h3 hl]
  | [], _ :: _, h, _ => by simp at h
  | _ :: _, [], h, _ => by simp at h
/-- A key that holds this already. -/
theorem MapIs.again {P : Program} {t kt et : TypeId} {A : AS} {r : Nat} {l : List (κ × β)} (h : MapIs A r enc ev l) (hK : KeyT P kt enc) (ht : mapT P t = some (kt, et)) {k : κ} {v : β} (hn : lookL l k = some v) :
    ∃ A', evMapUpdate P t (.map r) (enc k) (ev v) A = some A' ∧ Fr (· = .map r) A A' ∧ MapIs A' r enc ev l := by
  obtain ⟨mo, h1, h2⟩ := h
  obtain ⟨f1, f2⟩ := find_look hK k h2
  obtain ⟨e, e1, e2⟩ := f2 v hn
  refine ⟨A.setMap r ⟨setME (enc k) (ev v) mo.es, mo.clock⟩, ?_, Fr.setMap A r _, ⟨_, setMap_get h1, setME_same hK h2 hn⟩⟩
  unfold evMapUpdate
  simp only [ht, h1]
  rw [if_pos (hK.ok k mo.es (keys_enc h2)), e1]

theorem lookL_app {l r : List (κ × β)} {k : κ} : lookL (l ++ r) k = match lookL l k with | some v => some v | none => lookL r k := by
  induction l with
  | nil => rfl
  | cons p l ih =>
    obtain ⟨a, v⟩ := p
    rw [List.cons_append]
    by_cases q : k = a
    · simp only [lookL, q, if_true]
    · simp only [lookL, q, if_false]; exact ih
end

end Go.Sv
