/- Reading undoes writing, and writing undoes reading: plain. -/
import Derived.Test.YtnogkphkjkbbhaaRead
import Derived.Test.YtnogkphkjkbbhaaRef
namespace Go.Sv
open Go
set_option linter.unusedVariables false
set_option linter.unusedSimpArgs false

theorem runsOf_flat : ∀ (n : Nat) (s : Bts) (l : List Bts), s.length ≤ n → runsOf s = some l → l.flatMap runB = s := by
  intro n
  induction n with
  | zero =>
    intro s l hs h
    have : s = [] := List.eq_nil_of_length_eq_zero (by omega)
    subst this; rw [runsOf_nil] at h; cases h; rfl
  | succ n ih =>
    intro s l hs h
    by_cases q : s = []
    · subst q; rw [runsOf_nil] at h; cases h; rfl
    · cases hr : takeB s with
      | none => rw [runsOf_none q hr] at h; simp at h
      | some p =>
        obtain ⟨x, r⟩ := p
        rw [runsOf_some hr] at h
        cases hq : runsOf r with
        | none => rw [hq] at h; simp at h
        | some l' =>
          rw [hq] at h; simp at h; subst h
          have hl := takeB_len hr
          rw [List.flatMap_cons, ih r l' (by omega) hq, ← takeB_eq hr]
theorem runsOf_of : ∀ l : List Bts, (∀ b ∈ l, b.length ≤ 16777215) → runsOf (l.flatMap runB) = some l
  | [], _ => runsOf_nil
  | x :: l, h => by
    rw [List.flatMap_cons, runsOf_some (takeB_run (h x (by simp))), runsOf_of l (fun b hb => h b (by simp [hb]))]; rfl
theorem chunk32_of : ∀ l : List Bts, (∀ b ∈ l, b.length = 32) → chunk32 l.flatten = l
  | [], _ => chunk32_nil
  | x :: l, h => by
    have hx := h x (by simp)
    have hne : (x :: l).flatten ≠ [] := by rw [List.flatten_cons]; intro q; have := congrArg List.length q; simp [hx] at this
    rw [chunk32_cons hne, List.flatten_cons, List.take_left' hx, List.drop_left' hx, chunk32_of l (fun b hb => h b (by simp [hb]))]
theorem valOf_app (s : Bts) (x : UInt8) : valOf (s ++ [x]) = valOf s * 256 + x.toNat := by
  unfold valOf; rw [List.foldl_append]; rfl
theorem valOf_digits : ∀ n, valOf (digits n) = n := by
  intro n
  induction n using Nat.strongRecOn with
  | ind n ih =>
    by_cases q : n = 0
    · subst q; rw [digits_zero]; rfl
    · rw [digits_pos q, valOf_app, ih (n / 256) (by omega), UInt8.toNat_ofNat']; omega
theorem digits_head : ∀ n, n ≠ 0 → (digits n)[0]? ≠ some 0 ∧ digits n ≠ [] := by
  intro n
  induction n using Nat.strongRecOn with
  | ind n ih =>
    intro hn
    refine ⟨?_, fun q => hn (digits_nil.1 q)⟩
    rw [digits_pos hn]
    by_cases q : n / 256 = 0
    · rw [q, digits_zero]
      simp only [List.nil_append, List.getElem?_cons_zero, ne_eq, Option.some.injEq]
      intro h
      have := congrArg UInt8.toNat h
      rw [UInt8.toNat_ofNat'] at this
      simp at this; omega
    · obtain ⟨h1, h2⟩ := ih (n / 256) (by omega) q
      have hl : 0 < (digits (n / 256)).length := List.length_pos_iff.2 h2
      rw [List.getElem?_append_left hl]; exact h1
theorem digits_valOf : ∀ (k : Nat) (s : Bts), s.length = k → s[0]? ≠ some 0 → digits (valOf s) = s := by
  intro k
  induction k with
  | zero => intro s hs _; rw [List.eq_nil_of_length_eq_zero hs]; exact digits_zero
  | succ k ih =>
    intro s hs h0
    have hne : s ≠ [] := by rintro rfl; simp at hs
    obtain ⟨t, x, rfl⟩ : ∃ t x, s = t ++ [x] := ⟨s.dropLast, s.getLast hne, (List.dropLast_concat_getLast hne).symm⟩
    have htl : t.length = k := by simpa using hs
    have hx := x.toNat_lt
    rw [valOf_app]
    by_cases q : t = []
    · subst q
      simp at h0
      have hx0 : x.toNat ≠ 0 := fun z => h0 (UInt8.toNat_inj.1 (by rw [z]; rfl))
      have e : valOf [] * 256 + x.toNat = x.toNat := by simp [valOf]
      rw [e, digits_pos hx0, show x.toNat / 256 = 0 by omega, digits_zero, UInt8.ofNat_toNat]
    · have ht0 : t[0]? ≠ some 0 := by
        rw [List.getElem?_append_left (List.length_pos_iff.2 q)] at h0; exact h0
      have hih := ih t htl ht0
      have hv : valOf t ≠ 0 := fun z => by rw [z, digits_zero] at hih; exact q hih.symm
      rw [digits_pos (by omega), show (valOf t * 256 + x.toNat) / 256 = valOf t by omega, hih]
      congr 1
      congr 1
      apply UInt8.toNat_inj.1
      rw [UInt8.toNat_ofNat']; omega
theorem numOf_digits {n : Nat} (h0 : n ≠ 0) (h : n ≤ 1099511627776) : numOf (digits n) = some n := by
  obtain ⟨h1, h2⟩ := digits_head n h0
  have h3 := digits_len n 6 (by omega)
  unfold numOf
  rw [if_neg, valOf_digits]
  rw [valOf_digits]
  rintro (q | q | q | q)
  · exact h2 q
  · exact h1 q
  · omega
  · omega
theorem numOf_some {s : Bts} {n : Nat} (h : numOf s = some n) : digits n = s ∧ n ≤ 1099511627776 := by
  unfold numOf at h
  split at h
  · simp at h
  · rename_i q
    simp at h; subst h
    exact ⟨digits_valOf _ s rfl (fun z => q (.inr (.inl z))), by omega⟩

/-- A message whose sums are sums. -/
structure Wf (x : M) : Prop where
  id : x.id.length = 32
  ids : ∀ b ∈ x.ids, b.length = 32
theorem wf0 (k : Int) : Wf (msg0 k) := ⟨rfl, by simp [msg0]⟩
theorem flatten_nil {l : List Bts} (h : ∀ b ∈ l, b.length = 32) (q : l.flatten = []) : l = [] := by
  cases l with
  | nil => rfl
  | cons x l => have h1 := congrArg List.length q; have h2 := h x (by simp); rw [List.flatten_cons, List.length_append, List.length_nil] at h1; omega
theorem flatMap_nil {l : List Bts} (q : l.flatMap runB = []) : l = [] := by
  cases l with
  | nil => rfl
  | cons x l => have := congrArg List.length q; simp [runB_len] at this

/-- A field that was not there is put in. -/
theorem putM_P9 {m m' : M} {t : Nat} {x : Bts} (h : putM m t x = .ok m') (hw : Wf m) (h1 : 1 ≤ t) (h9 : t ≤ 9) (hn : (P9 m)[t - 1]? = some []) : Wf m' ∧ P9 m' = (P9 m).set (t - 1) x ∧ x ≠ [] ∧ m'.kind = m.kind := by
  have hx : x ≠ [] := by rintro rfl; unfold putM at h; simp at h
  unfold putM at h
  rw [if_neg hx] at h
  have num : t < 6 → Wf m' ∧ P9 m' = (P9 m).set (t - 1) x ∧ x ≠ [] ∧ m'.kind = m.kind := by
    intro h6
    rw [if_pos h6] at h
    split at h
    · simp at h
    · rename_i n hnum
      simp at h; subst h
      obtain ⟨e1, e2⟩ := numOf_some hnum
      match t, h1, h6 with
      | 1, _, _ => exact ⟨⟨hw.id, hw.ids⟩, by simp [P9, setNum, e1], hx, rfl⟩
      | 2, _, _ => exact ⟨⟨hw.id, hw.ids⟩, by simp [P9, setNum, e1], hx, rfl⟩
      | 3, _, _ => exact ⟨⟨hw.id, hw.ids⟩, by simp [P9, setNum, e1], hx, rfl⟩
      | 4, _, _ => exact ⟨⟨hw.id, hw.ids⟩, by simp [P9, setNum, e1], hx, rfl⟩
      | 5, _, _ => exact ⟨⟨hw.id, hw.ids⟩, by simp [P9, setNum, e1], hx, rfl⟩
  by_cases h6 : t < 6
  · exact num h6
  rw [if_neg h6] at h
  by_cases h7 : t = 6
  · subst h7
    rw [if_pos rfl] at h
    split at h
    · simp at h
    · rename_i q
      simp at h; subst h
      have q1 : x.length = 32 := Classical.byContradiction fun z => q (.inl z)
      have q2 : x ≠ zero32 := fun z => q (.inr z)
      exact ⟨⟨q1, hw.ids⟩, by simp [P9, q2], hx, rfl⟩
  rw [if_neg h7] at h
  by_cases h8 : t = 7
  · subst h8
    rw [if_pos rfl] at h
    simp at h; subst h
    exact ⟨⟨hw.id, hw.ids⟩, by simp [P9], hx, rfl⟩
  rw [if_neg h8] at h
  by_cases h10 : t = 8
  · subst h10
    rw [if_pos rfl] at h
    split at h
    · simp at h
    · rename_i q
      simp at h; subst h
      have e0 : m.ids = [] := flatten_nil hw.ids (by simpa [P9] using hn)
      obtain ⟨c1, c2, c3⟩ := chunk32_len (x.length / 32) x (by omega)
      refine ⟨⟨hw.id, ?_⟩, ?_, hx, rfl⟩
      · rw [e0]; simpa using c2
      · simp [P9, e0, c3]
  · rw [if_neg h10] at h
    have : t = 9 := by omega
    subst this
    split at h
    · simp at h
    · rename_i l hl
      simp at h; subst h
      have e0 : m.list = [] := flatMap_nil (by simpa [P9] using hn)
      have := runsOf_flat x.length x l (Nat.le_refl _) hl
      exact ⟨⟨hw.id, hw.ids⟩, by simp [P9, e0, this], hx, rfl⟩

/-- Fields whose tags rise from a number on, up to nine. -/
def Rising : Nat → List (Nat × Bts) → Prop
  | _, [] => True
  | last, (t, _) :: l => last < t ∧ t ≤ 9 ∧ Rising t l
theorem items_rising : ∀ (n : Nat) (s : Bts) (last : Nat), s.length ≤ n → Rising last (items last s).1 := by
  intro n
  induction n with
  | zero =>
    intro s last hs
    have : s = [] := List.eq_nil_of_length_eq_zero (by omega)
    subst this; rw [items_nil]; trivial
  | succ n ih =>
    intro s last hs
    match s with
    | [] => rw [items_nil]; trivial
    | t :: r =>
      by_cases h : t.toNat ≤ last ∨ t.toNat > 9
      · rw [items_tag h]; trivial
      · cases hr : takeB r with
        | none => rw [items_short h hr]; trivial
        | some p =>
          obtain ⟨x, r'⟩ := p
          rw [items_more h hr]
          have hl := takeB_len hr
          exact ⟨by omega, by omega, ih r' t.toNat (by simp only [List.length_cons] at hs; omega)⟩
theorem items_bytes : ∀ (n : Nat) (s : Bts) (last : Nat), s.length ≤ n → (items last s).2 = 0 → (items last s).1.flatMap fieldB = s := by
  intro n
  induction n with
  | zero =>
    intro s last hs _
    have : s = [] := List.eq_nil_of_length_eq_zero (by omega)
    subst this; rw [items_nil]; rfl
  | succ n ih =>
    intro s last hs h0
    match s with
    | [] => rw [items_nil]; rfl
    | t :: r =>
      by_cases h : t.toNat ≤ last ∨ t.toNat > 9
      · rw [items_tag h] at h0; simp at h0
      · cases hr : takeB r with
        | none => rw [items_short h hr] at h0; simp at h0
        | some p =>
          obtain ⟨x, r'⟩ := p
          rw [items_more h hr] at h0 ⊢
          have hl := takeB_len hr
          rw [List.flatMap_cons, ih r' t.toNat (by simp only [List.length_cons] at hs; omega) h0]
          rw [takeB_eq hr]
          simp [fieldB, UInt8.ofNat_toNat]

theorem optAll_skip : ∀ (l : List Bts) (t : Nat), (∀ b ∈ l, b = []) → optAll t l = []
  | [], _, _ => rfl
  | b :: l, t, h => by
    have hb : b = [] := h b (by simp)
    rw [optAll, optAll_skip l (t + 1) (fun c hc => h c (by simp [hc])), opt1, if_pos hb]; rfl
/-- What is put in, in rising order, is what is there. -/
theorem putAll_fields : ∀ (l : List (Nat × Bts)) (m m' : M) (last : Nat), putAll m l = .ok m' → Wf m → Rising last l → (∀ j, last ≤ j → j < 9 → (P9 m)[j]? = some []) → Wf m' ∧ fieldList m' = optAll 1 ((P9 m).take last) ++ l ∧ m'.kind = m.kind
  | [], m, m', last, h, hw, _, hj => by
    simp [putAll] at h; subst h
    refine ⟨hw, ?_, rfl⟩
    rw [List.append_nil]
    unfold fieldList
    conv => lhs; rw [← List.take_append_drop last (P9 m)]
    rw [optAll_app, optAll_skip ((P9 m).drop last) _ ?_, List.append_nil]
    intro b hb
    obtain ⟨i, hi⟩ := List.mem_iff_getElem?.1 hb
    rw [List.getElem?_drop] at hi
    have hlt := (List.getElem?_eq_some_iff.1 hi).1
    have h9 : (P9 m).length = 9 := rfl
    have := hj (last + i) (by omega) (by omega)
    rw [hi] at this; cases this; rfl
  | (t, x) :: l, m, m', last, h, hw, hr, hj => by
    obtain ⟨r1, r2, r3⟩ := hr
    simp only [putAll] at h
    split at h
    · simp at h
    · rename_i m1 h1
      obtain ⟨w1, e1, hx, hk⟩ := putM_P9 h1 hw (by omega) r2 (hj (t - 1) (by omega) (by omega))
      have h9 : (P9 m).length = 9 := rfl
      obtain ⟨q1, q2, q3⟩ := putAll_fields l m1 m' t h w1 r3 (fun j a b => by
        rw [e1, List.getElem?_set_ne (by omega)]; exact hj j (by omega) b)
      refine ⟨q1, ?_, q3.trans hk⟩
      rw [q2, e1]
      have hget : ((P9 m).set (t - 1) x)[t - 1]? = some x := by rw [List.getElem?_set_self (by omega)]
      have e2 : ((P9 m).set (t - 1) x).take t = ((P9 m).set (t - 1) x).take (t - 1 + 1) := by rw [show t - 1 + 1 = t by omega]
      rw [e2, opt_succ hget, opt1, if_neg hx, List.append_assoc, show 1 + (t - 1) = t by omega]
      congr 1
      rw [List.take_set_of_le (Nat.le_refl _)]
      -- between the last one and this one there is nothing
      conv => lhs; rw [← List.take_append_drop last ((P9 m).take (t - 1))]
      rw [optAll_app, List.take_take, Nat.min_eq_left (by omega), optAll_skip (((P9 m).take (t - 1)).drop last) _ ?_, List.append_nil]
      intro b hb
      obtain ⟨i, hi⟩ := List.mem_iff_getElem?.1 hb
      rw [List.getElem?_drop] at hi
      have hlt := (List.getElem?_eq_some_iff.1 hi).1
      rw [List.length_take] at hlt
      rw [List.getElem?_take_of_lt (by omega)] at hi
      have := hj (last + i) (by omega) (by omega)
      rw [hi] at this; cases this; rfl
theorem P9_msg0 (k : Int) : ∀ j, j < 9 → (P9 (msg0 k))[j]? = some [] := by
  intro j hj
  have e : P9 (msg0 k) = [[], [], [], [], [], [], [], [], []] := by simp [P9, msg0, digits_zero]
  rw [e]
  match j, hj with
  | 0, _ => rfl
  | 1, _ => rfl
  | 2, _ => rfl
  | 3, _ => rfl
  | 4, _ => rfl
  | 5, _ => rfl
  | 6, _ => rfl
  | 7, _ => rfl
  | 8, _ => rfl

/-- **What is read is written as it was.** -/
theorem write_read {b : Bts} {x : M} (h : readM b = .ok x) : writeB x = b ∧ checkM x = 0 ∧ Wf x := by
  match b, h with
  | k :: r, h =>
    unfold readM at h
    simp only [] at h
    split at h
    · simp at h
    · rename_i hk
      split at h
      · simp at h
      · rename_i m hm
        split at h
        · simp at h
        · rename_i hc
          simp at h; subst h
          have hc0 : checkM m = 0 := by omega
          unfold restM at hm
          split at hm
          · simp at hm
          · rename_i m1 h1
            split at hm
            · simp at hm
            · rename_i h2
              simp at hm; subst hm
              obtain ⟨q1, q2, q3⟩ := putAll_fields _ _ _ 0 h1 (wf0 _) (items_rising r.length r 0 (Nat.le_refl _)) (fun j _ hj => P9_msg0 _ j hj)
              refine ⟨?_, hc0, q1⟩
              unfold writeB
              rw [q2, q3]
              have e3 := items_bytes r.length r 0 (Nat.le_refl _) (by omega)
              simp only [List.take_zero, optAll, List.nil_append, e3, msg0, Int.toNat_natCast, UInt8.ofNat_toNat]

theorem items_opt : ∀ (ps : List Bts) (last : Nat), last + ps.length ≤ 9 → (∀ b ∈ ps, b.length ≤ 16777215) → items last ((optAll (last + 1) ps).flatMap fieldB) = (optAll (last + 1) ps, 0) := by
  intro ps
  -- a later beginning reads the same
  have key : ∀ (ps : List Bts) (last a : Nat), a ≤ last → last + ps.length ≤ 9 → (∀ b ∈ ps, b.length ≤ 16777215) → items a ((optAll (last + 1) ps).flatMap fieldB) = (optAll (last + 1) ps, 0) := by
    intro ps
    induction ps with
    | nil => intro last a _ _ _; exact items_nil a
    | cons b ps ih =>
      intro last a ha hl hb
      simp only [List.length_cons] at hl
      by_cases q : b = []
      · simp only [optAll, opt1, if_pos q, List.nil_append]
        exact ih (last + 1) a (by omega) (by omega) (fun c hc => hb c (by simp [hc]))
      · simp only [optAll, opt1, if_neg q, List.cons_append, List.nil_append, List.flatMap_cons, fieldB]
        have ht : (UInt8.ofNat (last + 1)).toNat = last + 1 := by rw [UInt8.toNat_ofNat']; omega
        rw [items_more (x := b) (r' := (optAll (last + 1 + 1) ps).flatMap fieldB) (by rw [ht]; omega) (takeB_run (hb b (by simp))), ht, ih (last + 1) (last + 1) (by omega) (by omega) (fun c hc => hb c (by simp [hc]))]
  intro last h1 h2
  exact key ps last last (Nat.le_refl _) h1 h2

theorem putAll_cons_opt {m m1 : M} {t : Nat} {b : Bts} {l : List (Nat × Bts)} (h0 : b = [] → m1 = m) (h1 : b ≠ [] → putM m t b = .ok m1) : putAll m (opt1 t b ++ l) = putAll m1 l := by
  by_cases q : b = []
  · rw [opt1, if_pos q, h0 q]; rfl
  · rw [opt1, if_neg q]; simp only [List.cons_append, List.nil_append, putAll, h1 q]

/-- **What is written is read as it was.** -/
theorem read_write {x : M} (h : OkM x) (hw : Wf x) : readM (writeB x) = .ok x := by
  have hk := h.kind
  obtain ⟨kd, hkd⟩ := Int.eq_ofNat_of_zero_le (show 0 ≤ x.kind by omega)
  have hn := h.nums
  simp only [M.nums, List.mem_cons, List.mem_nil_iff, or_false, forall_eq_or_imp, forall_eq] at hn
  obtain ⟨⟨a1, c1⟩, ⟨a2, c2⟩, ⟨a3, c3⟩, ⟨a4, c4⟩, a5, c5⟩ := hn
  have hs := h.size
  have hi := h.ids
  have hl := h.list
  have dl : ∀ n : Int, n ≤ 1099511627776 → (digits n.toNat).length ≤ 16777215 := fun n q => by have := digits_len n.toNat 6 (by omega); omega
  have hfl := flatten_len x.ids hw.ids
  have hrl := flatMap_runB_len x.list
  have hid := hw.id
  have hsz : ∀ b ∈ P9 x, b.length ≤ 16777215 := by
    intro b hb
    simp only [P9, List.mem_cons, List.mem_nil_iff, or_false] at hb
    rcases hb with rfl | rfl | rfl | rfl | rfl | rfl | rfl | rfl | rfl
    · exact dl _ c1
    · exact dl _ c2
    · exact dl _ c3
    · exact dl _ c4
    · exact dl _ c5
    · split
      · simp
      · omega
    · omega
    · omega
    · omega
  have hit := items_opt (P9 x) 0 (by simp [P9]) hsz
  have hput : putAll (msg0 x.kind) (optAll 1 (P9 x)) = .ok x := by
    have num : ∀ {m : M} {t : Nat} {n : Int}, 1 ≤ t → t < 6 → 0 ≤ n → n ≤ 1099511627776 → digits n.toNat ≠ [] → putM m t (digits n.toNat) = .ok (setNum m t n) := by
      intro m t n q1 q2 q3 q4 q5
      obtain ⟨k, rfl⟩ := Int.eq_ofNat_of_zero_le q3
      rw [Int.toNat_natCast] at q5 ⊢
      unfold putM
      rw [if_neg q5, if_pos q2, numOf_digits (fun z => q5 (digits_nil.2 z)) (by omega)]
    have zn : ∀ {n : Int}, 0 ≤ n → digits n.toNat = [] → n = 0 := fun q z => by rw [digits_nil] at z; omega
    simp only [P9, optAll, msg0]
    rw [putAll_cons_opt (m1 := ⟨x.kind, x.who, 0, 0, 0, 0, zero32, [], [], []⟩) (fun q => by rw [zn a1 q]) (fun q => num (by decide) (by decide) a1 c1 q)]
    rw [putAll_cons_opt (m1 := ⟨x.kind, x.who, x.height, 0, 0, 0, zero32, [], [], []⟩) (fun q => by rw [zn a2 q]) (fun q => num (by decide) (by decide) a2 c2 q)]
    rw [putAll_cons_opt (m1 := ⟨x.kind, x.who, x.height, x.round, 0, 0, zero32, [], [], []⟩) (fun q => by rw [zn a3 q]) (fun q => num (by decide) (by decide) a3 c3 q)]
    rw [putAll_cons_opt (m1 := ⟨x.kind, x.who, x.height, x.round, x.valid, 0, zero32, [], [], []⟩) (fun q => by rw [zn a4 q]) (fun q => num (by decide) (by decide) a4 c4 q)]
    rw [putAll_cons_opt (m1 := ⟨x.kind, x.who, x.height, x.round, x.valid, x.num, zero32, [], [], []⟩) (fun q => by rw [zn a5 q]) (fun q => num (by decide) (by decide) a5 c5 q)]
    rw [putAll_cons_opt (m1 := ⟨x.kind, x.who, x.height, x.round, x.valid, x.num, x.id, [], [], []⟩) (fun q => by
      split at q
      · rename_i z; rw [z]
      · rw [q] at hid; simp at hid) (fun q => by
      split at q
      · exact absurd rfl q
      · rename_i z
        rw [if_neg z]
        unfold putM
        rw [if_neg q, if_neg (by decide), if_pos rfl, if_neg]
        rintro (w | w)
        · exact w hid
        · exact z w)]
    rw [putAll_cons_opt (m1 := ⟨x.kind, x.who, x.height, x.round, x.valid, x.num, x.id, x.data, [], []⟩) (fun q => by rw [q]) (fun q => by
      unfold putM; rw [if_neg q, if_neg (by decide), if_neg (by decide), if_pos rfl])]
    rw [putAll_cons_opt (m1 := ⟨x.kind, x.who, x.height, x.round, x.valid, x.num, x.id, x.data, x.ids, []⟩) (fun q => by rw [flatten_nil hw.ids q]) (fun q => by
      unfold putM; rw [if_neg q, if_neg (by decide), if_neg (by decide), if_neg (by decide), if_pos rfl, if_neg (by omega), chunk32_of x.ids hw.ids]; rfl)]
    rw [putAll_cons_opt (m1 := ⟨x.kind, x.who, x.height, x.round, x.valid, x.num, x.id, x.data, x.ids, x.list⟩) (fun q => by rw [flatMap_nil q]) (fun q => by
      unfold putM; rw [if_neg q, if_neg (by decide), if_neg (by decide), if_neg (by decide), if_neg (by decide), runsOf_of x.list (fun b hb => by have := len_le_lens hb; omega)]; rfl)]
    rfl
  have hkt : (UInt8.ofNat kd).toNat = kd := by rw [UInt8.toNat_ofNat']; omega
  have hrest : restM (msg0 x.kind) 0 ((fieldList x).flatMap fieldB) = .ok x := by
    have hput' : putAll (msg0 x.kind) (items 0 ((fieldList x).flatMap fieldB)).1 = .ok x := by
      unfold fieldList; rw [hit]; exact hput
    rw [restM_of_ok hput']
    unfold fieldList
    rw [hit]; simp
  unfold writeB readM
  rw [hkd, Int.toNat_natCast]
  simp only [hkt]
  rw [if_neg (by omega), ← hkd, hrest]
  simp only []
  rw [if_neg (by simpa using checkM_zero h)]

/-- Two messages of the same bytes are the same. -/
theorem writeB_inj {x y : M} (hx : OkM x) (hy : OkM y) (wx : Wf x) (wy : Wf y) (h : writeB x = writeB y) : x = y := by
  have h1 := read_write hx wx
  rw [h, read_write hy wy] at h1
  cases h1; rfl

/-- A byte more is no message. -/
theorem items_extra : ∀ (n : Nat) (s : Bts) (last : Nat) (c : UInt8), s.length ≤ n → (items last s).2 = 0 → (items last (s ++ [c])).2 ≠ 0 := by
  intro n
  induction n with
  | zero =>
    intro s last c hs _
    have : s = [] := List.eq_nil_of_length_eq_zero (by omega)
    subst this
    rw [List.nil_append]
    by_cases h : c.toNat ≤ last ∨ c.toNat > 9
    · rw [items_tag h]; decide
    · rw [items_short h rfl]; decide
  | succ n ih =>
    intro s last c hs h0
    match s with
    | [] =>
      rw [List.nil_append]
      by_cases h : c.toNat ≤ last ∨ c.toNat > 9
      · rw [items_tag h]; decide
      · rw [items_short h rfl]; decide
    | t :: r =>
      by_cases h : t.toNat ≤ last ∨ t.toNat > 9
      · rw [items_tag h] at h0; simp at h0
      · cases hr : takeB r with
        | none => rw [items_short h hr] at h0; simp at h0
        | some p =>
          obtain ⟨x, r'⟩ := p
          rw [items_more h hr] at h0
          have hl := takeB_len hr
          have e := takeB_eq hr
          have hr2 : takeB (r ++ [c]) = some (x, r' ++ [c]) := by rw [e, List.append_assoc]; exact takeB_run hl.2
          rw [List.cons_append, items_more h hr2]
          exact ih r' t.toNat c (by simp only [List.length_cons] at hs; omega) h0
theorem read_extra {b : Bts} {x : M} (h : readM b = .ok x) (c : UInt8) : ∃ e, readM (b ++ [c]) = .error e ∧ e ≠ 0 := by
  match b, h with
  | k :: r, h =>
    unfold readM at h
    simp only [] at h
    split at h
    · simp at h
    · rename_i hk
      split at h
      · simp at h
      · rename_i m hm
        have h2 : (items 0 r).2 = 0 := by
          unfold restM at hm
          split at hm
          · simp at hm
          · split at hm
            · simp at hm
            · rename_i q; exact Classical.byContradiction fun z => q z
        have h3 := items_extra r.length r 0 c (Nat.le_refl _) h2
        rw [List.cons_append]
        unfold readM
        simp only []
        rw [if_neg hk]
        cases hr : restM (msg0 k.toNat) 0 (r ++ [c]) with
        | error e =>
          refine ⟨e, rfl, ?_⟩
          rintro rfl
          unfold restM at hr
          split at hr
          · rename_i e' he
            simp at hr; subst hr
            have key : ∀ (l : List (Nat × Bts)) (m : M), putAll m l ≠ .error 0 := by
              intro l
              induction l with
              | nil => intro m; simp [putAll]
              | cons f l ih =>
                intro m
                obtain ⟨t, x⟩ := f
                simp only [putAll]
                split
                · rename_i e hp
                  unfold putM at hp
                  intro q; simp at q; subst q
                  repeat' (split at hp)
                  all_goals simp at hp
                · exact ih _
            exact key _ _ he
          · split at hr
            · simp at hr; exact h3 hr
            · rename_i q; exact q h3
        | ok m' =>
          exfalso
          unfold restM at hr
          split at hr
          · simp at hr
          · rw [if_pos h3] at hr; simp at hr
/-- Errors are not nought. -/
theorem readErr_ne {b : Bts} : readErr b = 0 ↔ ∃ x, readM b = .ok x := by
  have key : ∀ (l : List (Nat × Bts)) (m : M), putAll m l ≠ .error 0 := by
    intro l
    induction l with
    | nil => intro m; simp [putAll]
    | cons f l ih =>
      intro m
      obtain ⟨t, x⟩ := f
      simp only [putAll]
      split
      · rename_i e hp
        unfold putM at hp
        intro q; simp at q; subst q
        repeat' (split at hp)
        all_goals simp at hp
      · exact ih _
  have hne : readM b ≠ .error 0 := by
    intro h
    match b, h with
    | [], h => simp [readM] at h
    | k :: r, h =>
      unfold readM at h
      simp only [] at h
      split at h
      · simp at h
      · split at h
        · rename_i e he
          simp at h; subst h
          unfold restM at he
          split at he
          · rename_i q; simp at he; subst he; exact key _ _ q
          · split at he
            · rename_i q; simp at he; exact q he
            · simp at he
        · split at h
          · rename_i q; simp at h; exact q h
          · simp at h
  unfold readErr
  cases h : readM b with
  | error e =>
    constructor
    · intro q; simp only [] at q; subst q; exact absurd h hne
    · rintro ⟨x, q⟩; simp at q
  | ok x => exact ⟨fun _ => ⟨x, rfl⟩, fun _ => rfl⟩
end Go.Sv


namespace Go.Sv.Try
open Go Go.Proofs
set_option linter.unusedVariables false
set_option linter.unusedSimpArgs false

theorem rd_ok {b : Bts} {x : Go.Sv.M} (h : readM b = .ok x) : readMsg b = x ∧ readErr b = 0 := by
  unfold readMsg readErr; rw [h]; exact ⟨rfl, rfl⟩
theorem rd_bad {b : Bts} (h : readErr b ≠ 0) : readMsg b = msg0 0 := by
  unfold readMsg
  cases q : readM b with
  | error e => rfl
  | ok x => exact absurd (rd_ok q).2 h
theorem wf_of {m : Hp} {x : Go.Sv.M} {dv iv lv : V} (h : MsgIn m x dv iv lv) : Wf x := ⟨h.id, eId_len h.ids⟩
theorem writeB_len {x : Go.Sv.M} {m : Hp} {dv iv lv : V} (h : MsgIn m x dv iv lv) (hok : OkM x) : (writeB x).length ≤ 1800091 := by
  have h1 := fieldsB_len (P9 x) 1 (P9_size hok h.id (eId_len h.ids))
  have h3 : (P9 x).length = 9 := rfl
  rw [h3] at h1
  simp only [writeB, fieldList, List.length_cons]; omega
/-- A value that is put into a new variable. -/
theorem new_msg {A : AS} {x : Go.Sv.M} {dv iv lv : V} {m : Hp} (h : MsgIn m x dv iv lv) : ∃ A', evStore Try.prog 41 (.ptr A.blk.length 0) (.agg (mc x dv iv lv)) (A.push ⟨mcZ, .var⟩) = some A' ∧ Fr S0 A A' ∧ A'.blk[A.blk.length]? = some ⟨mc x dv iv lv, .var⟩ := by
  obtain ⟨A2, s1, s2, s3, s4⟩ := new_set (P := Try.prog) A (z := mcZ) (t := 41) (x := .agg (mc x dv iv lv)) (cs := mc x dv iv lv) rfl (by rw [mc_len h.id]; exact sz41) (by rw [mc_len h.id]; rfl) (mc_one h)
  exact ⟨A2, s1, s2, s3⟩

set_option maxRecDepth 10000 in
set_option maxHeartbeats 16000000 in
theorem packKinds_spec {A : AS} {k : Int} (hw : WF A) :
    ∃ w A', EvF Try.prog HH 11 [.int .i64 k] A w A' ∧ w = .bool true := by
  refine run_fn2 rfl Try.func11 (by unfold Try.f11; rfl) Try.ntmps11 (by unfold Try.f11; rfl) (by simp) ?_
  simp only [RS, xs_some, Option.bind_some, Option.map_some, if_true, if_false, decide_true, decide_false, true_and, and_true, Bool.not_true, Bool.not_false, Bool.false_eq_true, not_false_eq_true, not_true_eq_false, Nat.reduceLT, Nat.reduceBEq, Nat.reduceEqDiff, Nat.reduceAdd, Int.reduceEq, Int.reduceLT, Int.reduceLE, Int.reduceGT, Int.reduceGE, beq_self_eq_true, List.getElem?_toArray, List.getElem?_cons_zero, List.getElem?_cons_succ, List.append_nil, List.nil_append, List.cons_append, List.append_eq]
  refine run_call1 (evF_ground rfl) ?_
  simp only [RS, xs_some, Option.bind_some, Option.map_some, if_true, if_false, decide_true, decide_false, true_and, and_true, Bool.not_true, Bool.not_false, Bool.false_eq_true, not_false_eq_true, not_true_eq_false, Nat.reduceLT, Nat.reduceBEq, Nat.reduceEqDiff, Nat.reduceAdd, Int.reduceEq, Int.reduceLT, Int.reduceLE, Int.reduceGT, Int.reduceGE, beq_self_eq_true, List.getElem?_toArray, List.getElem?_cons_zero, List.getElem?_cons_succ, List.append_nil, List.nil_append, List.cons_append, List.append_eq, bldMk]
  have hsz : Sized (msg0 k) := ⟨by simp [msg0], by simp [msg0], by simp [msg0], by simp [msg0]⟩
  have hchk : checkM (msg0 k) = if k < 1 ∨ k > 31 then 21 else 0 := by
    unfold checkM
    by_cases q : k < 1 ∨ k > 31
    · rw [if_pos (show (msg0 k).kind < 1 ∨ (msg0 k).kind > 31 from q), if_pos q]
    · rw [if_neg (show ¬ ((msg0 k).kind < 1 ∨ (msg0 k).kind > 31) from q), if_neg q]; rfl
  obtain ⟨w, A1, k1, k2, v, rfl, k3, k4⟩ := write_spec (m := Hp.emp) (A := A) hw (Hp.on_emp A) (msgIn0 (k := k)) hsz
  refine run_call1 k1 ?_
  have w1 := k2.wf hw
  have bad : ∀ (q : k < 1 ∨ k > 31), checkM (msg0 k) = 21 ∧ v = .snil := fun q => by
    have h1 : checkM (msg0 k) = 21 := by rw [hchk, if_pos q]
    exact ⟨h1, k3 (by rw [h1]; decide)⟩
  -- kinds that there aren't
  obtain ⟨low, hlow⟩ : ∃ low : UInt8, IntKind.u8.wrap k = (low.toNat : Int) := by
    refine ⟨UInt8.ofNat (IntKind.u8.wrap k).toNat, ?_⟩
    have h1 : 0 ≤ IntKind.u8.wrap k ∧ IntKind.u8.wrap k ≤ 255 := by
      show 0 ≤ (if (false && decide (k % 256 ≥ 128)) = true then k % 256 - 256 else k % 256) ∧ (if (false && decide (k % 256 ≥ 128)) = true then k % 256 - 256 else k % 256) ≤ 255
      simp only [Bool.false_and, Bool.false_eq_true, if_false]
      omega
    rw [UInt8.toNat_ofNat']; omega
  have outs : (k < 1 ∨ k > 31) → ∀ (A2 : AS), A2 = A1.push ⟨bc [low], .arr A1.blk.length 0⟩ → ∃ w A', EvF Try.prog HH 30 [.sl A1.blk.length 0 1 1] A2 w A' ∧ RdOut [low] w A' ∧ (readErr [low] = 0 ↔ (1 ≤ low.toNat ∧ low.toNat ≤ 31)) := by
    intro q A2 hA2
    have q1 := Fr.pushArr A1 (bc [low])
    have hs := new_arrBts A1 [low] (sz := 1) rfl
    rw [← hA2] at q1 hs
    obtain ⟨w, A', u1, u2, u3⟩ := read_spec (q1.wf w1) (arrHp_on A2) hs (by simp)
    refine ⟨w, A', u1, u3, ?_⟩
    by_cases z : low.toNat < 1 ∨ low.toNat > 31
    · have : readErr [low] = 21 := by unfold readErr readM; simp only []; rw [if_pos z]
      rw [this]; omega
    · have hc : checkM (msg0 low.toNat) = 0 := by unfold checkM; rw [if_neg (by show ¬ ((low.toNat : Int) < 1 ∨ (low.toNat : Int) > 31); omega)]; rfl
      have : readErr [low] = 0 := by
        unfold readErr readM; simp only []; rw [if_neg z, restM_nil]; simp only []; rw [if_neg (by rw [hc]; decide)]
      rw [this]; omega
  have fin : (k < 1 ∨ k > 31) → ∀ {e : Env} {R : Prop}, R → R := fun _ _ _ r => r
  by_cases hout : k < 1 ∨ k > 31
  · obtain ⟨hc, rfl⟩ := bad hout
    have hlen0 : ∀ B, evLen Try.prog 38 .snil B = some (.int .i64 0) := fun B => by unfold evLen; rw [Try.underlying38]
    have hcond : (if k < 1 then true else decide (k > 31)) = true := by split <;> simp <;> omega
    obtain ⟨w, A3, u1, ⟨dv, iv, lv, rfl, u2⟩, u3⟩ := outs hout _ rfl
    obtain ⟨A4, s1, s2, s3⟩ := new_msg (A := A3) u2
    have e1 : bc [low] = [V.int .u8 (low.toNat : Int)] := rfl
    rw [e1] at u1
    have hbool : ∀ (p q : Bool), (p = true ↔ q = true) → evEq Try.prog 4 (.bool p) (.bool q) = some true := fun p q h => by
      rw [eq_bool Try.underlying4]
      cases p <;> cases q <;> simp at h ⊢
    rw [hc]
    have finish : ∀ {kk : List Kt} {e : Env} {Q : Ex → Env → AS → Prop}, True := trivial
    by_cases h1 : k < 1
    · simp only [RS, xs_some, Option.bind_some, Option.map_some, if_true, if_false, decide_true, decide_false, true_and, and_true, Bool.not_true, Bool.not_false, Bool.false_eq_true, not_false_eq_true, not_true_eq_false, Nat.reduceLT, Nat.reduceBEq, Nat.reduceEqDiff, Nat.reduceAdd, Int.reduceEq, Int.reduceLT, Int.reduceLE, Int.reduceGT, Int.reduceGE, beq_self_eq_true, List.getElem?_toArray, List.getElem?_cons_zero, List.getElem?_cons_succ, List.append_nil, List.nil_append, List.cons_append, List.append_eq, h1, cnv8, hlow, bsl1]
      refine run_call1 u1 ?_
      simp only [RS, xs_some, Option.bind_some, Option.map_some, if_true, if_false, decide_true, decide_false, true_and, and_true, Bool.not_true, Bool.not_false, Bool.false_eq_true, not_false_eq_true, not_true_eq_false, Nat.reduceLT, Nat.reduceBEq, Nat.reduceEqDiff, Nat.reduceAdd, Int.reduceEq, Int.reduceLT, Int.reduceLE, Int.reduceGT, Int.reduceGE, beq_self_eq_true, List.getElem?_toArray, List.getElem?_cons_zero, List.getElem?_cons_succ, List.append_nil, List.nil_append, List.cons_append, List.append_eq, zcM, s1, cnv8, hlow, hlen0]
      by_cases z1 : (1 : Int) ≤ low.toNat
      · have g1 : (low.toNat : Int) ≥ 1 := z1
        simp only [RS, xs_some, Option.bind_some, Option.map_some, if_true, if_false, decide_true, decide_false, true_and, and_true, Bool.not_true, Bool.not_false, Bool.false_eq_true, not_false_eq_true, not_true_eq_false, Nat.reduceLT, Nat.reduceBEq, Nat.reduceEqDiff, Nat.reduceAdd, Int.reduceEq, Int.reduceLT, Int.reduceLE, Int.reduceGT, Int.reduceGE, beq_self_eq_true, List.getElem?_toArray, List.getElem?_cons_zero, List.getElem?_cons_succ, List.append_nil, List.nil_append, List.cons_append, List.append_eq, g1]
        by_cases z2 : (low.toNat : Int) ≤ 31
        · have z3 : readErr [low] = 0 := u3.2 (by omega)
          simp only [RS, xs_some, Option.bind_some, Option.map_some, if_true, if_false, decide_true, decide_false, true_and, and_true, Bool.not_true, Bool.not_false, Bool.false_eq_true, not_false_eq_true, not_true_eq_false, Nat.reduceLT, Nat.reduceBEq, Nat.reduceEqDiff, Nat.reduceAdd, Int.reduceEq, Int.reduceLT, Int.reduceLE, Int.reduceGT, Int.reduceGE, beq_self_eq_true, List.getElem?_toArray, List.getElem?_cons_zero, List.getElem?_cons_succ, List.append_nil, List.nil_append, List.cons_append, List.append_eq, z2, z3, eq_bool Try.underlying4]
        · have z3 : ¬ readErr [low] = 0 := fun q => by have := u3.1 q; omega
          simp only [RS, xs_some, Option.bind_some, Option.map_some, if_true, if_false, decide_true, decide_false, true_and, and_true, Bool.not_true, Bool.not_false, Bool.false_eq_true, not_false_eq_true, not_true_eq_false, Nat.reduceLT, Nat.reduceBEq, Nat.reduceEqDiff, Nat.reduceAdd, Int.reduceEq, Int.reduceLT, Int.reduceLE, Int.reduceGT, Int.reduceGE, beq_self_eq_true, List.getElem?_toArray, List.getElem?_cons_zero, List.getElem?_cons_succ, List.append_nil, List.nil_append, List.cons_append, List.append_eq, z2, z3, eq_bool Try.underlying4]
      · have g1 : ¬ ((low.toNat : Int) ≥ 1) := z1
        have z3 : ¬ readErr [low] = 0 := fun q => by have := u3.1 q; omega
        simp only [RS, xs_some, Option.bind_some, Option.map_some, if_true, if_false, decide_true, decide_false, true_and, and_true, Bool.not_true, Bool.not_false, Bool.false_eq_true, not_false_eq_true, not_true_eq_false, Nat.reduceLT, Nat.reduceBEq, Nat.reduceEqDiff, Nat.reduceAdd, Int.reduceEq, Int.reduceLT, Int.reduceLE, Int.reduceGT, Int.reduceGE, beq_self_eq_true, List.getElem?_toArray, List.getElem?_cons_zero, List.getElem?_cons_succ, List.append_nil, List.nil_append, List.cons_append, List.append_eq, g1, z3, eq_bool Try.underlying4]
    · have h2 : k > 31 := by omega
      simp only [RS, xs_some, Option.bind_some, Option.map_some, if_true, if_false, decide_true, decide_false, true_and, and_true, Bool.not_true, Bool.not_false, Bool.false_eq_true, not_false_eq_true, not_true_eq_false, Nat.reduceLT, Nat.reduceBEq, Nat.reduceEqDiff, Nat.reduceAdd, Int.reduceEq, Int.reduceLT, Int.reduceLE, Int.reduceGT, Int.reduceGE, beq_self_eq_true, List.getElem?_toArray, List.getElem?_cons_zero, List.getElem?_cons_succ, List.append_nil, List.nil_append, List.cons_append, List.append_eq, h1, h2, cnv8, hlow, bsl1]
      refine run_call1 u1 ?_
      simp only [RS, xs_some, Option.bind_some, Option.map_some, if_true, if_false, decide_true, decide_false, true_and, and_true, Bool.not_true, Bool.not_false, Bool.false_eq_true, not_false_eq_true, not_true_eq_false, Nat.reduceLT, Nat.reduceBEq, Nat.reduceEqDiff, Nat.reduceAdd, Int.reduceEq, Int.reduceLT, Int.reduceLE, Int.reduceGT, Int.reduceGE, beq_self_eq_true, List.getElem?_toArray, List.getElem?_cons_zero, List.getElem?_cons_succ, List.append_nil, List.nil_append, List.cons_append, List.append_eq, zcM, s1, cnv8, hlow, hlen0]
      by_cases z1 : (1 : Int) ≤ low.toNat
      · have g1 : (low.toNat : Int) ≥ 1 := z1
        simp only [RS, xs_some, Option.bind_some, Option.map_some, if_true, if_false, decide_true, decide_false, true_and, and_true, Bool.not_true, Bool.not_false, Bool.false_eq_true, not_false_eq_true, not_true_eq_false, Nat.reduceLT, Nat.reduceBEq, Nat.reduceEqDiff, Nat.reduceAdd, Int.reduceEq, Int.reduceLT, Int.reduceLE, Int.reduceGT, Int.reduceGE, beq_self_eq_true, List.getElem?_toArray, List.getElem?_cons_zero, List.getElem?_cons_succ, List.append_nil, List.nil_append, List.cons_append, List.append_eq, g1]
        by_cases z2 : (low.toNat : Int) ≤ 31
        · have z3 : readErr [low] = 0 := u3.2 (by omega)
          simp only [RS, xs_some, Option.bind_some, Option.map_some, if_true, if_false, decide_true, decide_false, true_and, and_true, Bool.not_true, Bool.not_false, Bool.false_eq_true, not_false_eq_true, not_true_eq_false, Nat.reduceLT, Nat.reduceBEq, Nat.reduceEqDiff, Nat.reduceAdd, Int.reduceEq, Int.reduceLT, Int.reduceLE, Int.reduceGT, Int.reduceGE, beq_self_eq_true, List.getElem?_toArray, List.getElem?_cons_zero, List.getElem?_cons_succ, List.append_nil, List.nil_append, List.cons_append, List.append_eq, z2, z3, eq_bool Try.underlying4]
        · have z3 : ¬ readErr [low] = 0 := fun q => by have := u3.1 q; omega
          simp only [RS, xs_some, Option.bind_some, Option.map_some, if_true, if_false, decide_true, decide_false, true_and, and_true, Bool.not_true, Bool.not_false, Bool.false_eq_true, not_false_eq_true, not_true_eq_false, Nat.reduceLT, Nat.reduceBEq, Nat.reduceEqDiff, Nat.reduceAdd, Int.reduceEq, Int.reduceLT, Int.reduceLE, Int.reduceGT, Int.reduceGE, beq_self_eq_true, List.getElem?_toArray, List.getElem?_cons_zero, List.getElem?_cons_succ, List.append_nil, List.nil_append, List.cons_append, List.append_eq, z2, z3, eq_bool Try.underlying4]
      · have g1 : ¬ ((low.toNat : Int) ≥ 1) := z1
        have z3 : ¬ readErr [low] = 0 := fun q => by have := u3.1 q; omega
        simp only [RS, xs_some, Option.bind_some, Option.map_some, if_true, if_false, decide_true, decide_false, true_and, and_true, Bool.not_true, Bool.not_false, Bool.false_eq_true, not_false_eq_true, not_true_eq_false, Nat.reduceLT, Nat.reduceBEq, Nat.reduceEqDiff, Nat.reduceAdd, Int.reduceEq, Int.reduceLT, Int.reduceLE, Int.reduceGT, Int.reduceGE, beq_self_eq_true, List.getElem?_toArray, List.getElem?_cons_zero, List.getElem?_cons_succ, List.append_nil, List.nil_append, List.cons_append, List.append_eq, g1, z3, eq_bool Try.underlying4]
  · have hc : checkM (msg0 k) = 0 := by rw [hchk, if_neg hout]
    have own := k4 hc
    have hs := own.arrBts
    obtain ⟨kd, rfl⟩ := Int.eq_ofNat_of_zero_le (show 0 ≤ k by omega)
    have hwb : writeB (msg0 kd) = [UInt8.ofNat kd] := by
      have hf : fieldList (msg0 kd) = [] := by
        unfold fieldList
        exact optAll_skip _ _ (fun b hb => by
          obtain ⟨i, hi⟩ := List.mem_iff_getElem?.1 hb
          have hlt := (List.getElem?_eq_some_iff.1 hi).1
          have := P9_msg0 (kd : Int) i hlt
          rw [hi] at this; cases this; rfl)
      unfold writeB; rw [hf]; rfl
    have hrd := read_write (okM_of hc) (wf0 kd)
    obtain ⟨hm1, hm2⟩ := rd_ok hrd
    obtain ⟨w, A3, u1, u2, dv, iv, lv, rfl, u3⟩ := read_spec w1 (arrHp_on A1) hs (by rw [hwb]; simp)
    rw [hm1, hm2] at u1
    rw [hm1] at u3
    obtain ⟨A4, s1, s2, s3⟩ := new_msg (A := A3) u3
    have ld := ldM s3 u3.id
    have fa := faM A3.blk.length
    have hs4 : Slc eU8 (arrHp A4) v [UInt8.ofNat kd] := by
      rw [← hwb]
      exact (hs.mono (arrHp_le u2 fun b q => q.elim)).mono (arrHp_le s2 fun b q => q.elim)
    have hlen := fun B => hs4.len (P := Try.prog) Try.underlying38 B
    obtain ⟨b0, o0, x0, y0⟩ := byte_at hs4 (arrHp_on A4) (i := 0) rfl
    have x0 : evIndexAddr Try.prog 38 v (.int .i64 0) = some (.ptr b0 o0) := x0
    have hkt : (UInt8.ofNat kd).toNat = kd := by rw [UInt8.toNat_ofNat']; omega
    have h1 : ¬ ((kd : Int) < 1) := by omega
    have h2 : ¬ ((kd : Int) > 31) := by omega
    have hl1 : ((([UInt8.ofNat kd] : Bts).length : Nat) : Int) = 1 := rfl
    have hk0 : (msg0 (kd : Int)).kind = kd := rfl
    have hcv : ∀ B, cnv Try.prog 5 3 (some (.int .u8 (kd : Int))) B = some (.val (.int .i64 (kd : Int))) := fun B => by have := cnv83 (UInt8.ofNat kd) B; rw [hkt] at this; exact this
    rw [hc]
    simp only [RS, xs_some, Option.bind_some, Option.map_some, if_true, if_false, decide_true, decide_false, true_and, and_true, Bool.not_true, Bool.not_false, Bool.false_eq_true, not_false_eq_true, not_true_eq_false, Nat.reduceLT, Nat.reduceBEq, Nat.reduceEqDiff, Nat.reduceAdd, Int.reduceEq, Int.reduceLT, Int.reduceLE, Int.reduceGT, Int.reduceGE, beq_self_eq_true, List.getElem?_toArray, List.getElem?_cons_zero, List.getElem?_cons_succ, List.append_nil, List.nil_append, List.cons_append, List.append_eq, h1, h2]
    refine run_call1 u1 ?_
    simp only [RS, xs_some, Option.bind_some, Option.map_some, if_true, if_false, decide_true, decide_false, true_and, and_true, Bool.not_true, Bool.not_false, Bool.false_eq_true, not_false_eq_true, not_true_eq_false, Nat.reduceLT, Nat.reduceBEq, Nat.reduceEqDiff, Nat.reduceAdd, Int.reduceEq, Int.reduceLT, Int.reduceLE, Int.reduceGT, Int.reduceGE, beq_self_eq_true, List.getElem?_toArray, List.getElem?_cons_zero, List.getElem?_cons_succ, List.append_nil, List.nil_append, List.cons_append, List.append_eq, zcM, s1, hlen, hl1, x0, y0, hcv, hkt, fa, ld, hk0]

set_option maxRecDepth 10000 in
set_option maxHeartbeats 16000000 in
theorem packCut_spec {m : Hp} {A : AS} {x : Go.Sv.M} {dv iv lv : V} {at_ : Int} {c : UInt8} (hw : WF A) (hm : m.on A) (hle : m.le (arrHp A)) (h : MsgIn m x dv iv lv) (hz : Sized x) :
    ∃ w A', EvF Try.prog HH 8 [.agg (mc x dv iv lv), .int .i64 at_, .int .u8 (c.toNat : Int)] A w A' ∧ w = .bool true := by
  refine run_fn2 rfl Try.func8 (by unfold Try.f8; rfl) Try.ntmps8 (by unfold Try.f8; rfl) (by simp) ?_
  simp only [RS, xs_some, Option.bind_some, Option.map_some, if_true, if_false, decide_true, decide_false, true_and, and_true, Bool.not_true, Bool.not_false, Bool.false_eq_true, not_false_eq_true, not_true_eq_false, Nat.reduceLT, Nat.reduceBEq, Nat.reduceEqDiff, Nat.reduceAdd, Int.reduceEq, Int.reduceLT, Int.reduceLE, Int.reduceGT, Int.reduceGE, beq_self_eq_true, List.getElem?_toArray, List.getElem?_cons_zero, List.getElem?_cons_succ, List.append_nil, List.nil_append, List.cons_append, List.append_eq]
  obtain ⟨A1, e1, f1, r1, n1⟩ := new_var A (mc x dv iv lv)
  rw [← e1]
  refine run_call1 (evF_ground rfl) ?_
  have ld := ldM r1 h.id
  simp only [RS, xs_some, Option.bind_some, Option.map_some, if_true, if_false, decide_true, decide_false, true_and, and_true, Bool.not_true, Bool.not_false, Bool.false_eq_true, not_false_eq_true, not_true_eq_false, Nat.reduceLT, Nat.reduceBEq, Nat.reduceEqDiff, Nat.reduceAdd, Int.reduceEq, Int.reduceLT, Int.reduceLE, Int.reduceGT, Int.reduceGE, beq_self_eq_true, List.getElem?_toArray, List.getElem?_cons_zero, List.getElem?_cons_succ, List.append_nil, List.nil_append, List.cons_append, List.append_eq, ld]
  obtain ⟨w, A2, k1, k2, v, rfl, k3, k4⟩ := write_spec (f1.wf hw) (hm.fr0 f1) h hz
  refine run_call1 k1 ?_
  simp only [RS, xs_some, Option.bind_some, Option.map_some, if_true, if_false, decide_true, decide_false, true_and, and_true, Bool.not_true, Bool.not_false, Bool.false_eq_true, not_false_eq_true, not_true_eq_false, Nat.reduceLT, Nat.reduceBEq, Nat.reduceEqDiff, Nat.reduceAdd, Int.reduceEq, Int.reduceLT, Int.reduceLE, Int.reduceGT, Int.reduceGE, beq_self_eq_true, List.getElem?_toArray, List.getElem?_cons_zero, List.getElem?_cons_succ, List.append_nil, List.nil_append, List.cons_append, List.append_eq]
  have hlen0 : ∀ B, evLen Try.prog 38 .snil B = some (.int .i64 0) := fun B => by unfold evLen; rw [Try.underlying38]
  refine condK_of (fun g => ?_) (fun g => ?_)
  · have hv := k3 g
    subst hv
    simp only [RS, xs_some, Option.bind_some, Option.map_some, if_true, if_false, decide_true, decide_false, true_and, and_true, Bool.not_true, Bool.not_false, Bool.false_eq_true, not_false_eq_true, not_true_eq_false, Nat.reduceLT, Nat.reduceBEq, Nat.reduceEqDiff, Nat.reduceAdd, Int.reduceEq, Int.reduceLT, Int.reduceLE, Int.reduceGT, Int.reduceGE, beq_self_eq_true, List.getElem?_toArray, List.getElem?_cons_zero, List.getElem?_cons_succ, List.append_nil, List.nil_append, List.cons_append, List.append_eq, hlen0]
  have g0 : checkM x = 0 := by omega
  have hok := okM_of g0
  have own := k4 g0
  have hrd := read_write hok (wf_of h)
  have hwl := writeB_len h hok
  have w2 := k2.wf (f1.wf hw)
  have r2 := k2.row0 r1
  have fA2 := f1.then0 k2
  obtain ⟨B0, hB0⟩ : ∃ b, b = writeB x := ⟨_, rfl⟩
  rw [← hB0] at own hrd hwl
  -- the rest: a byte more
  have rest : ∀ (C : AS), Fr S0 A2 C → ∃ (v1 : V) (D : AS), evAppend Try.prog 38 38 (.sl C.blk.length 0 0 1) v (C.push ⟨[], .arr C.blk.length 0⟩) = some (v1, D) ∧
      ∃ (v2 : V) (E : AS), evAppend Try.prog 38 38 v1 (.sl D.blk.length 0 1 1) (D.push ⟨[.int .u8 (c.toNat : Int)], .arr D.blk.length 0⟩) = some (v2, E) ∧
      ∃ (dv : V) (iv : V) (lv : V) (n : Int) (F : AS), EvF Try.prog HH 30 [v2] E (.tup [.agg (mc (readMsg (B0 ++ [c])) dv iv lv), .int .i64 n]) F ∧ n ≠ 0 ∧ MsgIn (arrHp F) (readMsg (B0 ++ [c])) dv iv lv := by
    intro C hC
    have wC := hC.wf w2
    have o2 := Own.new (N := C.blk.length) (n := 0) (sz := 1) (cs := []) wC (Nat.le_refl _) rfl rfl
    have q1 := Fr.pushArr C []
    have hown := own.fr0 (hC.then0 q1)
    obtain ⟨v1, D, p1, p2, p3⟩ := o2.app sl38 (q1.wf wC) q1.len (hown.src (P := Try.prog) (tx := 38) Try.underlying38) (by rw [bc_len, Nat.mul_one]) (bc_one _) (by omega) (by omega)
    have wD := p3.wf (q1.wf wC)
    have nD : C.blk.length ≤ D.blk.length := by have := q1.len; have := p3.len; omega
    obtain ⟨v2, E, u1, u2, u3⟩ := p2.appNew (k := 1) (new := [.int .u8 (c.toNat : Int)]) sl38 Try.underlying38 wD nD rfl rfl (by omega) (by omega)
    have hE : Own C.blk.length E v2 (B0 ++ [c]).length 1 (bc (B0 ++ [c])) := u2.cast (by simp) (by simp [bc])
    obtain ⟨w, F, z1, z2, dv, iv, lv, rfl, z3⟩ := read_spec (u3.wf wD) (arrHp_on E) hE.arrBts (by simp; omega)
    refine ⟨v1, D, p1, v2, E, u1, dv, iv, lv, _, F, z1, ?_, z3⟩
    obtain ⟨er, y1, y2⟩ := read_extra hrd c
    intro q
    obtain ⟨z, hz⟩ := readErr_ne.1 q
    rw [y1] at hz; simp at hz
  have hlen := fun B => own.len (P := Try.prog) Try.underlying38 B
  have finish : ∀ (C : AS), Fr S0 A2 C → ∃ (v1 : V) (D : AS), True := fun C _ => ⟨.snil, C, trivial⟩
  simp only [RS, xs_some, Option.bind_some, Option.map_some, if_true, if_false, decide_true, decide_false, true_and, and_true, Bool.not_true, Bool.not_false, Bool.false_eq_true, not_false_eq_true, not_true_eq_false, Nat.reduceLT, Nat.reduceBEq, Nat.reduceEqDiff, Nat.reduceAdd, Int.reduceEq, Int.reduceLT, Int.reduceLE, Int.reduceGT, Int.reduceGE, beq_self_eq_true, List.getElem?_toArray, List.getElem?_cons_zero, List.getElem?_cons_succ, List.append_nil, List.nil_append, List.cons_append, List.append_eq]
  refine contG_of (fun g1 => ?_) (fun g1 => ?_)
  rotate_left
  · obtain ⟨v1, D, p1, v2, E, p2, dv', iv', lv', n, F, p3, p4, p5⟩ := rest A2 (.refl _ A2)
    simp only [RS, xs_some, Option.bind_some, Option.map_some, if_true, if_false, decide_true, decide_false, true_and, and_true, Bool.not_true, Bool.not_false, Bool.false_eq_true, not_false_eq_true, not_true_eq_false, Nat.reduceLT, Nat.reduceBEq, Nat.reduceEqDiff, Nat.reduceAdd, Int.reduceEq, Int.reduceLT, Int.reduceLE, Int.reduceGT, Int.reduceGE, beq_self_eq_true, List.getElem?_toArray, List.getElem?_cons_zero, List.getElem?_cons_succ, List.append_nil, List.nil_append, List.cons_append, List.append_eq, g1, bsl0, p1, bsl1, p2]
    refine run_call1 p3 ?_
    obtain ⟨G, s1, s2, s3⟩ := new_msg (A := F) p5
    simp only [RS, xs_some, Option.bind_some, Option.map_some, if_true, if_false, decide_true, decide_false, true_and, and_true, Bool.not_true, Bool.not_false, Bool.false_eq_true, not_false_eq_true, not_true_eq_false, Nat.reduceLT, Nat.reduceBEq, Nat.reduceEqDiff, Nat.reduceAdd, Int.reduceEq, Int.reduceLT, Int.reduceLE, Int.reduceGT, Int.reduceGE, beq_self_eq_true, List.getElem?_toArray, List.getElem?_cons_zero, List.getElem?_cons_succ, List.append_nil, List.nil_append, List.cons_append, List.append_eq, zcM, s1, p4]
  simp only [RS, xs_some, Option.bind_some, Option.map_some, if_true, if_false, decide_true, decide_false, true_and, and_true, Bool.not_true, Bool.not_false, Bool.false_eq_true, not_false_eq_true, not_true_eq_false, Nat.reduceLT, Nat.reduceBEq, Nat.reduceEqDiff, Nat.reduceAdd, Int.reduceEq, Int.reduceLT, Int.reduceLE, Int.reduceGT, Int.reduceGE, beq_self_eq_true, List.getElem?_toArray, List.getElem?_cons_zero, List.getElem?_cons_succ, List.append_nil, List.nil_append, List.cons_append, List.append_eq, g1, hlen]
  refine condK_of (fun g2 => ?_) (fun g2 => ?_)
  rotate_left
  · obtain ⟨v1, D, p1, v2, E, p2, dv', iv', lv', n, F, p3, p4, p5⟩ := rest A2 (.refl _ A2)
    simp only [RS, xs_some, Option.bind_some, Option.map_some, if_true, if_false, decide_true, decide_false, true_and, and_true, Bool.not_true, Bool.not_false, Bool.false_eq_true, not_false_eq_true, not_true_eq_false, Nat.reduceLT, Nat.reduceBEq, Nat.reduceEqDiff, Nat.reduceAdd, Int.reduceEq, Int.reduceLT, Int.reduceLE, Int.reduceGT, Int.reduceGE, beq_self_eq_true, List.getElem?_toArray, List.getElem?_cons_zero, List.getElem?_cons_succ, List.append_nil, List.nil_append, List.cons_append, List.append_eq, bsl0, p1, bsl1, p2]
    refine run_call1 p3 ?_
    obtain ⟨G, s1, s2, s3⟩ := new_msg (A := F) p5
    simp only [RS, xs_some, Option.bind_some, Option.map_some, if_true, if_false, decide_true, decide_false, true_and, and_true, Bool.not_true, Bool.not_false, Bool.false_eq_true, not_false_eq_true, not_true_eq_false, Nat.reduceLT, Nat.reduceBEq, Nat.reduceEqDiff, Nat.reduceAdd, Int.reduceEq, Int.reduceLT, Int.reduceLE, Int.reduceGT, Int.reduceGE, beq_self_eq_true, List.getElem?_toArray, List.getElem?_cons_zero, List.getElem?_cons_succ, List.append_nil, List.nil_append, List.cons_append, List.append_eq, zcM, s1, p4]
  obtain ⟨i, rfl⟩ := Int.eq_ofNat_of_zero_le (show 0 ≤ at_ by omega)
  have hil : i < B0.length := by omega
  obtain ⟨w1, u1, u2⟩ := own.arrBts.subTo (P := Try.prog) (t := 38) (hi := i) (kh := .i64) Try.underlying38 sz5 (by omega) A2
  obtain ⟨w, A3, q1, q2, dv1, iv1, lv1, rfl, q3⟩ := read_spec w2 (arrHp_on A2) u2 (by rw [List.length_take]; omega)
  obtain ⟨A4, s1, s2, s3⟩ := new_msg (A := A3) q3
  simp only [RS, xs_some, Option.bind_some, Option.map_some, if_true, if_false, decide_true, decide_false, true_and, and_true, Bool.not_true, Bool.not_false, Bool.false_eq_true, not_false_eq_true, not_true_eq_false, Nat.reduceLT, Nat.reduceBEq, Nat.reduceEqDiff, Nat.reduceAdd, Int.reduceEq, Int.reduceLT, Int.reduceLE, Int.reduceGT, Int.reduceGE, beq_self_eq_true, List.getElem?_toArray, List.getElem?_cons_zero, List.getElem?_cons_succ, List.append_nil, List.nil_append, List.cons_append, List.append_eq, u1]
  refine run_call1 q1 ?_
  have fr4 := q2.then0 s2
  simp only [RS, xs_some, Option.bind_some, Option.map_some, if_true, if_false, decide_true, decide_false, true_and, and_true, Bool.not_true, Bool.not_false, Bool.false_eq_true, not_false_eq_true, not_true_eq_false, Nat.reduceLT, Nat.reduceBEq, Nat.reduceEqDiff, Nat.reduceAdd, Int.reduceEq, Int.reduceLT, Int.reduceLE, Int.reduceGT, Int.reduceGE, beq_self_eq_true, List.getElem?_toArray, List.getElem?_cons_zero, List.getElem?_cons_succ, List.append_nil, List.nil_append, List.cons_append, List.append_eq, zcM, s1]
  refine contG_of (fun g3 => ?_) (fun g3 => ?_)
  · have ldn := ldM s3 q3.id
    have ldx := ldM (fr4.row0 r2) h.id
    have fA4 := fA2.then0 fr4
    have hx4 : MsgIn (arrHp A4) x dv iv lv := (h.mono hle).mono (arrHp_le fA4 fun b q => q.elim)
    have hn4 : MsgIn (arrHp A4) (readMsg (B0.take i)) dv1 iv1 lv1 := q3.mono (arrHp_le s2 fun b q => q.elim)
    have hsz := readMsg_sz (B0.take i)
    rw [List.length_take] at hsz
    obtain ⟨w, A5, y1, y2, r, rfl, y3⟩ := same_spec (arrHp_on A4) hn4 hx4 (by simp only [szM] at hsz; omega) (by simp only [szM] at hsz; omega)
    have hr : r = false := by
      cases hrr : r with
      | false => rfl
      | true =>
        exfalso
        have e1 := y3.1 hrr
        obtain ⟨z, hz'⟩ := readErr_ne.1 g3
        obtain ⟨e2, _⟩ := rd_ok hz'
        obtain ⟨e3, _, _⟩ := write_read hz'
        rw [e2] at e1
        subst e1
        have := congrArg List.length (e3.symm.trans hB0.symm)
        rw [List.length_take] at this; omega
    subst hr
    simp only [RS, xs_some, Option.bind_some, Option.map_some, if_true, if_false, decide_true, decide_false, true_and, and_true, Bool.not_true, Bool.not_false, Bool.false_eq_true, not_false_eq_true, not_true_eq_false, Nat.reduceLT, Nat.reduceBEq, Nat.reduceEqDiff, Nat.reduceAdd, Int.reduceEq, Int.reduceLT, Int.reduceLE, Int.reduceGT, Int.reduceGE, beq_self_eq_true, List.getElem?_toArray, List.getElem?_cons_zero, List.getElem?_cons_succ, List.append_nil, List.nil_append, List.cons_append, List.append_eq, g3, ldn, ldx]
    refine run_call1 y1 ?_
    obtain ⟨v1, D, p1, v2, E, p2, dv', iv', lv', n, F, p3, p4, p5⟩ := rest A5 (fr4.then0 y2)
    simp only [RS, xs_some, Option.bind_some, Option.map_some, if_true, if_false, decide_true, decide_false, true_and, and_true, Bool.not_true, Bool.not_false, Bool.false_eq_true, not_false_eq_true, not_true_eq_false, Nat.reduceLT, Nat.reduceBEq, Nat.reduceEqDiff, Nat.reduceAdd, Int.reduceEq, Int.reduceLT, Int.reduceLE, Int.reduceGT, Int.reduceGE, beq_self_eq_true, List.getElem?_toArray, List.getElem?_cons_zero, List.getElem?_cons_succ, List.append_nil, List.nil_append, List.cons_append, List.append_eq, g3, bsl0, p1, bsl1, p2]
    refine run_call1 p3 ?_
    obtain ⟨G, t1, t2, t3⟩ := new_msg (A := F) p5
    simp only [RS, xs_some, Option.bind_some, Option.map_some, if_true, if_false, decide_true, decide_false, true_and, and_true, Bool.not_true, Bool.not_false, Bool.false_eq_true, not_false_eq_true, not_true_eq_false, Nat.reduceLT, Nat.reduceBEq, Nat.reduceEqDiff, Nat.reduceAdd, Int.reduceEq, Int.reduceLT, Int.reduceLE, Int.reduceGT, Int.reduceGE, beq_self_eq_true, List.getElem?_toArray, List.getElem?_cons_zero, List.getElem?_cons_succ, List.append_nil, List.nil_append, List.cons_append, List.append_eq, zcM, t1, p4]
  · obtain ⟨v1, D, p1, v2, E, p2, dv', iv', lv', n, F, p3, p4, p5⟩ := rest A4 fr4
    simp only [RS, xs_some, Option.bind_some, Option.map_some, if_true, if_false, decide_true, decide_false, true_and, and_true, Bool.not_true, Bool.not_false, Bool.false_eq_true, not_false_eq_true, not_true_eq_false, Nat.reduceLT, Nat.reduceBEq, Nat.reduceEqDiff, Nat.reduceAdd, Int.reduceEq, Int.reduceLT, Int.reduceLE, Int.reduceGT, Int.reduceGE, beq_self_eq_true, List.getElem?_toArray, List.getElem?_cons_zero, List.getElem?_cons_succ, List.append_nil, List.nil_append, List.cons_append, List.append_eq, g3, bsl0, p1, bsl1, p2]
    refine run_call1 p3 ?_
    obtain ⟨G, y1, y2, y3⟩ := new_msg (A := F) p5
    simp only [RS, xs_some, Option.bind_some, Option.map_some, if_true, if_false, decide_true, decide_false, true_and, and_true, Bool.not_true, Bool.not_false, Bool.false_eq_true, not_false_eq_true, not_true_eq_false, Nat.reduceLT, Nat.reduceBEq, Nat.reduceEqDiff, Nat.reduceAdd, Int.reduceEq, Int.reduceLT, Int.reduceLE, Int.reduceGT, Int.reduceGE, beq_self_eq_true, List.getElem?_toArray, List.getElem?_cons_zero, List.getElem?_cons_succ, List.append_nil, List.nil_append, List.cons_append, List.append_eq, zcM, y1, p4]
end Go.Sv.Try
