/- How raw bytes are read as a message: plain. -/
import Derived.Test.YtnogkphkjkbbhaaPack
import Derived.Test.YtnogkphkjkbbhaaSv4
namespace Go.Sv
open Go
set_option linter.unusedVariables false

/-- The run at the beginning, and what is behind it. -/
def takeB : Bts → Option (Bts × Bts)
  | a :: b :: c :: r => if a.toNat * 65536 + b.toNat * 256 + c.toNat > r.length then none else some (r.take (a.toNat * 65536 + b.toNat * 256 + c.toNat), r.drop (a.toNat * 65536 + b.toNat * 256 + c.toNat))
  | _ => none
theorem takeB_len {s x r : Bts} (h : takeB s = some (x, r)) : s.length = x.length + r.length + 3 ∧ x.length ≤ 16777215 := by
  match s, h with
  | a :: b :: c :: q, h =>
    simp only [takeB] at h
    split at h
    · simp at h
    · simp only [Option.some.injEq, Prod.mk.injEq] at h
      obtain ⟨rfl, rfl⟩ := h
      have h1 := a.toNat_lt; have h2 := b.toNat_lt; have h3 := c.toNat_lt
      simp only [List.length_cons, List.length_take, List.length_drop]
      omega
theorem takeB_eq {s x r : Bts} (h : takeB s = some (x, r)) : s = runB x ++ r := by
  match s, h with
  | a :: b :: c :: q, h =>
    simp only [takeB] at h
    split at h
    · simp at h
    · rename_i hle
      simp only [Option.some.injEq, Prod.mk.injEq] at h
      obtain ⟨rfl, rfl⟩ := h
      have h1 := a.toNat_lt; have h2 := b.toNat_lt; have h3 := c.toNat_lt
      have hl : (List.take (a.toNat * 65536 + b.toNat * 256 + c.toNat) q).length = a.toNat * 65536 + b.toNat * 256 + c.toNat := by rw [List.length_take]; omega
      simp only [runB, hl]
      have e1 : UInt8.ofNat ((a.toNat * 65536 + b.toNat * 256 + c.toNat) / 65536) = a := by
        rw [show (a.toNat * 65536 + b.toNat * 256 + c.toNat) / 65536 = a.toNat by omega, UInt8.ofNat_toNat]
      have e2 : UInt8.ofNat ((a.toNat * 65536 + b.toNat * 256 + c.toNat) / 256) = b := by
        apply UInt8.toNat_inj.1; rw [UInt8.toNat_ofNat']; omega
      have e3 : UInt8.ofNat (a.toNat * 65536 + b.toNat * 256 + c.toNat) = c := by
        apply UInt8.toNat_inj.1; rw [UInt8.toNat_ofNat']; omega
      rw [e1, e2, e3]
      simp
theorem takeB_run {x r : Bts} (h : x.length ≤ 16777215) : takeB (runB x ++ r) = some (x, r) := by
  simp only [runB, List.cons_append, takeB]
  have e : (UInt8.ofNat (x.length / 65536)).toNat * 65536 + (UInt8.ofNat (x.length / 256)).toNat * 256 + (UInt8.ofNat x.length).toNat = x.length := by
    simp only [UInt8.toNat_ofNat']; omega
  rw [e, if_neg (by simp)]
  simp

/-- Runs until the end. -/
def runsOf (s : Bts) : Option (List Bts) := if s = [] then some [] else match h : takeB s with
  | none => none
  | some (x, r) => (runsOf r).map (x :: ·)
termination_by s.length
decreasing_by have := takeB_len h; omega
theorem runsOf_nil : runsOf [] = some [] := by rw [runsOf]; simp
theorem runsOf_none {s : Bts} (hs : s ≠ []) (h : takeB s = none) : runsOf s = none := by
  rw [runsOf, if_neg hs]; split
  · rfl
  · rename_i q; rw [h] at q; simp at q
theorem runsOf_some {s x r : Bts} (h : takeB s = some (x, r)) : runsOf s = (runsOf r).map (x :: ·) := by
  have hs : s ≠ [] := by rintro rfl; simp [takeB] at h
  rw [runsOf, if_neg hs]; split
  · rename_i q; rw [h] at q; simp at q
  · rename_i q; rw [h] at q; cases q; rfl

/-- Parts of 32 bytes. -/
def chunk32 (s : Bts) : List Bts := if s = [] then [] else s.take 32 :: chunk32 (s.drop 32)
termination_by s.length
decreasing_by
  rename_i h
  have : s.length ≠ 0 := fun q => h (List.eq_nil_of_length_eq_zero q)
  simp only [List.length_drop]; omega
theorem chunk32_nil : chunk32 [] = [] := by rw [chunk32]; simp
theorem chunk32_cons {s : Bts} (h : s ≠ []) : chunk32 s = s.take 32 :: chunk32 (s.drop 32) := by rw [chunk32, if_neg h]

/-- A number's bytes, together. -/
def valOf (s : Bts) : Nat := s.foldl (fun n x => n * 256 + x.toNat) 0
theorem valOf_succ {s : Bts} {i : Nat} {x : UInt8} (h : s[i]? = some x) : valOf (s.take (i + 1)) = valOf (s.take i) * 256 + x.toNat := by
  unfold valOf
  rw [List.take_add_one, h, List.foldl_append]; rfl
theorem valOf_lt : ∀ s : Bts, valOf s < 256 ^ s.length := by
  intro s
  have key : ∀ (s : Bts) (n k : Nat), n < 256 ^ k → s.foldl (fun n x => n * 256 + x.toNat) n < 256 ^ (k + s.length) := by
    intro s
    induction s with
    | nil => intro n k h; simpa using h
    | cons x s ih =>
      intro n k h
      have hx := x.toNat_lt
      have := ih (n * 256 + x.toNat) (k + 1) (by rw [Nat.pow_succ]; omega)
      rw [List.foldl_cons, List.length_cons, show k + (s.length + 1) = k + 1 + s.length by omega]; exact this
  have := key s 0 0 (by simp)
  simpa [valOf] using this
/-- The number of some bytes, if they are one. -/
def numOf (s : Bts) : Option Nat := if s = [] ∨ s[0]? = some 0 ∨ s.length > 6 ∨ valOf s > 1099511627776 then none else some (valOf s)

def setNum (m : M) (t : Nat) (n : Int) : M := match t with
  | 1 => { m with who := n }
  | 2 => { m with height := n }
  | 3 => { m with round := n }
  | 4 => { m with valid := n }
  | _ => { m with num := n }

/-- A field is put into a message: the error's number, or the message. -/
def putM (m : M) (t : Nat) (x : Bts) : Except Int M :=
  if x = [] then .error 23
  else if t < 6 then (match numOf x with | none => .error 23 | some n => .ok (setNum m t n))
  else if t = 6 then (if x.length ≠ 32 ∨ x = zero32 then .error 23 else .ok { m with id := x })
  else if t = 7 then .ok { m with data := x }
  else if t = 8 then (if x.length % 32 ≠ 0 then .error 23 else .ok { m with ids := m.ids ++ chunk32 x })
  else (match runsOf x with | none => .error 20 | some l => .ok { m with list := m.list ++ l })

/-- The fields of some bytes, as far as they can be told; and whether that is all: an error's number. -/
def items (last : Nat) (s : Bts) : List (Nat × Bts) × Int := match s with
  | [] => ([], 0)
  | t :: r => if t.toNat ≤ last ∨ t.toNat > 9 then ([], 21) else match h : takeB r with
    | none => ([], 20)
    | some (x, r') => ((t.toNat, x) :: (items t.toNat r').1, (items t.toNat r').2)
termination_by s.length
decreasing_by
  all_goals (have := takeB_len h; simp only [List.length_cons]; omega)
theorem items_nil (last : Nat) : items last [] = ([], 0) := by rw [items]
theorem items_tag {last : Nat} {t : UInt8} {r : Bts} (h : t.toNat ≤ last ∨ t.toNat > 9) : items last (t :: r) = ([], 21) := by rw [items, if_pos h]
theorem items_short {last : Nat} {t : UInt8} {r : Bts} (h : ¬ (t.toNat ≤ last ∨ t.toNat > 9)) (hr : takeB r = none) : items last (t :: r) = ([], 20) := by
  rw [items, if_neg h]; split
  · rfl
  · rename_i q; rw [hr] at q; simp at q
theorem items_more {last : Nat} {t : UInt8} {r x r' : Bts} (h : ¬ (t.toNat ≤ last ∨ t.toNat > 9)) (hr : takeB r = some (x, r')) : items last (t :: r) = ((t.toNat, x) :: (items t.toNat r').1, (items t.toNat r').2) := by
  rw [items, if_neg h]; split
  · rename_i q; rw [hr] at q; simp at q
  · rename_i q; rw [hr] at q; cases q; rfl

/-- Fields are put in, one behind another. -/
def putAll (m : M) : List (Nat × Bts) → Except Int M
  | [] => .ok m
  | (t, x) :: l => match putM m t x with
    | .error e => .error e
    | .ok m' => putAll m' l
theorem putAll_app {m m' : M} : ∀ {l r : List (Nat × Bts)}, putAll m l = .ok m' → putAll m (l ++ r) = putAll m' r
  | [], r, h => by simp [putAll] at h; subst h; rfl
  | (t, x) :: l, r, h => by
    simp only [putAll, List.cons_append] at h ⊢
    split at h
    · simp at h
    · rename_i q; exact putAll_app h
/-- The rest of a message. -/
def restM (m : M) (last : Nat) (s : Bts) : Except Int M := match putAll m (items last s).1 with
  | .error e => .error e
  | .ok m' => if (items last s).2 ≠ 0 then .error (items last s).2 else .ok m'
def msg0 (k : Int) : M := ⟨k, 0, 0, 0, 0, 0, zero32, [], [], []⟩
/-- The message of some bytes: the error's number, or the message. -/
def readM (b : Bts) : Except Int M := match b with
  | [] => .error 20
  | k :: r => if k.toNat < 1 ∨ k.toNat > 31 then .error 21 else match restM (msg0 k.toNat) 0 r with
    | .error e => .error e
    | .ok m => if checkM m ≠ 0 then .error (checkM m) else .ok m
def readMsg (b : Bts) : M := match readM b with | .error _ => msg0 0 | .ok m => m
def readErr (b : Bts) : Int := match readM b with | .error e => e | .ok _ => 0

theorem restM_nil (m : M) (last : Nat) : restM m last [] = .ok m := by simp [restM, items_nil, putAll]
theorem restM_tag {m : M} {last : Nat} {t : UInt8} {r : Bts} (h : t.toNat ≤ last ∨ t.toNat > 9) : restM m last (t :: r) = .error 21 := by simp [restM, items_tag h, putAll]
theorem restM_short {m : M} {last : Nat} {t : UInt8} {r : Bts} (h : ¬ (t.toNat ≤ last ∨ t.toNat > 9)) (hr : takeB r = none) : restM m last (t :: r) = .error 20 := by simp [restM, items_short h hr, putAll]
theorem restM_bad {m : M} {last : Nat} {t : UInt8} {r x r' : Bts} {e : Int} (h : ¬ (t.toNat ≤ last ∨ t.toNat > 9)) (hr : takeB r = some (x, r')) (hp : putM m t.toNat x = .error e) : restM m last (t :: r) = .error e := by simp [restM, items_more h hr, putAll, hp]
theorem restM_more {m m' : M} {last : Nat} {t : UInt8} {r x r' : Bts} (h : ¬ (t.toNat ≤ last ∨ t.toNat > 9)) (hr : takeB r = some (x, r')) (hp : putM m t.toNat x = .ok m') : restM m last (t :: r) = restM m' t.toNat r' := by simp [restM, items_more h hr, putAll, hp]

theorem takeB_none {s : Bts} (h : takeB s = none) : s.length < 3 ∨ ∃ a b c r, s = a :: b :: c :: r ∧ a.toNat * 65536 + b.toNat * 256 + c.toNat > r.length := by
  match s, h with
  | [], _ => exact .inl (by simp)
  | [a], _ => exact .inl (by simp)
  | [a, b], _ => exact .inl (by simp)
  | a :: b :: c :: r, h =>
    refine .inr ⟨a, b, c, r, rfl, ?_⟩
    simp only [takeB] at h
    split at h
    · assumption
    · simp at h
theorem items_gt : ∀ (n : Nat) (s : Bts) (last : Nat), s.length ≤ n → ∀ f ∈ (items last s).1, last < f.1 ∧ f.1 ≤ 9 := by
  intro n
  induction n with
  | zero =>
    intro s last hs f hf
    have : s = [] := List.eq_nil_of_length_eq_zero (by omega)
    subst this; rw [items_nil] at hf; simp at hf
  | succ n ih =>
    intro s last hs f hf
    match s with
    | [] => rw [items_nil] at hf; simp at hf
    | t :: r =>
      by_cases h : t.toNat ≤ last ∨ t.toNat > 9
      · rw [items_tag h] at hf; simp at hf
      · cases hr : takeB r with
        | none => rw [items_short h hr] at hf; simp at hf
        | some p =>
          obtain ⟨x, r'⟩ := p
          rw [items_more h hr] at hf
          rcases List.mem_cons.1 hf with rfl | hf
          · exact ⟨by simp only []; omega, by simp only []; omega⟩
          · have hl := takeB_len hr
            have := ih r' t.toNat (by simp only [List.length_cons] at hs; omega) f hf
            omega
theorem items_rise : ∀ (n : Nat) (s : Bts) (last i : Nat) (f g : Nat × Bts), s.length ≤ n → (items last s).1[i]? = some f → (items last s).1[i + 1]? = some g → f.1 < g.1 := by
  intro n
  induction n with
  | zero =>
    intro s last i f g hs hf
    have : s = [] := List.eq_nil_of_length_eq_zero (by omega)
    subst this; rw [items_nil] at hf; simp at hf
  | succ n ih =>
    intro s last i f g hs hf hg
    match s with
    | [] => rw [items_nil] at hf; simp at hf
    | t :: r =>
      by_cases h : t.toNat ≤ last ∨ t.toNat > 9
      · rw [items_tag h] at hf; simp at hf
      · cases hr : takeB r with
        | none => rw [items_short h hr] at hf; simp at hf
        | some p =>
          obtain ⟨x, r'⟩ := p
          rw [items_more h hr] at hf hg
          have hl := takeB_len hr
          simp only [List.length_cons] at hs
          cases i with
          | zero =>
            simp at hf hg; subst hf
            have := items_gt n r' t.toNat (by omega) g (List.mem_of_getElem? (by simpa using hg))
            exact this.1
          | succ i => exact ih r' t.toNat i f g (by omega) (by simpa using hf) (by simpa using hg)
theorem putAll_snoc {m m' m'' : M} {l : List (Nat × Bts)} {i : Nat} {f : Nat × Bts} (h : putAll m (l.take i) = .ok m') (hf : l[i]? = some f) (hp : putM m' f.1 f.2 = .ok m'') : putAll m (l.take (i + 1)) = .ok m'' := by
  rw [List.take_add_one, hf, putAll_app h]
  obtain ⟨t, x⟩ := f
  simp only [Option.toList_some, putAll, hp]
theorem putAll_bad {m m' : M} {l : List (Nat × Bts)} {i : Nat} {f : Nat × Bts} {e : Int} (h : putAll m (l.take i) = .ok m') (hf : l[i]? = some f) (hp : putM m' f.1 f.2 = .error e) : putAll m l = .error e := by
  have hi := (List.getElem?_eq_some_iff.1 hf).1
  have e1 : l = l.take i ++ (l.drop i) := (List.take_append_drop i l).symm
  have e2 : l.drop i = f :: l.drop (i + 1) := by
    rw [List.drop_eq_getElem_cons hi]
    congr 1
    exact (List.getElem?_eq_some_iff.1 hf).2
  rw [e1, putAll_app h, e2]
  obtain ⟨t, x⟩ := f
  simp only [putAll, hp]
theorem restM_of_bad {m m' : M} {last i : Nat} {s : Bts} {f : Nat × Bts} {e : Int} (h : putAll m ((items last s).1.take i) = .ok m') (hf : (items last s).1[i]? = some f) (hp : putM m' f.1 f.2 = .error e) : restM m last s = .error e := by
  unfold restM; rw [putAll_bad h hf hp]
theorem restM_of_ok {m m' : M} {last : Nat} {s : Bts} (h : putAll m (items last s).1 = .ok m') : restM m last s = if (items last s).2 ≠ 0 then .error (items last s).2 else .ok m' := by
  unfold restM; rw [h]
theorem runsOf_len : ∀ (n : Nat) (s : Bts) (l : List Bts), s.length ≤ n → runsOf s = some l → l.length ≤ s.length ∧ lens l ≤ s.length ∧ ∀ b ∈ l, b.length ≤ s.length := by
  intro n
  induction n with
  | zero =>
    intro s l hs h
    have : s = [] := List.eq_nil_of_length_eq_zero (by omega)
    subst this; rw [runsOf_nil] at h; cases h; simp [lens, sumOf]
  | succ n ih =>
    intro s l hs h
    by_cases q : s = []
    · subst q; rw [runsOf_nil] at h; cases h; simp [lens, sumOf]
    · cases hr : takeB s with
      | none => rw [runsOf_none q hr] at h; simp at h
      | some p =>
        obtain ⟨x, r⟩ := p
        rw [runsOf_some hr] at h
        cases hq : runsOf r with
        | none => rw [hq] at h; simp at h
        | some l' =>
          rw [hq] at h; simp at h; subst h
          have hl := takeB_len hr
          have := ih r l' (by omega) hq
          refine ⟨by simp only [List.length_cons]; omega, by rw [lens_cons]; omega, fun b hb => ?_⟩
          rcases List.mem_cons.1 hb with rfl | hb
          · omega
          · have := this.2.2 b hb; omega
theorem chunk32_len : ∀ (n : Nat) (s : Bts), s.length = 32 * n → (chunk32 s).length = n ∧ (∀ b ∈ chunk32 s, b.length = 32) ∧ (chunk32 s).flatten = s := by
  intro n
  induction n with
  | zero =>
    intro s hs
    have : s = [] := List.eq_nil_of_length_eq_zero (by omega)
    subst this; rw [chunk32_nil]; simp
  | succ n ih =>
    intro s hs
    have hne : s ≠ [] := by rintro rfl; simp at hs
    rw [chunk32_cons hne]
    obtain ⟨h1, h2, h3⟩ := ih (s.drop 32) (by rw [List.length_drop]; omega)
    refine ⟨by simp [h1], fun b hb => ?_, by rw [List.flatten_cons, h3, List.take_append_drop]⟩
    rcases List.mem_cons.1 hb with rfl | hb
    · rw [List.length_take]; omega
    · exact h2 b hb
theorem runsOf_sum : ∀ (n : Nat) (s : Bts) (l : List Bts), s.length ≤ n → runsOf s = some l → 3 * l.length + lens l = s.length := by
  intro n
  induction n with
  | zero =>
    intro s l hs h
    have : s = [] := List.eq_nil_of_length_eq_zero (by omega)
    subst this; rw [runsOf_nil] at h; cases h; simp [lens, sumOf]
  | succ n ih =>
    intro s l hs h
    by_cases q : s = []
    · subst q; rw [runsOf_nil] at h; cases h; simp [lens, sumOf]
    · cases hr : takeB s with
      | none => rw [runsOf_none q hr] at h; simp at h
      | some p =>
        obtain ⟨x, r⟩ := p
        rw [runsOf_some hr] at h
        cases hq : runsOf r with
        | none => rw [hq] at h; simp at h
        | some l' =>
          rw [hq] at h; simp at h; subst h
          have hl := takeB_len hr
          have := ih r l' (by omega) hq
          rw [lens_cons, List.length_cons]; omega
def szM (m : M) : Nat := m.ids.length + m.data.length + m.list.length + lens m.list
theorem putM_sz {m m' : M} {t : Nat} {x : Bts} (h : putM m t x = .ok m') : szM m' ≤ szM m + x.length := by
  unfold putM at h
  split at h
  · simp at h
  · split at h
    · split at h
      · simp at h
      · simp at h; subst h; unfold szM setNum; split <;> simp
    · split at h
      · split at h
        · simp at h
        · simp at h; subst h; simp [szM]
      · split at h
        · simp at h; subst h; simp only [szM]; omega
        · split at h
          · split at h
            · simp at h
            · rename_i hm
              simp at h; subst h
              obtain ⟨c1, _, _⟩ := chunk32_len (x.length / 32) x (by omega)
              simp only [szM, List.length_append, c1]; omega
          · split at h
            · simp at h
            · rename_i l hl
              simp at h; subst h
              have := runsOf_sum x.length x l (Nat.le_refl _) hl
              simp only [szM, List.length_append, lens_app]; omega
def sumF (l : List (Nat × Bts)) : Nat := sumOf (fun f => f.2.length) l
theorem putAll_sz : ∀ {l : List (Nat × Bts)} {m m' : M}, putAll m l = .ok m' → szM m' ≤ szM m + sumF l
  | [], m, m', h => by simp [putAll] at h; subst h; simp [sumF, sumOf]
  | (t, x) :: l, m, m', h => by
    simp only [putAll] at h
    split at h
    · simp at h
    · rename_i m1 h1
      have := putM_sz h1
      have := putAll_sz h
      simp only [sumF, sumOf] at this ⊢; omega
theorem items_sum : ∀ (n : Nat) (s : Bts) (last : Nat), s.length ≤ n → sumF (items last s).1 ≤ s.length := by
  intro n
  induction n with
  | zero =>
    intro s last hs
    have : s = [] := List.eq_nil_of_length_eq_zero (by omega)
    subst this; rw [items_nil]; simp [sumF, sumOf]
  | succ n ih =>
    intro s last hs
    match s with
    | [] => rw [items_nil]; simp [sumF, sumOf]
    | t :: r =>
      by_cases h : t.toNat ≤ last ∨ t.toNat > 9
      · rw [items_tag h]; simp [sumF, sumOf]
      · cases hr : takeB r with
        | none => rw [items_short h hr]; simp [sumF, sumOf]
        | some p =>
          obtain ⟨x, r'⟩ := p
          rw [items_more h hr]
          have hl := takeB_len hr
          simp only [List.length_cons] at hs ⊢
          have := ih r' t.toNat (by omega)
          simp only [sumF, sumOf] at this ⊢; omega
theorem restM_sz {m m' : M} {last : Nat} {s : Bts} (h : restM m last s = .ok m') : szM m' ≤ szM m + s.length := by
  unfold restM at h
  split at h
  · simp at h
  · rename_i m1 h1
    split at h
    · simp at h
    · simp at h; subst h
      have := putAll_sz h1
      have := items_sum s.length s last (Nat.le_refl _)
      omega
theorem len_le_lens : ∀ {l : List Bts} {b : Bts}, b ∈ l → b.length ≤ lens l
  | x :: l, b, h => by
    rw [lens_cons]
    rcases List.mem_cons.1 h with rfl | h
    · omega
    · have := len_le_lens h; omega
end Go.Sv


namespace Go.Sv.Try
open Go Go.Proofs
set_option linter.unusedVariables false
set_option linter.unusedSimpArgs false

theorem faR (b : Nat) : evFieldAddr Try.prog 138 (.ptr b 0) 0 = some (.ptr b 0) ∧ evFieldAddr Try.prog 138 (.ptr b 0) 1 = some (.ptr b 1) := ⟨by kernel_rfl, by kernel_rfl⟩
theorem ldR {A : AS} {b : Nat} {rv : V} {bad : Int} {k : BK} (h : A.blk[b]? = some ⟨[rv, .int .i64 bad], k⟩) : evLoad Try.prog 38 (.ptr b 0) A = some rv ∧ evLoad Try.prog 42 (.ptr b 1) A = some (.int .i64 bad) :=
  ⟨by rw [load_at ag38 h]; rfl, by rw [load_at ag42 h]; rfl⟩
/-- The error's number is set. -/
theorem setBad {A : AS} {b : Nat} {rv : V} {bad n : Int} (h : A.blk[b]? = some ⟨[rv, .int .i64 bad], .var⟩) : ∃ A', evStore Try.prog 42 (.ptr b 1) (.int .i64 n) A = some A' ∧ Fr (· = .row b) A A' ∧ A'.blk[b]? = some ⟨[rv, .int .i64 n], .var⟩ := by
  obtain ⟨A', h1, h2, h3, _⟩ := store_var (P := Try.prog) (t := 42) (o := 1) (x := .int .i64 n) h rfl sz42 (by simp) rfl
  exact ⟨A', h1, h2, h3⟩
theorem setRest {A : AS} {b : Nat} {rv w : V} {bad : Int} (h : A.blk[b]? = some ⟨[rv, .int .i64 bad], .var⟩) (hw : w.one = true) : ∃ A', evStore Try.prog 38 (.ptr b 0) w A = some A' ∧ Fr (· = .row b) A A' ∧ A'.blk[b]? = some ⟨[w, .int .i64 bad], .var⟩ := by
  obtain ⟨A', h1, h2, h3, _⟩ := store_var (P := Try.prog) (t := 38) (o := 0) (x := w) h (one_cells hw) sz38 (by simp) (by simp [hw])
  exact ⟨A', h1, h2, h3⟩
theorem cnv83 (u : UInt8) (A : AS) : cnv Try.prog 5 3 (some (.int .u8 (u.toNat : Int))) A = some (.val (.int .i64 (u.toNat : Int))) := by
  rw [cnv_int (by decide) Try.underlying5 Try.underlying3, i64u8]

/-- A byte of a slice. -/
theorem byte_at {m : Hp} {A : AS} {v : V} {l : Bts} (h : Slc eU8 m v l) (hm : m.on A) {i : Nat} {x : UInt8} (hx : l[i]? = some x) : ∃ b o, evIndexAddr Try.prog 38 v (.int .i64 (i : Int)) = some (.ptr b o) ∧ evLoad Try.prog 5 (.ptr b o) A = some (.int .u8 x.toNat) := by
  obtain ⟨b, o, w, h1, h2, h3⟩ := h.at (P := Try.prog) (k := .i64) hm Try.underlying38 sz5 ag5 hx
  rw [eU8_W] at h3
  subst h3
  exact ⟨b, o, h1, h2⟩

set_option maxRecDepth 10000 in
set_option maxHeartbeats 8000000 in
theorem rrun_spec {m : Hp} {A : AS} {br : Nat} {rv : V} {s : Bts} (hm : m.on A) (hb : m br = none) (hr : A.blk[br]? = some ⟨[rv, .int .i64 0], .var⟩) (h : Slc eU8 m rv s) (hs : s.length ≤ 9223372036854775807) :
    ∃ w A', EvF Try.prog HH 69 [.ptr br 0] A w A' ∧ Fr (· = .row br) A A' ∧ ((takeB s = none ∧ w = .snil ∧ A'.blk[br]? = some ⟨[rv, .int .i64 20], .var⟩) ∨
      ∃ x r rv', takeB s = some (x, r) ∧ Slc eU8 m w x ∧ A'.blk[br]? = some ⟨[rv', .int .i64 0], .var⟩ ∧ Slc eU8 m rv' r) := by
  refine run_fn2 rfl Try.func69 (by unfold Try.f69; rfl) Try.ntmps69 (by unfold Try.f69; rfl) (by simp) ?_
  have fa := faR br
  have ld := ldR hr
  have hlen := fun B => h.len (P := Try.prog) Try.underlying38 B
  obtain ⟨A1, s1, s2, s3⟩ := setBad (n := 20) hr
  have ld1 := ldR s3
  simp only [RS, xs_some, Option.bind_some, Option.map_some, if_true, if_false, decide_true, decide_false, true_and, and_true, Bool.not_true, Bool.not_false, Bool.false_eq_true, not_false_eq_true, not_true_eq_false, Nat.reduceLT, Nat.reduceBEq, Nat.reduceEqDiff, Nat.reduceAdd, Int.reduceEq, Int.reduceLT, Int.reduceLE, Int.reduceGT, Int.reduceGE, beq_self_eq_true, List.getElem?_toArray, List.getElem?_cons_zero, List.getElem?_cons_succ, List.append_nil, List.nil_append, List.cons_append, List.append_eq, fa, ld, hlen]
  refine condK_of (fun g => ?_) (fun g => ?_)
  · have ht : takeB s = none := by
      match s, g with
      | [], _ => rfl
      | [a], _ => rfl
      | [a, b], _ => rfl
      | a :: b :: c :: q, g => simp at g; omega
    simp only [RS, xs_some, Option.bind_some, Option.map_some, if_true, if_false, decide_true, decide_false, true_and, and_true, Bool.not_true, Bool.not_false, Bool.false_eq_true, not_false_eq_true, not_true_eq_false, Nat.reduceLT, Nat.reduceBEq, Nat.reduceEqDiff, Nat.reduceAdd, Int.reduceEq, Int.reduceLT, Int.reduceLE, Int.reduceGT, Int.reduceGE, beq_self_eq_true, List.getElem?_toArray, List.getElem?_cons_zero, List.getElem?_cons_succ, List.append_nil, List.nil_append, List.cons_append, List.append_eq, fa, s1, ld1]
    exact ⟨s2, .inl ⟨ht, s3⟩⟩
  · match s, g, h, hs with
    | [], g, _, _ => simp at g
    | [a], g, _, _ => simp at g
    | [a, b], g, _, _ => simp at g
    | a :: b :: c :: q, g, h, hs =>
      clear g
      have ha := a.toNat_lt; have hbb := b.toNat_lt; have hc := c.toNat_lt
      obtain ⟨b0, o0, x0, y0⟩ := byte_at h hm (i := 0) rfl
      obtain ⟨b1, o1, x1, y1⟩ := byte_at h hm (i := 1) rfl
      obtain ⟨b2, o2, x2, y2⟩ := byte_at h hm (i := 2) rfl
      have x0 : evIndexAddr Try.prog 38 rv (.int .i64 0) = some (.ptr b0 o0) := x0
      have x1 : evIndexAddr Try.prog 38 rv (.int .i64 1) = some (.ptr b1 o1) := x1
      have x2 : evIndexAddr Try.prog 38 rv (.int .i64 2) = some (.ptr b2 o2) := x2
      obtain ⟨n, hn⟩ : ∃ n, n = a.toNat * 65536 + b.toNat * 256 + c.toNat := ⟨_, rfl⟩
      have hnn : n < 16777216 := by omega
      have sh16 : evShift .shl .i64 (a.toNat : Int) 16 = some (.int .i64 ((a.toNat * 65536 : Nat) : Int)) := by
        rw [show (16 : Int) = ((16 : Nat) : Int) from rfl, shl_nat _ _ (by decide), wrapN (by omega)]
      have sh8 : evShift .shl .i64 (b.toNat : Int) 8 = some (.int .i64 ((b.toNat * 256 : Nat) : Int)) := by
        rw [show (8 : Int) = ((8 : Nat) : Int) from rfl, shl_nat _ _ (by decide), wrapN (by omega)]
      have or1 : evBits .or .i64 ((a.toNat * 65536 : Nat) : Int) ((b.toNat * 256 : Nat) : Int) = some (.int .i64 ((a.toNat * 65536 + b.toNat * 256 : Nat) : Int)) := by
        rw [or_nat (by omega) (by omega)]
        have := or_add (n := a.toNat) (i := 16) (b := b.toNat * 256) (by omega)
        rw [show a.toNat * 65536 = a.toNat * 2 ^ 16 from rfl, this]
      have or2 : evBits .or .i64 ((a.toNat * 65536 + b.toNat * 256 : Nat) : Int) (c.toNat : Int) = some (.int .i64 (n : Int)) := by
        rw [hn, or_nat (by omega) (by omega)]
        have := or_add (n := a.toNat * 256 + b.toNat) (i := 8) (b := c.toNat) (by omega)
        rw [show a.toNat * 65536 + b.toNat * 256 = (a.toNat * 256 + b.toNat) * 2 ^ 8 by omega, this]
      simp only [RS, xs_some, Option.bind_some, Option.map_some, if_true, if_false, decide_true, decide_false, true_and, and_true, Bool.not_true, Bool.not_false, Bool.false_eq_true, not_false_eq_true, not_true_eq_false, Nat.reduceLT, Nat.reduceBEq, Nat.reduceEqDiff, Nat.reduceAdd, Int.reduceEq, Int.reduceLT, Int.reduceLE, Int.reduceGT, Int.reduceGE, beq_self_eq_true, List.getElem?_toArray, List.getElem?_cons_zero, List.getElem?_cons_succ, List.append_nil, List.nil_append, List.cons_append, List.append_eq, fa, ld]
      rw [pl_69_5, run_plan_id (by rfl)]
      simp only [RS, xs_some, Option.bind_some, Option.map_some, if_true, if_false, decide_true, decide_false, true_and, and_true, Bool.not_true, Bool.not_false, Bool.false_eq_true, not_false_eq_true, not_true_eq_false, Nat.reduceLT, Nat.reduceBEq, Nat.reduceEqDiff, Nat.reduceAdd, Int.reduceEq, Int.reduceLT, Int.reduceLE, Int.reduceGT, Int.reduceGE, beq_self_eq_true, List.getElem?_toArray, List.getElem?_cons_zero, List.getElem?_cons_succ, List.append_nil, List.nil_append, List.cons_append, List.append_eq, fa, ld, x0, x1, x2, y0, y1, y2, cnv83, sh16, sh8, or1, or2, hlen]
      simp only [takeB, ← hn]
      have hw3 : IntKind.i64.wrap (((a :: b :: c :: q).length : Int) - 3) = (q.length : Int) := by
        rw [wrapI (by omega) (by simp only [List.length_cons] at hs ⊢; omega)]; simp only [List.length_cons]; omega
      rw [hw3]
      refine condK_of (fun g => ?_) (fun g => ?_)
      · simp only [RS, xs_some, Option.bind_some, Option.map_some, if_true, if_false, decide_true, decide_false, true_and, and_true, Bool.not_true, Bool.not_false, Bool.false_eq_true, not_false_eq_true, not_true_eq_false, Nat.reduceLT, Nat.reduceBEq, Nat.reduceEqDiff, Nat.reduceAdd, Int.reduceEq, Int.reduceLT, Int.reduceLE, Int.reduceGT, Int.reduceGE, beq_self_eq_true, List.getElem?_toArray, List.getElem?_cons_zero, List.getElem?_cons_succ, List.append_nil, List.nil_append, List.cons_append, List.append_eq, fa, s1]
        rw [if_pos (by omega)]
        simp only [true_and]
        exact ⟨s2, .inl s3⟩
      · have hw4 : IntKind.i64.wrap (3 + (n : Int)) = ((3 + n : Nat) : Int) := by rw [wrapI (by omega) (by omega)]; omega
        have hql : 3 + n ≤ (a :: b :: c :: q).length := by simp only [List.length_cons]; omega
        obtain ⟨w, u1, u2⟩ := h.sub (P := Try.prog) (t := 38) (lo := 3) (hi := 3 + n) (kl := .i64) (kh := .i64) Try.underlying38 sz5 (by omega) hql A
        have u1 : evSlice Try.prog 38 rv (some (.int .i64 3)) (some (.int .i64 ((3 + n : Nat) : Int))) none A = some w := u1
        obtain ⟨w2, v1, v2⟩ := h.subFrom (P := Try.prog) (t := 38) (lo := 3 + n) (kl := .i64) Try.underlying38 sz5 hql A
        obtain ⟨A2, t1, t2, t3⟩ := setRest hr v2.one
        simp only [RS, xs_some, Option.bind_some, Option.map_some, if_true, if_false, decide_true, decide_false, true_and, and_true, Bool.not_true, Bool.not_false, Bool.false_eq_true, not_false_eq_true, not_true_eq_false, Nat.reduceLT, Nat.reduceBEq, Nat.reduceEqDiff, Nat.reduceAdd, Int.reduceEq, Int.reduceLT, Int.reduceLE, Int.reduceGT, Int.reduceGE, beq_self_eq_true, List.getElem?_toArray, List.getElem?_cons_zero, List.getElem?_cons_succ, List.append_nil, List.nil_append, List.cons_append, List.append_eq, fa, ld, hw4, u1, v1, t1]
        rw [if_neg (by omega)]
        have e1 : ((a :: b :: c :: q).take (3 + n)).drop 3 = q.take n := by rw [show 3 + n = n + 3 by omega]; rfl
        have e2 : (a :: b :: c :: q).drop (3 + n) = q.drop n := by rw [show 3 + n = n + 3 by omega]; rfl
        rw [e1] at u2; rw [e2] at v2
        exact ⟨t2, .inr ⟨_, _, w2, rfl, u2, t3, v2⟩⟩

set_option maxRecDepth 10000 in
set_option maxHeartbeats 8000000 in
theorem rnumber_spec {m : Hp} {A : AS} {br : Nat} {rv xv : V} {s : Bts} (hm : m.on A) (hb : m br = none) (hr : A.blk[br]? = some ⟨[rv, .int .i64 0], .var⟩) (h : Slc eU8 m xv s) (hs : s.length ≤ 16777215) (hne : s ≠ []) :
    ∃ w A', EvF Try.prog HH 68 [.ptr br 0, xv] A w A' ∧ ((numOf s = none ∧ Fr (· = .row br) A A' ∧ A'.blk[br]? = some ⟨[rv, .int .i64 23], .var⟩ ∧ ∃ n : Int, w = .int .i64 n) ∨
      ∃ n : Nat, numOf s = some n ∧ w = .int .i64 n ∧ A' = A) := by
  refine run_fn2 rfl Try.func68 (by unfold Try.f68; rfl) Try.ntmps68 (by unfold Try.f68; rfl) (by simp) ?_
  have fa := faR br
  have hlen := fun B => h.len (P := Try.prog) Try.underlying38 B
  obtain ⟨A1, s1, s2, s3⟩ := setBad (n := 23) hr
  obtain ⟨z, hz⟩ := get_lt (l := s) (i := 0) (by have : s.length ≠ 0 := fun q => hne (List.eq_nil_of_length_eq_zero q); omega)
  obtain ⟨b0, o0, x0, y0⟩ := byte_at h hm hz
  have x0 : evIndexAddr Try.prog 38 xv (.int .i64 0) = some (.ptr b0 o0) := x0
  have hzt := z.toNat_lt
  simp only [RS, xs_some, Option.bind_some, Option.map_some, if_true, if_false, decide_true, decide_false, true_and, and_true, Bool.not_true, Bool.not_false, Bool.false_eq_true, not_false_eq_true, not_true_eq_false, Nat.reduceLT, Nat.reduceBEq, Nat.reduceEqDiff, Nat.reduceAdd, Int.reduceEq, Int.reduceLT, Int.reduceLE, Int.reduceGT, Int.reduceGE, beq_self_eq_true, List.getElem?_toArray, List.getElem?_cons_zero, List.getElem?_cons_succ, List.append_nil, List.nil_append, List.cons_append, List.append_eq, hlen]
  refine run_loop_j (fun k e B => B = A ∧ e.get 0 = .ptr br 0 ∧ e.get 1 = xv ∧ e.get 8 = xv ∧ e.get 9 = .int .i64 s.length ∧ ∃ i : Nat, k = s.length - i ∧ i ≤ s.length ∧ i ≤ 6 ∧ (i = 0 ∨ z ≠ 0) ∧ e.get 10 = .int .i64 i ∧ e.get 5 = .int .i64 (valOf (s.take i) : Nat))
    (fun x e B => B = A ∧ Is x (.exit 0) ∧ e.get 0 = .ptr br 0 ∧ e.get 1 = xv ∧ ∃ n : Nat, e.get 5 = .int .i64 n ∧ n < 281474976710656 ∧ (z ≠ 0 → s.length ≤ 6 → n = valOf s))
    ⟨_, rfl, rfl, rfl, rfl, rfl, 0, rfl, by simp, by simp, .inl rfl, rfl, by simp [valOf, Env.get]⟩ ?_ ?_
  · rintro k e B ⟨rfl, h0, h1, h8, h9, i, rfl, hi, hi6, hzi, h10, h5⟩
    have hv := valOf_lt (s.take i)
    have hv2 : valOf (s.take i) < 281474976710656 := Nat.lt_of_lt_of_le hv (by
      have : (256 : Nat) ^ (s.take i).length ≤ 256 ^ 6 := Nat.pow_le_pow_right (by decide) (by rw [List.length_take]; omega)
      omega)
    simp only [RS, xs_some, Option.bind_some, Option.map_some, if_true, if_false, decide_true, decide_false, true_and, and_true, Bool.not_true, Bool.not_false, Bool.false_eq_true, not_false_eq_true, not_true_eq_false, Nat.reduceLT, Nat.reduceBEq, Nat.reduceEqDiff, Nat.reduceAdd, Int.reduceEq, Int.reduceLT, Int.reduceLE, Int.reduceGT, Int.reduceGE, beq_self_eq_true, List.getElem?_toArray, List.getElem?_cons_zero, List.getElem?_cons_succ, List.append_nil, List.nil_append, List.cons_append, List.append_eq, h10, h9]
    refine condK_of (fun g => ?_) (fun g => ?_)
    · obtain ⟨x, hx⟩ := get_lt (l := s) (i := i) (by omega)
      obtain ⟨b1, o1, x1, y1⟩ := byte_at h hm hx
      have hxt := x.toNat_lt
      simp only [RS, xs_some, Option.bind_some, Option.map_some, if_true, if_false, decide_true, decide_false, true_and, and_true, Bool.not_true, Bool.not_false, Bool.false_eq_true, not_false_eq_true, not_true_eq_false, Nat.reduceLT, Nat.reduceBEq, Nat.reduceEqDiff, Nat.reduceAdd, Int.reduceEq, Int.reduceLT, Int.reduceLE, Int.reduceGT, Int.reduceGE, beq_self_eq_true, List.getElem?_toArray, List.getElem?_cons_zero, List.getElem?_cons_succ, List.append_nil, List.nil_append, List.cons_append, List.append_eq, h10, h8, x1, y1]
      refine contG_of (fun g1 => ?_) (fun g1 => ?_)
      · simp only [RS, xs_some, Option.bind_some, Option.map_some, if_true, if_false, decide_true, decide_false, true_and, and_true, Bool.not_true, Bool.not_false, Bool.false_eq_true, not_false_eq_true, not_true_eq_false, Nat.reduceLT, Nat.reduceBEq, Nat.reduceEqDiff, Nat.reduceAdd, Int.reduceEq, Int.reduceLT, Int.reduceLE, Int.reduceGT, Int.reduceGE, beq_self_eq_true, List.getElem?_toArray, List.getElem?_cons_zero, List.getElem?_cons_succ, List.append_nil, List.nil_append, List.cons_append, List.append_eq, g1, h0, h1]
        exact ⟨rfl, _, h5, hv2, fun _ _ => by omega⟩
      · simp only [RS, xs_some, Option.bind_some, Option.map_some, if_true, if_false, decide_true, decide_false, true_and, and_true, Bool.not_true, Bool.not_false, Bool.false_eq_true, not_false_eq_true, not_true_eq_false, Nat.reduceLT, Nat.reduceBEq, Nat.reduceEqDiff, Nat.reduceAdd, Int.reduceEq, Int.reduceLT, Int.reduceLE, Int.reduceGT, Int.reduceGE, beq_self_eq_true, List.getElem?_toArray, List.getElem?_cons_zero, List.getElem?_cons_succ, List.append_nil, List.nil_append, List.cons_append, List.append_eq, g1, h1, x0, y0]
        refine condK_of (fun g2 => ?_) (fun g2 => ?_)
        · simp only [RS, xs_some, Option.bind_some, Option.map_some, if_true, if_false, decide_true, decide_false, true_and, and_true, Bool.not_true, Bool.not_false, Bool.false_eq_true, not_false_eq_true, not_true_eq_false, Nat.reduceLT, Nat.reduceBEq, Nat.reduceEqDiff, Nat.reduceAdd, Int.reduceEq, Int.reduceLT, Int.reduceLE, Int.reduceGT, Int.reduceGE, beq_self_eq_true, List.getElem?_toArray, List.getElem?_cons_zero, List.getElem?_cons_succ, List.append_nil, List.nil_append, List.cons_append, List.append_eq, h0, h1]
          refine ⟨rfl, _, h5, hv2, fun q => ?_⟩
          exact absurd (UInt8.toNat_inj.1 (by simpa using g2)) q
        · have hz0 : z ≠ 0 := fun q => g2 (by rw [q]; rfl)
          have hv3 : valOf (s.take i) < 1099511627776 := Nat.lt_of_lt_of_le hv (by
            have : (256 : Nat) ^ (s.take i).length ≤ 256 ^ 5 := Nat.pow_le_pow_right (by decide) (by rw [List.length_take]; omega)
            omega)
          have sh8 : evShift .shl .i64 ((valOf (s.take i) : Nat) : Int) 8 = some (.int .i64 ((valOf (s.take i) * 256 : Nat) : Int)) := by
            rw [show (8 : Int) = ((8 : Nat) : Int) from rfl, shl_nat _ _ (by decide), wrapN (by omega)]
          have or1 : evBits .or .i64 ((valOf (s.take i) * 256 : Nat) : Int) (x.toNat : Int) = some (.int .i64 ((valOf (s.take (i + 1)) : Nat) : Int)) := by
            rw [or_nat (by omega) (by omega), valOf_succ hx]
            have := or_add (n := valOf (s.take i)) (i := 8) (b := x.toNat) (by omega)
            rw [show valOf (s.take i) * 256 = valOf (s.take i) * 2 ^ 8 from rfl, this]
          simp only [RS, xs_some, Option.bind_some, Option.map_some, if_true, if_false, decide_true, decide_false, true_and, and_true, Bool.not_true, Bool.not_false, Bool.false_eq_true, not_false_eq_true, not_true_eq_false, Nat.reduceLT, Nat.reduceBEq, Nat.reduceEqDiff, Nat.reduceAdd, Int.reduceEq, Int.reduceLT, Int.reduceLE, Int.reduceGT, Int.reduceGE, beq_self_eq_true, List.getElem?_toArray, List.getElem?_cons_zero, List.getElem?_cons_succ, List.append_nil, List.nil_append, List.cons_append, List.append_eq, h5, sh8, cnv83, or1, h10]
          exact ⟨s.length - (i + 1), by omega, h0, h1, h8, h9, i + 1, rfl, by omega, by omega, .inr hz0, by rw [wrapS (by omega)], rfl⟩
    · have : i = s.length := by omega
      subst this
      simp only [RS, xs_some, Option.bind_some, Option.map_some, if_true, if_false, decide_true, decide_false, true_and, and_true, Bool.not_true, Bool.not_false, Bool.false_eq_true, not_false_eq_true, not_true_eq_false, Nat.reduceLT, Nat.reduceBEq, Nat.reduceEqDiff, Nat.reduceAdd, Int.reduceEq, Int.reduceLT, Int.reduceLE, Int.reduceGT, Int.reduceGE, beq_self_eq_true, List.getElem?_toArray, List.getElem?_cons_zero, List.getElem?_cons_succ, List.append_nil, List.nil_append, List.cons_append, List.append_eq, h0, h1]
      exact ⟨rfl, _, h5, hv2, fun _ _ => by rw [List.take_length]⟩
  rintro x e B hx ⟨rfl, rfl, h0, h1, n, h5, hn, hval⟩
  have hl0 : ¬ ((s.length : Int) = 0) := by have : s.length ≠ 0 := fun q => hne (List.eq_nil_of_length_eq_zero q); omega
  simp only [RS, xs_some, Option.bind_some, Option.map_some, if_true, if_false, decide_true, decide_false, true_and, and_true, Bool.not_true, Bool.not_false, Bool.false_eq_true, not_false_eq_true, not_true_eq_false, Nat.reduceLT, Nat.reduceBEq, Nat.reduceEqDiff, Nat.reduceAdd, Int.reduceEq, Int.reduceLT, Int.reduceLE, Int.reduceGT, Int.reduceGE, beq_self_eq_true, List.getElem?_toArray, List.getElem?_cons_zero, List.getElem?_cons_succ, List.append_nil, List.nil_append, List.cons_append, List.append_eq, h1, hlen, hl0, x0, y0]
  have bad : numOf s = none → (numOf s = none ∧ Fr (· = .row br) B A1 ∧ A1.blk[br]? = some ⟨[rv, .int .i64 23], .var⟩ ∧ ∃ k : Int, V.int .i64 (n : Int) = .int .i64 k) := fun q => ⟨q, s2, s3, _, rfl⟩
  have z0 : s[0]? = some 0 ↔ z = 0 := by rw [hz]; simp
  refine contG_of (fun g1 => ?_) (fun g1 => ?_)
  · simp only [RS, xs_some, Option.bind_some, Option.map_some, if_true, if_false, decide_true, decide_false, true_and, and_true, Bool.not_true, Bool.not_false, Bool.false_eq_true, not_false_eq_true, not_true_eq_false, Nat.reduceLT, Nat.reduceBEq, Nat.reduceEqDiff, Nat.reduceAdd, Int.reduceEq, Int.reduceLT, Int.reduceLE, Int.reduceGT, Int.reduceGE, beq_self_eq_true, List.getElem?_toArray, List.getElem?_cons_zero, List.getElem?_cons_succ, List.append_nil, List.nil_append, List.cons_append, List.append_eq, g1, h0, h5, fa, s1]
    have : z = 0 := UInt8.toNat_inj.1 (by simpa using g1)
    exact .inl (bad (by unfold numOf; rw [if_pos (.inr (.inl (z0.2 this)))]))
  · have hz0 : z ≠ 0 := fun q => g1 (by rw [q]; rfl)
    simp only [RS, xs_some, Option.bind_some, Option.map_some, if_true, if_false, decide_true, decide_false, true_and, and_true, Bool.not_true, Bool.not_false, Bool.false_eq_true, not_false_eq_true, not_true_eq_false, Nat.reduceLT, Nat.reduceBEq, Nat.reduceEqDiff, Nat.reduceAdd, Int.reduceEq, Int.reduceLT, Int.reduceLE, Int.reduceGT, Int.reduceGE, beq_self_eq_true, List.getElem?_toArray, List.getElem?_cons_zero, List.getElem?_cons_succ, List.append_nil, List.nil_append, List.cons_append, List.append_eq, g1, h1, hlen]
    refine contG_of (fun g2 => ?_) (fun g2 => ?_)
    · simp only [RS, xs_some, Option.bind_some, Option.map_some, if_true, if_false, decide_true, decide_false, true_and, and_true, Bool.not_true, Bool.not_false, Bool.false_eq_true, not_false_eq_true, not_true_eq_false, Nat.reduceLT, Nat.reduceBEq, Nat.reduceEqDiff, Nat.reduceAdd, Int.reduceEq, Int.reduceLT, Int.reduceLE, Int.reduceGT, Int.reduceGE, beq_self_eq_true, List.getElem?_toArray, List.getElem?_cons_zero, List.getElem?_cons_succ, List.append_nil, List.nil_append, List.cons_append, List.append_eq, g2, h0, h5, fa, s1]
      exact .inl (bad (by unfold numOf; rw [if_pos (.inr (.inr (.inl (by omega))))]))
    · have hnv := hval hz0 (by omega)
      simp only [RS, xs_some, Option.bind_some, Option.map_some, if_true, if_false, decide_true, decide_false, true_and, and_true, Bool.not_true, Bool.not_false, Bool.false_eq_true, not_false_eq_true, not_true_eq_false, Nat.reduceLT, Nat.reduceBEq, Nat.reduceEqDiff, Nat.reduceAdd, Int.reduceEq, Int.reduceLT, Int.reduceLE, Int.reduceGT, Int.reduceGE, beq_self_eq_true, List.getElem?_toArray, List.getElem?_cons_zero, List.getElem?_cons_succ, List.append_nil, List.nil_append, List.cons_append, List.append_eq, g2, h5]
      refine condK_of (fun g3 => ?_) (fun g3 => ?_)
      · simp only [RS, xs_some, Option.bind_some, Option.map_some, if_true, if_false, decide_true, decide_false, true_and, and_true, Bool.not_true, Bool.not_false, Bool.false_eq_true, not_false_eq_true, not_true_eq_false, Nat.reduceLT, Nat.reduceBEq, Nat.reduceEqDiff, Nat.reduceAdd, Int.reduceEq, Int.reduceLT, Int.reduceLE, Int.reduceGT, Int.reduceGE, beq_self_eq_true, List.getElem?_toArray, List.getElem?_cons_zero, List.getElem?_cons_succ, List.append_nil, List.nil_append, List.cons_append, List.append_eq, h0, h5, fa, s1]
        exact .inl (bad (by unfold numOf; rw [if_pos (.inr (.inr (.inr (by omega))))]))
      · simp only [RS, xs_some, Option.bind_some, Option.map_some, if_true, if_false, decide_true, decide_false, true_and, and_true, Bool.not_true, Bool.not_false, Bool.false_eq_true, not_false_eq_true, not_true_eq_false, Nat.reduceLT, Nat.reduceBEq, Nat.reduceEqDiff, Nat.reduceAdd, Int.reduceEq, Int.reduceLT, Int.reduceLE, Int.reduceGT, Int.reduceGE, beq_self_eq_true, List.getElem?_toArray, List.getElem?_cons_zero, List.getElem?_cons_succ, List.append_nil, List.nil_append, List.cons_append, List.append_eq, h5]
        refine .inr ⟨n, ?_, rfl⟩
        unfold numOf
        rw [if_neg, hnv]
        rintro (q | q | q | q)
        · exact hne q
        · exact hz0 (z0.1 q)
        · omega
        · omega
end Go.Sv.Try


namespace Go.Sv.Try
open Go Go.Proofs
set_option linter.unusedVariables false
set_option linter.unusedSimpArgs false

/-- A field that is handed over. -/
def argI (m : Hp) (_ : AS) (args : List V) (f : Nat × Bts) : Prop := ∃ xv, args = [.int .u8 (f.1 : Int), xv] ∧ Slc eU8 m xv f.2 ∧ f.2.length ≤ 16777215 ∧ 1 ≤ f.1 ∧ f.1 ≤ 9
def rowR (br : Nat) (c : Int) (B : AS) : Prop := ∃ rv, B.blk[br]? = some ⟨[rv, .int .i64 c], .var⟩

theorem all_spec {A : AS} {br : Nat} : ∃ w A', EvF Try.prog HH 67 [.ptr br 0] A w A' ∧ w = .fn 89 [] [.ptr A.blk.length 0] ∧ Fr S0 A A' ∧ A'.blk[A.blk.length]? = some ⟨[.ptr br 0], .var⟩ := by
  refine run_fn2 rfl Try.func67 (by unfold Try.f67; rfl) Try.ntmps67 (by unfold Try.f67; rfl) (by simp) ?_
  simp only [RS, xs_some, Option.bind_some, Option.map_some, if_true, if_false, decide_true, decide_false, true_and, and_true, Bool.not_true, Bool.not_false, Bool.false_eq_true, not_false_eq_true, not_true_eq_false, Nat.reduceLT, Nat.reduceBEq, Nat.reduceEqDiff, Nat.reduceAdd, Int.reduceEq, Int.reduceLT, Int.reduceLE, Int.reduceGT, Int.reduceGE, beq_self_eq_true, List.getElem?_toArray, List.getElem?_cons_zero, List.getElem?_cons_succ, List.append_nil, List.nil_append, List.cons_append, List.append_eq]
  exact ⟨Fr.pushVar A _, push_row A _⟩

set_option maxRecDepth 10000 in
set_option maxHeartbeats 16000000 in
theorem all1_goes {m : Hp} {A : AS} {br bx : Nat} {rv : V} {s : Bts} {S : Loc → Prop} (hm : m.on A) (hS : ∀ b, S (.row b) → m b = none ∧ b ≠ bx) (hSr : S (.row br)) (hb : A.blk[bx]? = some ⟨[.ptr br 0], .var⟩) (hr : A.blk[br]? = some ⟨[rv, .int .i64 0], .var⟩)
    (h : Slc eU8 m rv s) (hs : s.length ≤ 9223372036854775807) : GoesG Try.prog HH 89 [] [.ptr bx 0] A S (· = .row br) (· = br) (rowR br 0) (rowR br (items 0 s).2) (argI m) (items 0 s).1 := by
  intro lo J D hJ hD hstep hJ0
  refine run_fn2 rfl Try.func89 (by unfold Try.f89; rfl) Try.ntmps89 (by unfold Try.f89; rfl) (by simp) ?_
  have fa := faR br
  have hmbr : m br = none := (hS br hSr).1
  have hld : ∀ {B}, Fr S A B → evLoad Try.prog 136 (.ptr bx 0) B = some (.ptr br 0) := fun q => load_one ag136 (q.row _ _ hb fun w => (hS _ w).2 rfl)
  have hmB : ∀ {B}, Fr S A B → m.on B := fun q => hm.fr q fun b w => (hS b w).1
  have inS : ∀ {B C : AS}, Fr (· = .row br) B C → Fr S B C := fun q => q.mono fun x w => by subst w; exact hSr
  simp only [RS, xs_some, Option.bind_some, Option.map_some, if_true, if_false, decide_true, decide_false, true_and, and_true, Bool.not_true, Bool.not_false, Bool.false_eq_true, not_false_eq_true, not_true_eq_false, Nat.reduceLT, Nat.reduceBEq, Nat.reduceEqDiff, Nat.reduceAdd, Int.reduceEq, Int.reduceLT, Int.reduceLE, Int.reduceGT, Int.reduceGE, beq_self_eq_true, List.getElem?_toArray, List.getElem?_cons_zero, List.getElem?_cons_succ, List.append_nil, List.nil_append, List.cons_append, List.append_eq]
  refine run_loop_j (fun n e B => Fr S A B ∧ e.get 0 = .yield lo ∧ e.get 1 = .ptr bx 0 ∧ ∃ (done : List (Nat × Bts)) (last : Nat) (rest : Bts) (rv' : V), n = rest.length ∧ e.get 3 = .int .u8 (last : Int) ∧ B.blk[br]? = some ⟨[rv', .int .i64 0], .var⟩ ∧ Slc eU8 m rv' rest ∧ rest.length ≤ 9223372036854775807 ∧
      J done.length B ∧ (items 0 s).1 = done ++ (items last rest).1 ∧ (items 0 s).2 = (items last rest).2)
    (fun z e B => Fr S A B ∧ (Is z (.exit 0) ∨ Is z .ret) ∧ ((J (items 0 s).1.length B ∧ rowR br (items 0 s).2 B) ∨ ∃ i, i < (items 0 s).1.length ∧ D i B))
    ⟨_, .refl S A, rfl, rfl, [], 0, s, rv, rfl, rfl, hr, h, hs, hJ0, rfl, rfl⟩ ?_ ?_
  rotate_left
  · rintro z e B hz ⟨hf, rfl | rfl, hd⟩
    · simp only [RS, xs_some, Option.bind_some, Option.map_some, if_true, if_false, decide_true, decide_false, true_and, and_true, Bool.not_true, Bool.not_false, Bool.false_eq_true, not_false_eq_true, not_true_eq_false, Nat.reduceLT, Nat.reduceBEq, Nat.reduceEqDiff, Nat.reduceAdd, Int.reduceEq, Int.reduceLT, Int.reduceLE, Int.reduceGT, Int.reduceGE, beq_self_eq_true, List.getElem?_toArray, List.getElem?_cons_zero, List.getElem?_cons_succ, List.append_nil, List.nil_append, List.cons_append, List.append_eq]
      exact ⟨hf, hd⟩
    · simp only [RS, xs_some, Option.bind_some, Option.map_some, if_true, if_false, decide_true, decide_false, true_and, and_true, Bool.not_true, Bool.not_false, Bool.false_eq_true, not_false_eq_true, not_true_eq_false, Nat.reduceLT, Nat.reduceBEq, Nat.reduceEqDiff, Nat.reduceAdd, Int.reduceEq, Int.reduceLT, Int.reduceLE, Int.reduceGT, Int.reduceGE, beq_self_eq_true, List.getElem?_toArray, List.getElem?_cons_zero, List.getElem?_cons_succ, List.append_nil, List.nil_append, List.cons_append, List.append_eq]
      exact ⟨hf, hd⟩
  rintro n e B ⟨hf, h0, h1, done, last, rest, rv', rfl, h3, row, hsl, hl, hj, e1, e2⟩
  have ld := ldR row
  have hlen := fun B => hsl.len (P := Try.prog) Try.underlying38 B
  simp only [RS, xs_some, Option.bind_some, Option.map_some, if_true, if_false, decide_true, decide_false, true_and, and_true, Bool.not_true, Bool.not_false, Bool.false_eq_true, not_false_eq_true, not_true_eq_false, Nat.reduceLT, Nat.reduceBEq, Nat.reduceEqDiff, Nat.reduceAdd, Int.reduceEq, Int.reduceLT, Int.reduceLE, Int.reduceGT, Int.reduceGE, beq_self_eq_true, List.getElem?_toArray, List.getElem?_cons_zero, List.getElem?_cons_succ, List.append_nil, List.nil_append, List.cons_append, List.append_eq, h1, hld hf, fa, ld, hlen]
  refine contG_of (fun g => ?_) (fun g => ?_)
  rotate_left
  · simp only [RS, xs_some, Option.bind_some, Option.map_some, if_true, if_false, decide_true, decide_false, true_and, and_true, Bool.not_true, Bool.not_false, Bool.false_eq_true, not_false_eq_true, not_true_eq_false, Nat.reduceLT, Nat.reduceBEq, Nat.reduceEqDiff, Nat.reduceAdd, Int.reduceEq, Int.reduceLT, Int.reduceLE, Int.reduceGT, Int.reduceGE, beq_self_eq_true, List.getElem?_toArray, List.getElem?_cons_zero, List.getElem?_cons_succ, List.append_nil, List.nil_append, List.cons_append, List.append_eq, g]
    have : rest = [] := List.eq_nil_of_length_eq_zero (by omega)
    subst this
    rw [items_nil] at e1 e2
    refine ⟨hf, .inl rfl, .inl ⟨?_, _, by rw [e2]; exact row⟩⟩
    rw [e1, List.append_nil]; exact hj
  match rest, hsl, hl, e1, e2, hlen, g with
  | [], _, _, _, _, _, g => simp at g
  | t :: r, hsl, hl, e1, e2, hlen, g =>
    obtain ⟨b0, o0, x0, y0⟩ := byte_at hsl (hmB hf) (i := 0) rfl
    have x0 : evIndexAddr Try.prog 38 rv' (.int .i64 0) = some (.ptr b0 o0) := x0
    obtain ⟨w1, u1, u2⟩ := hsl.subFrom (P := Try.prog) (t := 38) (lo := 1) (kl := .i64) Try.underlying38 sz5 (by simp) B
    have u1 : evSlice Try.prog 38 rv' (some (.int .i64 1)) none none B = some w1 := u1
    have u2 : Slc eU8 m w1 r := u2
    obtain ⟨B1, s1, s2, s3⟩ := setRest row u2.one
    have hf1 := hf.thn (inS s2)
    have ld1 := ldR s3
    simp only [RS, xs_some, Option.bind_some, Option.map_some, if_true, if_false, decide_true, decide_false, true_and, and_true, Bool.not_true, Bool.not_false, Bool.false_eq_true, not_false_eq_true, not_true_eq_false, Nat.reduceLT, Nat.reduceBEq, Nat.reduceEqDiff, Nat.reduceAdd, Int.reduceEq, Int.reduceLT, Int.reduceLE, Int.reduceGT, Int.reduceGE, beq_self_eq_true, List.getElem?_toArray, List.getElem?_cons_zero, List.getElem?_cons_succ, List.append_nil, List.nil_append, List.cons_append, List.append_eq, g, h1, hld hf, fa, ld, x0, y0]
    rw [pl_89_3, run_plan_id (by rfl)]
    simp only [RS, xs_some, Option.bind_some, Option.map_some, if_true, if_false, decide_true, decide_false, true_and, and_true, Bool.not_true, Bool.not_false, Bool.false_eq_true, not_false_eq_true, not_true_eq_false, Nat.reduceLT, Nat.reduceBEq, Nat.reduceEqDiff, Nat.reduceAdd, Int.reduceEq, Int.reduceLT, Int.reduceLE, Int.reduceGT, Int.reduceGE, beq_self_eq_true, List.getElem?_toArray, List.getElem?_cons_zero, List.getElem?_cons_succ, List.append_nil, List.nil_append, List.cons_append, List.append_eq, h1, hld hf, fa, ld, x0, y0, u1, s1, h3]
    obtain ⟨B2, t1, t2, t3⟩ := setBad (n := 21) s3
    have hbadtag : (t.toNat ≤ last ∨ t.toNat > 9) → (Fr S A B2 ∧ ((J (items 0 s).1.length B2 ∧ rowR br (items 0 s).2 B2) ∨ ∃ i, i < (items 0 s).1.length ∧ D i B2)) := fun q => by
      rw [items_tag q] at e1 e2
      refine ⟨hf1.thn (inS t2), .inl ⟨?_, _, by rw [e2]; exact t3⟩⟩
      rw [e1, List.append_nil]; exact hJ _ _ _ (hJ _ _ _ hj s2) t2
    refine contG_of (fun g1 => ?_) (fun g1 => ?_)
    · simp only [RS, xs_some, Option.bind_some, Option.map_some, if_true, if_false, decide_true, decide_false, true_and, and_true, Bool.not_true, Bool.not_false, Bool.false_eq_true, not_false_eq_true, not_true_eq_false, Nat.reduceLT, Nat.reduceBEq, Nat.reduceEqDiff, Nat.reduceAdd, Int.reduceEq, Int.reduceLT, Int.reduceLE, Int.reduceGT, Int.reduceGE, beq_self_eq_true, List.getElem?_toArray, List.getElem?_cons_zero, List.getElem?_cons_succ, List.append_nil, List.nil_append, List.cons_append, List.append_eq, g1, h1, hld hf1, fa, t1]
      obtain ⟨q1, q2⟩ := hbadtag (.inl (by omega))
      exact ⟨q1, .inr rfl, q2⟩
    · simp only [RS, xs_some, Option.bind_some, Option.map_some, if_true, if_false, decide_true, decide_false, true_and, and_true, Bool.not_true, Bool.not_false, Bool.false_eq_true, not_false_eq_true, not_true_eq_false, Nat.reduceLT, Nat.reduceBEq, Nat.reduceEqDiff, Nat.reduceAdd, Int.reduceEq, Int.reduceLT, Int.reduceLE, Int.reduceGT, Int.reduceGE, beq_self_eq_true, List.getElem?_toArray, List.getElem?_cons_zero, List.getElem?_cons_succ, List.append_nil, List.nil_append, List.cons_append, List.append_eq, g1]
      refine condK_of (fun g2 => ?_) (fun g2 => ?_)
      · simp only [RS, xs_some, Option.bind_some, Option.map_some, if_true, if_false, decide_true, decide_false, true_and, and_true, Bool.not_true, Bool.not_false, Bool.false_eq_true, not_false_eq_true, not_true_eq_false, Nat.reduceLT, Nat.reduceBEq, Nat.reduceEqDiff, Nat.reduceAdd, Int.reduceEq, Int.reduceLT, Int.reduceLE, Int.reduceGT, Int.reduceGE, beq_self_eq_true, List.getElem?_toArray, List.getElem?_cons_zero, List.getElem?_cons_succ, List.append_nil, List.nil_append, List.cons_append, List.append_eq, h1, hld hf1, fa, t1]
        obtain ⟨q1, q2⟩ := hbadtag (.inr (by omega))
        exact ⟨q1, .inr rfl, q2⟩
      have hgood : ¬ (t.toNat ≤ last ∨ t.toNat > 9) := by omega
      simp only [RS, xs_some, Option.bind_some, Option.map_some, if_true, if_false, decide_true, decide_false, true_and, and_true, Bool.not_true, Bool.not_false, Bool.false_eq_true, not_false_eq_true, not_true_eq_false, Nat.reduceLT, Nat.reduceBEq, Nat.reduceEqDiff, Nat.reduceAdd, Int.reduceEq, Int.reduceLT, Int.reduceLE, Int.reduceGT, Int.reduceGE, beq_self_eq_true, List.getElem?_toArray, List.getElem?_cons_zero, List.getElem?_cons_succ, List.append_nil, List.nil_append, List.cons_append, List.append_eq, h1, hld hf1]
      obtain ⟨w, B3, k1, k2, k3⟩ := rrun_spec (hmB hf1) hmbr s3 u2 (by simp only [List.length_cons] at hl; omega)
      refine run_call1 k1 ?_
      have hf3 := hf1.thn (inS k2)
      have hj3 := hJ _ _ _ (hJ _ _ _ hj s2) k2
      rcases k3 with ⟨k3, rfl, k4⟩ | ⟨x, r', rv3, k3, k4, k5, k6⟩
      · have ld3 := ldR k4
        simp only [RS, xs_some, Option.bind_some, Option.map_some, if_true, if_false, decide_true, decide_false, true_and, and_true, Bool.not_true, Bool.not_false, Bool.false_eq_true, not_false_eq_true, not_true_eq_false, Nat.reduceLT, Nat.reduceBEq, Nat.reduceEqDiff, Nat.reduceAdd, Int.reduceEq, Int.reduceLT, Int.reduceLE, Int.reduceGT, Int.reduceGE, beq_self_eq_true, List.getElem?_toArray, List.getElem?_cons_zero, List.getElem?_cons_succ, List.append_nil, List.nil_append, List.cons_append, List.append_eq, h1, hld hf3, fa, ld3]
        rw [items_short hgood k3] at e1 e2
        refine ⟨hf3, .inr rfl, .inl ⟨?_, _, by rw [e2]; exact k4⟩⟩
        rw [e1, List.append_nil]; exact hj3
      · have ld3 := ldR k5
        simp only [RS, xs_some, Option.bind_some, Option.map_some, if_true, if_false, decide_true, decide_false, true_and, and_true, Bool.not_true, Bool.not_false, Bool.false_eq_true, not_false_eq_true, not_true_eq_false, Nat.reduceLT, Nat.reduceBEq, Nat.reduceEqDiff, Nat.reduceAdd, Int.reduceEq, Int.reduceLT, Int.reduceLE, Int.reduceGT, Int.reduceGE, beq_self_eq_true, List.getElem?_toArray, List.getElem?_cons_zero, List.getElem?_cons_succ, List.append_nil, List.nil_append, List.cons_append, List.append_eq, h1, h0, hld hf3, fa, ld3]
        rw [items_more hgood k3] at e1 e2
        have hx := takeB_len k3
        have hat : (items 0 s).1[done.length]? = some (t.toNat, x) := by rw [e1]; simp
        obtain ⟨b, B4, y1, y2, y3, y4⟩ := hstep _ _ B3 _ hat hj3 hf3 ⟨_, k5⟩ ⟨w, rfl, k4, hx.2, by simp only []; omega, by simp only []; omega⟩
        refine ⟨_, B4, y1, ?_⟩
        simp only [RS, xs_some, Option.bind_some, Option.map_some, if_true, if_false, decide_true, decide_false, true_and, and_true, Bool.not_true, Bool.not_false, Bool.false_eq_true, not_false_eq_true, not_true_eq_false, Nat.reduceLT, Nat.reduceBEq, Nat.reduceEqDiff, Nat.reduceAdd, Int.reduceEq, Int.reduceLT, Int.reduceLE, Int.reduceGT, Int.reduceGE, beq_self_eq_true, List.getElem?_toArray, List.getElem?_cons_zero, List.getElem?_cons_succ, List.append_nil, List.nil_append, List.cons_append, List.append_eq]
        cases b with
        | true =>
          simp only [RS, xs_some, Option.bind_some, Option.map_some, if_true, if_false, decide_true, decide_false, true_and, and_true, Bool.not_true, Bool.not_false, Bool.false_eq_true, not_false_eq_true, not_true_eq_false, Nat.reduceLT, Nat.reduceBEq, Nat.reduceEqDiff, Nat.reduceAdd, Int.reduceEq, Int.reduceLT, Int.reduceLE, Int.reduceGT, Int.reduceGE, beq_self_eq_true, List.getElem?_toArray, List.getElem?_cons_zero, List.getElem?_cons_succ, List.append_nil, List.nil_append, List.cons_append, List.append_eq]
          obtain ⟨z1, z2⟩ := y3 rfl
          exact ⟨r'.length, by simp only [List.length_cons]; omega, hf3.thn y2, h0, h1, done ++ [(t.toNat, x)], t.toNat, r', rv3, rfl, rfl, by rw [z2 br rfl]; exact k5, k6, by simp only [List.length_cons] at hl; omega, by simpa using z1, by rw [e1]; simp, e2⟩
        | false =>
          simp only [RS, xs_some, Option.bind_some, Option.map_some, if_true, if_false, decide_true, decide_false, true_and, and_true, Bool.not_true, Bool.not_false, Bool.false_eq_true, not_false_eq_true, not_true_eq_false, Nat.reduceLT, Nat.reduceBEq, Nat.reduceEqDiff, Nat.reduceAdd, Int.reduceEq, Int.reduceLT, Int.reduceLE, Int.reduceGT, Int.reduceGE, beq_self_eq_true, List.getElem?_toArray, List.getElem?_cons_zero, List.getElem?_cons_succ, List.append_nil, List.nil_append, List.cons_append, List.append_eq]
          exact ⟨hf3.thn y2, .inr rfl, .inr ⟨_, (List.getElem?_eq_some_iff.1 hat).1, y4 rfl⟩⟩
end Go.Sv.Try


namespace Go.Sv.Try
open Go Go.Proofs
set_option linter.unusedVariables false
set_option linter.unusedSimpArgs false

abbrev mcZ : List V := mc (msg0 0) .snil .snil .snil
theorem zcM : (zeroT Try.prog 41).bind V.cells = some mcZ := by kernel_rfl
theorem bldM0 : evBuild Try.prog 41 [] = some (.agg mcZ) := by kernel_rfl
theorem bldMk (k : Int) : evBuild Try.prog 41 [(0, .int .i64 k)] = some (.agg (mc (msg0 k) .snil .snil .snil)) := by kernel_rfl
theorem bldR_nil : evBuild Try.prog 138 [(0, .snil)] = some (.agg [.snil, .int .i64 0]) := by kernel_rfl
theorem bldR_sl (b o n z : Nat) : evBuild Try.prog 138 [(0, .sl b o n z)] = some (.agg [.sl b o n z, .int .i64 0]) := by kernel_rfl
theorem bldR {v : V} (h : v = .snil ∨ ∃ b o n z, v = .sl b o n z) : evBuild Try.prog 138 [(0, v)] = some (.agg [v, .int .i64 0]) := by
  rcases h with rfl | ⟨b, o, n, z, rfl⟩
  · exact bldR_nil
  · exact bldR_sl b o n z
abbrev ptrs (b : Nat) : List V := [.ptr b 1, .ptr b 2, .ptr b 3, .ptr b 4, .ptr b 5]
theorem bldPt (b : Nat) : evBuild Try.prog 139 [(0, .ptr b 1), (1, .ptr b 2), (2, .ptr b 3), (3, .ptr b 4), (4, .ptr b 5)] = some (.agg (ptrs b)) := by kernel_rfl
theorem bsl0 : bsl Try.prog 38 0 (some []) = some (.newSl [] 0 1) := by kernel_rfl
theorem bslV_nil : bsl Try.prog 33 1 (some [(0, .snil)]) = some (.newSl [.snil] 1 1) := by kernel_rfl
theorem bslV_sl (b o n z : Nat) : bsl Try.prog 33 1 (some [(0, .sl b o n z)]) = some (.newSl [.sl b o n z] 1 1) := by kernel_rfl
theorem bslV {v : V} (h : v = .snil ∨ ∃ b o n z, v = .sl b o n z) : bsl Try.prog 33 1 (some [(0, v)]) = some (.newSl [v] 1 1) := by
  rcases h with rfl | ⟨b, o, n, z, rfl⟩
  · exact bslV_nil
  · exact bslV_sl b o n z
theorem bslI {y : Bts} (h : y.length = 32) : bsl Try.prog 39 1 (some [(0, .agg (bc y))]) = some (.newSl (bc y) 1 32) :=
  bsl_one Try.underlying39 sz37 zcI rfl (by rw [bc_len, h]) (by decide)
theorem msgIn0 {m : Hp} {k : Int} : MsgIn m (msg0 k) .snil .snil .snil := ⟨rfl, .inl ⟨rfl, rfl⟩, .inl ⟨rfl, rfl⟩, .inl ⟨rfl, rfl⟩⟩

/-! Cells of a message that are set. -/
theorem mc_num {x : M} {dv iv lv : V} {t : Nat} (h1 : 1 ≤ t) (h2 : t < 6) (n : Int) : putAt (mc x dv iv lv) t [.int .i64 n] = mc (setNum x t n) dv iv lv := by
  match t, h1, h2 with
  | 1, _, _ => rfl
  | 2, _, _ => rfl
  | 3, _, _ => rfl
  | 4, _, _ => rfl
  | 5, _, _ => rfl
theorem mc_id {x : M} {dv iv lv : V} {y : Bts} (hx : x.id.length = 32) (hy : y.length = 32) : putAt (mc x dv iv lv) 6 (bc y) = mc { x with id := y } dv iv lv := by
  unfold putAt mc
  rw [bc_len, hy]
  show _ ++ _ ++ List.drop 32 (bc x.id ++ [dv, iv, lv]) = _
  rw [List.drop_left' (by rw [bc_len, hx])]
  simp
theorem mc_tail {x : M} {dv iv lv : V} (hx : x.id.length = 32) (j : Nat) (hj : j < 3) (w : V) : putAt (mc x dv iv lv) (38 + j) [w] = (.int .i64 x.kind :: .int .i64 x.who :: .int .i64 x.height :: .int .i64 x.round :: .int .i64 x.valid :: .int .i64 x.num :: (bc x.id ++ putAt [dv, iv, lv] j [w])) := by
  have e : (bc x.id).length = 32 := by rw [bc_len, hx]
  unfold putAt mc
  rw [show 38 + j = (32 + j) + 6 by omega]
  simp only [List.length_singleton]
  rw [show 32 + j + 6 + 1 = (32 + (j + 1)) + 6 by omega]
  simp only [List.take_succ_cons, List.drop_succ_cons, List.cons_append]
  rw [List.take_append, List.drop_append, e, List.take_of_length_le (by rw [e]; omega), List.drop_eq_nil_of_le (by rw [e]; omega), show 32 + j - 32 = j by omega, show 32 + (j + 1) - 32 = j + 1 by omega]
  simp
theorem mc_data {x : M} {dv iv lv w : V} (hx : x.id.length = 32) (y : Bts) : putAt (mc x dv iv lv) 38 [w] = mc { x with data := y } w iv lv := by rw [mc_tail hx 0 (by decide)]; rfl
theorem mc_ids {x : M} {dv iv lv w : V} (hx : x.id.length = 32) (y : List Bts) : putAt (mc x dv iv lv) 39 [w] = mc { x with ids := y } dv w lv := by rw [mc_tail hx 1 (by decide)]; rfl
theorem mc_list {x : M} {dv iv lv w : V} (hx : x.id.length = 32) (y : List Bts) : putAt (mc x dv iv lv) 40 [w] = mc { x with list := y } dv iv w := by rw [mc_tail hx 2 (by decide)]; rfl
theorem setNum_id (x : M) (t : Nat) (n : Int) : (setNum x t n).id = x.id ∧ (setNum x t n).data = x.data ∧ (setNum x t n).ids = x.ids ∧ (setNum x t n).list = x.list := by
  unfold setNum; split <;> exact ⟨rfl, rfl, rfl, rfl⟩

/-- Sums, one behind another. -/
def cellsAllB (l : List Bts) : List V := l.flatMap bc
theorem cellsAllB_at {l : List Bts} (h : ∀ b ∈ l, b.length = 32) : ∀ (i : Nat) x, l[i]? = some x → ((cellsAllB l).drop (i * 32)).take 32 = bc x := by
  induction l with
  | nil => intro i x q; simp at q
  | cons y l ih =>
    intro i x q
    have hy : (bc y).length = 32 := by rw [bc_len]; exact h y (by simp)
    unfold cellsAllB
    rw [List.flatMap_cons]
    cases i with
    | zero => simp at q; subst q; rw [Nat.zero_mul, List.drop_zero, List.take_left' hy]
    | succ i =>
      have := ih (fun b hb => h b (by simp [hb])) i x (by simpa using q)
      rw [show (i + 1) * 32 = (bc y).length + i * 32 by rw [hy]; omega, List.drop_append, List.drop_eq_nil_of_le (by omega), List.nil_append, show (bc y).length + i * 32 - (bc y).length = i * 32 by omega]
      exact this

/-- A store into a message. -/
theorem setM {A : AS} {b o : Nat} {x : M} {dv iv lv : V} {t : TypeId} {w : V} {cs : List V} (h : A.blk[b]? = some ⟨mc x dv iv lv, .var⟩) (hx : x.id.length = 32) (hw : w.cells = some cs) (hs : szT Try.prog t = some cs.length) (ho : o + cs.length ≤ 41) (h1 : cs.all V.one = true) :
    ∃ A', evStore Try.prog t (.ptr b o) w A = some A' ∧ Fr (· = .row b) A A' ∧ A'.blk[b]? = some ⟨putAt (mc x dv iv lv) o cs, .var⟩ := by
  obtain ⟨A', h1, h2, h3, _⟩ := store_var (P := Try.prog) (t := t) (o := o) (x := w) h hw hs (by rw [mc_len hx]; exact ho) h1
  exact ⟨A', h1, h2, h3⟩

/-- The first 32 bytes of a slice as an array. -/
theorem s2ap_load {m : Hp} {A : AS} {v : V} {l : Bts} (h : Slc eU8 m v l) (hm : m.on A) (hl : l.length = 32) : ∃ b o, evS2ap Try.prog 37 v = some (.ptr b o) ∧ evLoad Try.prog 37 (.ptr b o) A = some (.agg (bc l)) := by
  rcases h.bytes with ⟨rfl, rfl⟩ | ⟨b, o, cs, rfl, h2, h3, h4⟩
  · simp at hl
  · refine ⟨b, o, ?_, ?_⟩
    · rw [hl]
      unfold evS2ap
      simp only [Try.underlying37]
      rfl
    · rw [load_agg ag37 sz37, hm.range h2 (by omega)]
      rw [hl] at h4
      rw [h4]; rfl

/-- What stays while fields are read. -/
structure CB (N b2 b5 b6 br bm : Nat) (m : Hp) (B : AS) : Prop where
  r2 : B.blk[b2]? = some ⟨mcZ, .var⟩
  r5 : B.blk[b5]? = some ⟨[.ptr br 0], .var⟩
  r6 : B.blk[b6]? = some ⟨ptrs bm, .var⟩
  on : m.on B
  wf : WF B
  len : N ≤ B.blk.length
theorem CB.fr {N b2 b5 b6 br bm : Nat} {m : Hp} {S : Loc → Prop} {B C : AS} (h : CB N b2 b5 b6 br bm m B) (hf : Fr S B C) (h1 : ∀ b, S (.row b) → b ≠ b2 ∧ b ≠ b5 ∧ b ≠ b6 ∧ m b = none) : CB N b2 b5 b6 br bm m C :=
  ⟨hf.row _ _ h.r2 fun q => (h1 _ q).1 rfl, hf.row _ _ h.r5 fun q => (h1 _ q).2.1 rfl, hf.row _ _ h.r6 fun q => (h1 _ q).2.2.1 rfl, h.on.fr hf fun b q => (h1 b q).2.2.2, hf.wf h.wf, by have := hf.len; have := h.len; omega⟩

/-- How far reading has come. -/
def RdJ (N bm br : Nat) (k : Int) (xs : List (Nat × Bts)) (i : Nat) (B : AS) : Prop := ∃ (M : Go.Sv.M) (dv iv lv : V), B.blk[bm]? = some ⟨mc M dv iv lv, .var⟩ ∧ (∃ cs, B.blk[br]? = some ⟨cs, .var⟩) ∧ putAll (msg0 k) (xs.take i) = .ok M ∧ MsgIn (arrHq N B) M dv iv lv ∧
  ∀ f, xs[i]? = some f → (f.1 ≤ 8 → iv = .snil ∧ M.ids = []) ∧ lv = .snil ∧ M.list = []
/-- What reading has come to. -/
def RdE (N bm br : Nat) (k : Int) (s : Bts) (B : AS) : Prop := (∃ rv c, c ≠ 0 ∧ B.blk[br]? = some ⟨[rv, .int .i64 c], .var⟩ ∧ restM (msg0 k) 0 s = .error c ∧ ∃ (M : Go.Sv.M) (dv iv lv : V), B.blk[bm]? = some ⟨mc M dv iv lv, .var⟩ ∧ M.id.length = 32) ∨
  ∃ (rv : V) (M : Go.Sv.M) (dv iv lv : V), B.blk[br]? = some ⟨[rv, .int .i64 0], .var⟩ ∧ restM (msg0 k) 0 s = .ok M ∧ B.blk[bm]? = some ⟨mc M dv iv lv, .var⟩ ∧ MsgIn (arrHq N B) M dv iv lv
theorem RdJ.fr {N bm br : Nat} {k : Int} {xs : List (Nat × Bts)} {i : Nat} {S : Loc → Prop} {B C : AS} (h : RdJ N bm br k xs i B) (hf : Fr S B C) (h1 : ∀ b, S (.row b) → b = br) (hne : bm ≠ br) : RdJ N bm br k xs i C := by
  obtain ⟨M, dv, iv, lv, q1, ⟨cs, q2⟩, q3, q4, q5⟩ := h
  obtain ⟨cs', z1, _⟩ := hf.kind br _ q2
  exact ⟨M, dv, iv, lv, hf.row _ _ q1 fun z => hne (h1 _ z), ⟨cs', z1⟩, q3, q4.mono (arrHq_le hf fun b z => by rw [h1 b z]; exact arrHq_var q2), q5⟩
theorem RdE.fr {N bm br : Nat} {k : Int} {s : Bts} {S : Loc → Prop} {B C : AS} (h : RdE N bm br k s B) (hf : Fr S B C) (h1 : ∀ b, ¬ S (.row b)) : RdE N bm br k s C := by
  rcases h with ⟨rv, c, q1, q2, q3, M, dv, iv, lv, q4, q5⟩ | ⟨rv, M, dv, iv, lv, q1, q2, q3, q4⟩
  · exact .inl ⟨rv, c, q1, hf.row _ _ q2 (h1 _), q3, M, dv, iv, lv, hf.row _ _ q4 (h1 _), q5⟩
  · exact .inr ⟨rv, M, dv, iv, lv, hf.row _ _ q1 (h1 _), q2, hf.row _ _ q3 (h1 _), q4.mono (arrHq_le hf fun b z => absurd z (h1 b))⟩
/-- A field that was put in. -/
theorem RdJ.step {N bm br : Nat} {k : Int} {s : Bts} {i : Nat} {f : Nat × Bts} {C : AS} {M M' : Go.Sv.M} {iv lv dv' iv' lv' : V} (hi : (items 0 s).1[i]? = some f) (h3 : putAll (msg0 k) ((items 0 s).1.take i) = .ok M)
    (h5 : (f.1 ≤ 8 → iv = .snil ∧ M.ids = []) ∧ lv = .snil ∧ M.list = []) (hp : putM M f.1 f.2 = .ok M') (hc : C.blk[bm]? = some ⟨mc M' dv' iv' lv', .var⟩) (hbr : ∃ cs, C.blk[br]? = some ⟨cs, .var⟩) (hM : MsgIn (arrHq N C) M' dv' iv' lv')
    (hiv : f.1 < 8 → iv' = iv ∧ M'.ids = M.ids) (hlv : f.1 < 9 → lv' = lv ∧ M'.list = M.list) : RdJ N bm br k (items 0 s).1 (i + 1) C := by
  refine ⟨M', dv', iv', lv', hc, hbr, putAll_snoc h3 hi hp, hM, fun g hg => ?_⟩
  have h1 := items_rise s.length s 0 i f g (Nat.le_refl _) hi hg
  have h2 := items_gt s.length s 0 (Nat.le_refl _) g (List.mem_of_getElem? hg)
  refine ⟨fun q => ?_, ?_⟩
  · obtain ⟨z1, z2⟩ := hiv (by omega)
    obtain ⟨z3, z4⟩ := h5.1 (by omega)
    exact ⟨z1.trans z3, z2.trans z4⟩
  · obtain ⟨z1, z2⟩ := hlv (by omega)
    exact ⟨z1.trans h5.2.1, z2.trans h5.2.2⟩
end Go.Sv.Try


namespace Go.Sv.Try
open Go Go.Proofs
set_option linter.unusedVariables false
set_option linter.unusedSimpArgs false

/-- What reading hands back. -/
def RdOutN (N : Nat) (b : Bts) (w : V) (B : AS) : Prop := ∃ dv iv lv, w = .tup [.agg (mc (readMsg b) dv iv lv), .int .i64 (readErr b)] ∧ MsgIn (arrHq N B) (readMsg b) dv iv lv
def RdOut (b : Bts) (w : V) (B : AS) : Prop := ∃ dv iv lv, w = .tup [.agg (mc (readMsg b) dv iv lv), .int .i64 (readErr b)] ∧ MsgIn (arrHp B) (readMsg b) dv iv lv

theorem rdOut_bad {b : Bts} {e : Int} {B : AS} (h : readM b = .error e) : RdOut b (.tup [.agg mcZ, .int .i64 e]) B := by
  refine ⟨.snil, .snil, .snil, ?_, ?_⟩
  · unfold readMsg readErr; rw [h]
  · unfold readMsg; rw [h]; exact msgIn0
theorem rdOut_ok {b : Bts} {x : M} {dv iv lv : V} {B : AS} (h : readM b = .ok x) (hm : MsgIn (arrHp B) x dv iv lv) : RdOut b (.tup [.agg (mc x dv iv lv), .int .i64 0]) B := by
  refine ⟨dv, iv, lv, ?_, ?_⟩
  · unfold readMsg readErr; rw [h]
  · unfold readMsg; rw [h]; exact hm

theorem rdOutN_bad {N : Nat} {b : Bts} {e : Int} {B : AS} (h : readM b = .error e) : RdOutN N b (.tup [.agg mcZ, .int .i64 e]) B := by
  refine ⟨.snil, .snil, .snil, ?_, ?_⟩
  · unfold readMsg readErr; rw [h]
  · unfold readMsg; rw [h]; exact msgIn0
theorem rdOutN_ok {N : Nat} {b : Bts} {x : M} {dv iv lv : V} {B : AS} (h : readM b = .ok x) (hm : MsgIn (arrHq N B) x dv iv lv) : RdOutN N b (.tup [.agg (mc x dv iv lv), .int .i64 0]) B := by
  refine ⟨dv, iv, lv, ?_, ?_⟩
  · unfold readMsg readErr; rw [h]
  · unfold readMsg; rw [h]; exact hm

set_option maxRecDepth 10000 in
set_option maxHeartbeats 32000000 in
theorem read_specN {m : Hp} {A : AS} {v : V} {b : Bts} (hw : WF A) (hm : m.on A) (h : Slc eU8 m v b) (hb : b.length ≤ 1000000000000) :
    ∃ w A', EvF Try.prog HH 30 [v] A w A' ∧ Fr S0 A A' ∧ RdOutN A.blk.length b w A' := by
  refine run_fn2 rfl Try.func30 (by unfold Try.f30; rfl) Try.ntmps30 (by unfold Try.f30; rfl) (by simp) ?_
  have hlen := fun B => h.len (P := Try.prog) Try.underlying38 B
  simp only [RS, xs_some, Option.bind_some, Option.map_some, if_true, if_false, decide_true, decide_false, true_and, and_true, Bool.not_true, Bool.not_false, Bool.false_eq_true, not_false_eq_true, not_true_eq_false, Nat.reduceLT, Nat.reduceBEq, Nat.reduceEqDiff, Nat.reduceAdd, Int.reduceEq, Int.reduceLT, Int.reduceLE, Int.reduceGT, Int.reduceGE, beq_self_eq_true, List.getElem?_toArray, List.getElem?_cons_zero, List.getElem?_cons_succ, List.append_nil, List.nil_append, List.cons_append, List.append_eq, zcM]
  obtain ⟨A1, e1, f1, r1, n1⟩ := new_var A mcZ
  rw [← e1]
  have zid : (msg0 0).id.length = 32 := rfl
  obtain ⟨A2, s1, s2, s3⟩ := setM (o := 0) (t := 41) (w := .agg mcZ) (cs := mcZ) r1 zid rfl sz41 (by decide) rfl
  rw [putAt_all rfl] at s3
  have f2 : Fr S0 A A2 := f1.row_ s2 (Nat.le_refl _)
  have ld2 := (ldM s3 zid).2.2.2.2.2.2.2.2.2.2
  simp only [RS, xs_some, Option.bind_some, Option.map_some, if_true, if_false, decide_true, decide_false, true_and, and_true, Bool.not_true, Bool.not_false, Bool.false_eq_true, not_false_eq_true, not_true_eq_false, Nat.reduceLT, Nat.reduceBEq, Nat.reduceEqDiff, Nat.reduceAdd, Int.reduceEq, Int.reduceLT, Int.reduceLE, Int.reduceGT, Int.reduceGE, beq_self_eq_true, List.getElem?_toArray, List.getElem?_cons_zero, List.getElem?_cons_succ, List.append_nil, List.nil_append, List.cons_append, List.append_eq, hlen]
  refine condK_of (fun g => ?_) (fun g => ?_)
  · simp only [RS, xs_some, Option.bind_some, Option.map_some, if_true, if_false, decide_true, decide_false, true_and, and_true, Bool.not_true, Bool.not_false, Bool.false_eq_true, not_false_eq_true, not_true_eq_false, Nat.reduceLT, Nat.reduceBEq, Nat.reduceEqDiff, Nat.reduceAdd, Int.reduceEq, Int.reduceLT, Int.reduceLE, Int.reduceGT, Int.reduceGE, beq_self_eq_true, List.getElem?_toArray, List.getElem?_cons_zero, List.getElem?_cons_succ, List.append_nil, List.nil_append, List.cons_append, List.append_eq, bldM0, s1, ld2]
    have : b = [] := List.eq_nil_of_length_eq_zero (by omega)
    subst this
    exact ⟨f2, rdOutN_bad rfl⟩
  match b, h, hb, hlen, g with
  | [], _, _, _, g => simp at g
  | kk :: s, h, hb, hlen, _ =>
    simp only [List.length_cons] at hb
    have hk := kk.toNat_lt
    obtain ⟨b0, o0, x0, y0⟩ := byte_at h (hm.fr0 f1) (i := 0) rfl
    have x0 : evIndexAddr Try.prog 38 v (.int .i64 0) = some (.ptr b0 o0) := x0
    simp only [RS, xs_some, Option.bind_some, Option.map_some, if_true, if_false, decide_true, decide_false, true_and, and_true, Bool.not_true, Bool.not_false, Bool.false_eq_true, not_false_eq_true, not_true_eq_false, Nat.reduceLT, Nat.reduceBEq, Nat.reduceEqDiff, Nat.reduceAdd, Int.reduceEq, Int.reduceLT, Int.reduceLE, Int.reduceGT, Int.reduceGE, beq_self_eq_true, List.getElem?_toArray, List.getElem?_cons_zero, List.getElem?_cons_succ, List.append_nil, List.nil_append, List.cons_append, List.append_eq, x0, y0]
    refine contG_of (fun g1 => ?_) (fun g1 => ?_)
    · simp only [RS, xs_some, Option.bind_some, Option.map_some, if_true, if_false, decide_true, decide_false, true_and, and_true, Bool.not_true, Bool.not_false, Bool.false_eq_true, not_false_eq_true, not_true_eq_false, Nat.reduceLT, Nat.reduceBEq, Nat.reduceEqDiff, Nat.reduceAdd, Int.reduceEq, Int.reduceLT, Int.reduceLE, Int.reduceGT, Int.reduceGE, beq_self_eq_true, List.getElem?_toArray, List.getElem?_cons_zero, List.getElem?_cons_succ, List.append_nil, List.nil_append, List.cons_append, List.append_eq, g1, bldM0, s1, ld2]
      exact ⟨f2, rdOutN_bad (by unfold readM; simp only []; rw [if_pos (.inl (by omega))])⟩
    simp only [RS, xs_some, Option.bind_some, Option.map_some, if_true, if_false, decide_true, decide_false, true_and, and_true, Bool.not_true, Bool.not_false, Bool.false_eq_true, not_false_eq_true, not_true_eq_false, Nat.reduceLT, Nat.reduceBEq, Nat.reduceEqDiff, Nat.reduceAdd, Int.reduceEq, Int.reduceLT, Int.reduceLE, Int.reduceGT, Int.reduceGE, beq_self_eq_true, List.getElem?_toArray, List.getElem?_cons_zero, List.getElem?_cons_succ, List.append_nil, List.nil_append, List.cons_append, List.append_eq, g1, x0, y0]
    refine condK_of (fun g2 => ?_) (fun g2 => ?_)
    · simp only [RS, xs_some, Option.bind_some, Option.map_some, if_true, if_false, decide_true, decide_false, true_and, and_true, Bool.not_true, Bool.not_false, Bool.false_eq_true, not_false_eq_true, not_true_eq_false, Nat.reduceLT, Nat.reduceBEq, Nat.reduceEqDiff, Nat.reduceAdd, Int.reduceEq, Int.reduceLT, Int.reduceLE, Int.reduceGT, Int.reduceGE, beq_self_eq_true, List.getElem?_toArray, List.getElem?_cons_zero, List.getElem?_cons_succ, List.append_nil, List.nil_append, List.cons_append, List.append_eq, bldM0, s1, ld2]
      exact ⟨f2, rdOutN_bad (by unfold readM; simp only []; rw [if_pos (.inr (by omega))])⟩
    have hread : readM (kk :: s) = match restM (msg0 kk.toNat) 0 s with | .error e => .error e | .ok m => if checkM m ≠ 0 then .error (checkM m) else .ok m := by
      conv => lhs; unfold readM
      simp only []
      rw [if_neg (by omega)]
      try (cases restM (msg0 kk.toNat) 0 s <;> rfl)
    clear s1 s2 s3 f2 ld2 g1 g2 A2
    -- the message
    simp only [RS, xs_some, Option.bind_some, Option.map_some, if_true, if_false, decide_true, decide_false, true_and, and_true, Bool.not_true, Bool.not_false, Bool.false_eq_true, not_false_eq_true, not_true_eq_false, Nat.reduceLT, Nat.reduceBEq, Nat.reduceEqDiff, Nat.reduceAdd, Int.reduceEq, Int.reduceLT, Int.reduceLE, Int.reduceGT, Int.reduceGE, beq_self_eq_true, List.getElem?_toArray, List.getElem?_cons_zero, List.getElem?_cons_succ, List.append_nil, List.nil_append, List.cons_append, List.append_eq, x0, y0, cnv83, bldMk, zcM]
    obtain ⟨A2, s1, s2, s3, s4⟩ := new_set (P := Try.prog) A1 (z := mcZ) (t := 41) (x := .agg (mc (msg0 kk.toNat) .snil .snil .snil)) (cs := mc (msg0 kk.toNat) .snil .snil .snil) rfl sz41 rfl rfl
    obtain ⟨w1, u1, u2⟩ := h.subFrom (P := Try.prog) (t := 38) (lo := 1) (kl := .i64) Try.underlying38 sz5 (by simp) A2
    have u1 : evSlice Try.prog 38 v (some (.int .i64 1)) none none A2 = some w1 := u1
    have u2 : Slc eU8 m w1 s := u2
    simp only [RS, xs_some, Option.bind_some, Option.map_some, if_true, if_false, decide_true, decide_false, true_and, and_true, Bool.not_true, Bool.not_false, Bool.false_eq_true, not_false_eq_true, not_true_eq_false, Nat.reduceLT, Nat.reduceBEq, Nat.reduceEqDiff, Nat.reduceAdd, Int.reduceEq, Int.reduceLT, Int.reduceLE, Int.reduceGT, Int.reduceGE, beq_self_eq_true, List.getElem?_toArray, List.getElem?_cons_zero, List.getElem?_cons_succ, List.append_nil, List.nil_append, List.cons_append, List.append_eq, s1, u1, bldR u2.form, zc136]
    obtain ⟨A3, e3, f3, r3, n3⟩ := new_var A2 [w1, .int .i64 0]
    rw [← e3]
    obtain ⟨A4, t1, t2, t3, t4⟩ := new_set (P := Try.prog) A3 (z := [.pnil]) (t := 136) (x := .ptr A2.blk.length 0) (cs := [.ptr A2.blk.length 0]) rfl sz136 rfl rfl
    have fa := faM A1.blk.length
    simp only [RS, xs_some, Option.bind_some, Option.map_some, if_true, if_false, decide_true, decide_false, true_and, and_true, Bool.not_true, Bool.not_false, Bool.false_eq_true, not_false_eq_true, not_true_eq_false, Nat.reduceLT, Nat.reduceBEq, Nat.reduceEqDiff, Nat.reduceAdd, Int.reduceEq, Int.reduceLT, Int.reduceLE, Int.reduceGT, Int.reduceGE, beq_self_eq_true, List.getElem?_toArray, List.getElem?_cons_zero, List.getElem?_cons_succ, List.append_nil, List.nil_append, List.cons_append, List.append_eq, t1, fa, bldPt, zc139]
    obtain ⟨A5, p1, p2, p3, p4⟩ := new_set (P := Try.prog) A4 (z := [.pnil, .pnil, .pnil, .pnil, .pnil]) (t := 139) (x := .agg (ptrs A1.blk.length)) (cs := ptrs A1.blk.length) rfl sz139 rfl rfl
    have ldp := load_one (P := Try.prog) ag136 (p2.row0 t3)
    simp only [RS, xs_some, Option.bind_some, Option.map_some, if_true, if_false, decide_true, decide_false, true_and, and_true, Bool.not_true, Bool.not_false, Bool.false_eq_true, not_false_eq_true, not_true_eq_false, Nat.reduceLT, Nat.reduceBEq, Nat.reduceEqDiff, Nat.reduceAdd, Int.reduceEq, Int.reduceLT, Int.reduceLE, Int.reduceGT, Int.reduceGE, beq_self_eq_true, List.getElem?_toArray, List.getElem?_cons_zero, List.getElem?_cons_succ, List.append_nil, List.nil_append, List.cons_append, List.append_eq, p1, ldp]
    obtain ⟨_, A6, q1, rfl, q2, q3⟩ := all_spec (A := A5) (br := A2.blk.length)
    refine run_call1 q1 ?_
    -- where things lie
    obtain ⟨b2, hb2⟩ : ∃ x, x = A.blk.length := ⟨_, rfl⟩
    obtain ⟨bm, hbm⟩ : ∃ x, x = A1.blk.length := ⟨_, rfl⟩
    obtain ⟨br, hbr⟩ : ∃ x, x = A2.blk.length := ⟨_, rfl⟩
    obtain ⟨b5, hb5⟩ : ∃ x, x = A3.blk.length := ⟨_, rfl⟩
    obtain ⟨b6, hb6⟩ : ∃ x, x = A4.blk.length := ⟨_, rfl⟩
    obtain ⟨bx, hbx⟩ : ∃ x, x = A5.blk.length := ⟨_, rfl⟩
    have fA6 : Fr S0 A A6 := ((((f1.then0 s2).then0 f3).then0 t2).then0 p2).then0 q2
    have fm : ∀ {B}, Fr S0 A B → ∀ b, A.blk.length ≤ b → m b = none := fun _ b hb => hm.fresh hb
    have hno : ∀ b, A.blk.length ≤ b → m b = none := fun b hb => hm.fresh hb
    have cb : CB A.blk.length b2 b5 b6 br bm m A6 := by
      subst hb2 hbm hbr hb5 hb6
      exact ⟨q2.row0 (p2.row0 (t2.row0 (f3.row0 (s2.row0 r1)))), q2.row0 (p2.row0 t3), q2.row0 p3, hm.fr0 fA6, fA6.wf hw, fA6.len⟩
    have rbm : A6.blk[bm]? = some ⟨mc (msg0 kk.toNat) .snil .snil .snil, .var⟩ := by subst hbm; exact q2.row0 (p2.row0 (t2.row0 (f3.row0 s3)))
    have rbr : A6.blk[br]? = some ⟨[w1, .int .i64 0], .var⟩ := by subst hbr; exact q2.row0 (p2.row0 (t2.row0 r3))
    have rbx : A6.blk[bx]? = some ⟨[.ptr br 0], .var⟩ := by subst hbx hbr; exact q3
    rw [← hb2, ← hbm, ← hbr, ← hb5, ← hb6, ← hbx]
    have o1 : b2 < bm ∧ bm < br ∧ br < b5 ∧ b5 < b6 ∧ b6 < bx := by omega
    have hN : A.blk.length = b2 := hb2.symm
    rw [hN] at hno cb
    clear q1 p1 t1 s1 u1 e3 e1 q3 p3 t3 r3 s3 fa ldp s4 t4 p4 n1 n3 x0 y0 hb2 hbm hbr hb5 hb6 hbx r1 f1 s2 f3 t2 p2 q2 fm
    simp only [RS, xs_some, Option.bind_some, Option.map_some, if_true, if_false, decide_true, decide_false, true_and, and_true, Bool.not_true, Bool.not_false, Bool.false_eq_true, not_false_eq_true, not_true_eq_false, Nat.reduceLT, Nat.reduceBEq, Nat.reduceEqDiff, Nat.reduceAdd, Int.reduceEq, Int.reduceLT, Int.reduceLE, Int.reduceGT, Int.reduceGE, beq_self_eq_true, List.getElem?_toArray, List.getElem?_cons_zero, List.getElem?_cons_succ, List.append_nil, List.nil_append, List.cons_append, List.append_eq]
    have hmul : ∀ (x : Nat), x ≤ 9 → x = x := fun _ _ => rfl
    refine run_gen_k (S := fun l => l = .row bm ∨ l = .row br ∨ famsFrom b2 l) (T := (· = .row br)) (K := (· = br)) (Pre := rowR br 0) (Fin := rowR br (items 0 s).2) (AR := argI m) (xs := (items 0 s).1)
      (fun i B => CB b2 b2 b5 b6 br bm m B ∧ RdJ b2 bm br kk.toNat (items 0 s).1 i B) (fun B => CB b2 b2 b5 b6 br bm m B ∧ RdE b2 bm br kk.toNat s B)
      rfl (fun q => by rcases q with q | q | q <;> cases q) (fun q => by cases q) ?_ ⟨cb, _, _, _, _, rbm, ⟨_, rbr⟩, rfl, msgIn0, fun f hf => ⟨fun _ => ⟨rfl, rfl⟩, rfl, rfl⟩⟩ ?_ ?_
      Try.func30 Try.ntmps30 (by simp) ?_ ?_ ?_
    · intro A0 hf0
      refine all1_goes (cb.on.fr0 hf0) ?_ (.inl (.inr (.inl rfl))) (hf0.row0 rbx) (hf0.row0 rbr) u2 (by omega)
      rintro b ((q | q | q) | q)
      · cases q; exact ⟨hno _ (by omega), by omega⟩
      · cases q; exact ⟨hno _ (by omega), by omega⟩
      · exact q.elim
      · cases q
    · rintro i B C ⟨c1, c2⟩ hf
      refine ⟨c1.fr hf ?_, c2.fr hf ?_ (by omega)⟩
      · rintro b (q | q) <;> cases q
        exact ⟨by omega, by omega, by omega, hno _ (by omega)⟩
      · rintro b (q | q) <;> cases q
        rfl
    · rintro B C ⟨c1, c2⟩ hf
      exact ⟨c1.fr hf (fun b q => by cases q), c2.fr hf (fun b q => by cases q)⟩
    · -- a round
      rintro i f B args hi ⟨c1, M, dv, iv, lv, j1, _, j2, j3, j4⟩ hfB ⟨rv, rrow⟩ ⟨xv, rfl, hx, hxl, ht1, ht9⟩
      obtain ⟨t, x⟩ := f
      simp only [] at hx hxl ht1 ht9
      have j4 := j4 _ hi
      simp only [] at j4
      refine ⟨_, rfl, ?_⟩
      simp only [RS, xs_some, Option.bind_some, Option.map_some, if_true, if_false, decide_true, decide_false, true_and, and_true, Bool.not_true, Bool.not_false, Bool.false_eq_true, not_false_eq_true, not_true_eq_false, Nat.reduceLT, Nat.reduceBEq, Nat.reduceEqDiff, Nat.reduceAdd, Int.reduceEq, Int.reduceLT, Int.reduceLE, Int.reduceGT, Int.reduceGE, beq_self_eq_true, List.getElem?_toArray, List.getElem?_cons_zero, List.getElem?_cons_succ, List.append_nil, List.nil_append, List.cons_append, List.append_eq]
      refine ⟨rfl, .refl _ B, fun B1 hB1 => ?_⟩
      have c1 : CB b2 b2 b5 b6 br bm m B1 := c1.fr hB1 (fun b q => by cases q)
      have j1 := hB1.loop_row j1
      have rrow1 := hB1.loop_row rrow
      have j3 : MsgIn (arrHq b2 B1) M dv iv lv := j3.mono (arrHq_le (N := b2) hB1 (fun b q => by cases q))
      have hkeep : B1.blk[br]? = B.blk[br]? := by rw [rrow1, rrow]
      have xlen := fun B => hx.len (P := Try.prog) Try.underlying38 B
      have ld5 : ∀ {C}, CB b2 b2 b5 b6 br bm m C → evLoad Try.prog 136 (.ptr b5 0) C = some (.ptr br 0) := fun q => load_one ag136 q.r5
      have fr := faR br
      -- an error
      have fail : ∀ {C : AS} {rv' : V} {c n : Int} {M' : Go.Sv.M} {dv' iv' lv' : V}, CB b2 b2 b5 b6 br bm m C → C.blk[br]? = some ⟨[rv', .int .i64 c], .var⟩ → C.blk[bm]? = some ⟨mc M' dv' iv' lv', .var⟩ → M'.id.length = 32 → putM M t x = .error n → n ≠ 0 →
          ∃ C', evStore Try.prog 42 (.ptr br 1) (.int .i64 n) C = some C' ∧ Fr (· = .row br) C C' ∧ CB b2 b2 b5 b6 br bm m C' ∧ RdE b2 bm br kk.toNat s C' := by
        intro C rv' c n M' dv' iv' lv' z1 z2 z3 z4 z5 z6
        obtain ⟨C', y1, y2, y3⟩ := setBad (n := n) z2
        exact ⟨C', y1, y2, z1.fr y2 (by rintro b q; cases q; exact ⟨by omega, by omega, by omega, hno _ (by omega)⟩), .inl ⟨_, n, z6, y3, restM_of_bad j2 hi z5, M', dv', iv', lv', y2.rowNe z3 (by omega), z4⟩⟩
      have inBr : ∀ {C D : AS}, Fr (· = .row br) C D → Fr (fun l => l = .row bm ∨ l = .row br ∨ famsFrom b2 l) C D := fun q => q.mono fun _ z => .inr (.inl z)
      have inBm : ∀ {C D : AS}, Fr (· = .row bm) C D → Fr (fun l => l = .row bm ∨ l = .row br ∨ famsFrom b2 l) C D := fun q => q.mono fun _ z => .inl z
      have inFam : ∀ {C D : AS}, Fr (famsFrom b2) C D → Fr (fun l => l = .row bm ∨ l = .row br ∨ famsFrom b2 l) C D := fun q => q.mono fun _ z => .inr (.inr z)
      have cbm : ∀ {C D : AS}, CB b2 b2 b5 b6 br bm m C → Fr (· = .row bm) C D → CB b2 b2 b5 b6 br bm m D := fun q z => q.fr z (by rintro b q; cases q; exact ⟨by omega, by omega, by omega, hno _ (by omega)⟩)
      have famM : Fr (fun l => l = .row bm ∨ l = .row br ∨ famsFrom b2 l) B1 B1 := .refl _ _
      have hid := j3.id
      have faB := faM bm
      have ldm := ldM j1 hid
      simp only [RS, xs_some, Option.bind_some, Option.map_some, if_true, if_false, decide_true, decide_false, true_and, and_true, Bool.not_true, Bool.not_false, Bool.false_eq_true, not_false_eq_true, not_true_eq_false, Nat.reduceLT, Nat.reduceBEq, Nat.reduceEqDiff, Nat.reduceAdd, Int.reduceEq, Int.reduceLT, Int.reduceLE, Int.reduceGT, Int.reduceGE, beq_self_eq_true, List.getElem?_toArray, List.getElem?_cons_zero, List.getElem?_cons_succ, List.append_nil, List.nil_append, List.cons_append, List.append_eq, xlen]
      refine condK_of (fun g => ?_) (fun g => ?_)
      · have hx0 : x = [] := List.eq_nil_of_length_eq_zero (by omega)
        have hp : putM M t x = .error 23 := by unfold putM; rw [if_pos hx0]
        obtain ⟨C, k1, k2, k3, k4⟩ := fail c1 rrow1 j1 hid hp (by decide)
        simp only [RS, xs_some, Option.bind_some, Option.map_some, if_true, if_false, decide_true, decide_false, true_and, and_true, Bool.not_true, Bool.not_false, Bool.false_eq_true, not_false_eq_true, not_true_eq_false, Nat.reduceLT, Nat.reduceBEq, Nat.reduceEqDiff, Nat.reduceAdd, Int.reduceEq, Int.reduceLT, Int.reduceLE, Int.reduceGT, Int.reduceGE, beq_self_eq_true, List.getElem?_toArray, List.getElem?_cons_zero, List.getElem?_cons_succ, List.append_nil, List.nil_append, List.cons_append, List.append_eq, ld5 c1, fr, k1]
        exact ⟨inBr k2, .inr ⟨rfl, k3, k4⟩⟩
      have hx0 : x ≠ [] := fun q => g (by rw [q]; rfl)
      simp only [RS, xs_some, Option.bind_some, Option.map_some, if_true, if_false, decide_true, decide_false, true_and, and_true, Bool.not_true, Bool.not_false, Bool.false_eq_true, not_false_eq_true, not_true_eq_false, Nat.reduceLT, Nat.reduceBEq, Nat.reduceEqDiff, Nat.reduceAdd, Int.reduceEq, Int.reduceLT, Int.reduceLE, Int.reduceGT, Int.reduceGE, beq_self_eq_true, List.getElem?_toArray, List.getElem?_cons_zero, List.getElem?_cons_succ, List.append_nil, List.nil_append, List.cons_append, List.append_eq]
      refine condK_of (fun g1 => ?_) (fun g1 => ?_)
      · -- a number
        have ht6 : t < 6 := by omega
        have hsub : IntKind.u8.wrap ((t : Int) - 1) = ((t - 1 : Nat) : Int) := by
          have : ((t : Int) - 1) = ((t - 1 : Nat) : Int) := by omega
          rw [this, u8wrap, UInt8.toNat_ofNat']
          omega
        have had : evIndexAddr Try.prog 139 (.ptr b6 0) (.int .u8 ((t - 1 : Nat) : Int)) = some (.ptr b6 (t - 1)) := by
          have := arr_addr (P := Try.prog) (t := 139) (b := b6) (o := 0) (k := .u8) (i := t - 1) Try.underlying139 sz68 (by omega)
          simpa using this
        have hptr : (ptrs bm)[t - 1]? = some (.ptr bm t) := by
          match t, ht1, ht6 with
          | 1, _, _ => rfl
          | 2, _, _ => rfl
          | 3, _, _ => rfl
          | 4, _, _ => rfl
          | 5, _, _ => rfl
        have ld6 : ∀ {C}, CB b2 b2 b5 b6 br bm m C → evLoad Try.prog 68 (.ptr b6 (t - 1)) C = some (.ptr bm t) := fun q => by rw [load_at ag68 q.r6, hptr]
        obtain ⟨w, C, k1, k2⟩ := rnumber_spec c1.on (hno br (by omega)) rrow1 hx hxl hx0
        simp only [RS, xs_some, Option.bind_some, Option.map_some, if_true, if_false, decide_true, decide_false, true_and, and_true, Bool.not_true, Bool.not_false, Bool.false_eq_true, not_false_eq_true, not_true_eq_false, Nat.reduceLT, Nat.reduceBEq, Nat.reduceEqDiff, Nat.reduceAdd, Int.reduceEq, Int.reduceLT, Int.reduceLE, Int.reduceGT, Int.reduceGE, beq_self_eq_true, List.getElem?_toArray, List.getElem?_cons_zero, List.getElem?_cons_succ, List.append_nil, List.nil_append, List.cons_append, List.append_eq]
        simp only [RS, xs_some, Option.bind_some, Option.map_some, if_true, if_false, decide_true, decide_false, true_and, and_true, Bool.not_true, Bool.not_false, Bool.false_eq_true, not_false_eq_true, not_true_eq_false, Nat.reduceLT, Nat.reduceBEq, Nat.reduceEqDiff, Nat.reduceAdd, Int.reduceEq, Int.reduceLT, Int.reduceLE, Int.reduceGT, Int.reduceGE, beq_self_eq_true, List.getElem?_toArray, List.getElem?_cons_zero, List.getElem?_cons_succ, List.append_nil, List.nil_append, List.cons_append, List.append_eq, pl_30_14, hsub, had, ld6 c1, ld5 c1, rc_nil]
        refine run_call1 k1 ?_
        rcases k2 with ⟨k2, k3, k4, n, rfl⟩ | ⟨n, k2, rfl, rfl⟩
        · have cC : CB b2 b2 b5 b6 br bm m C := c1.fr k3 (by rintro b q; cases q; exact ⟨by omega, by omega, by omega, hno _ (by omega)⟩)
          have j1C := k3.rowNe j1 (show bm ≠ br by omega)
          obtain ⟨C', y1, y2, y3⟩ := setM (o := t) (t := 3) (w := .int .i64 n) (cs := [.int .i64 n]) j1C hid rfl sz3 (by simp only [List.length_singleton]; omega) rfl
          rw [mc_num ht1 ht6] at y3
          have cC' := cbm cC y2
          have hp : putM M t x = .error 23 := by unfold putM; rw [if_neg hx0, if_pos ht6, k2]
          have row' := y2.rowNe k4 (show br ≠ bm by omega)
          have ldr' := ldR row'
          simp only [RS, xs_some, Option.bind_some, Option.map_some, if_true, if_false, decide_true, decide_false, true_and, and_true, Bool.not_true, Bool.not_false, Bool.false_eq_true, not_false_eq_true, not_true_eq_false, Nat.reduceLT, Nat.reduceBEq, Nat.reduceEqDiff, Nat.reduceAdd, Int.reduceEq, Int.reduceLT, Int.reduceLE, Int.reduceGT, Int.reduceGE, beq_self_eq_true, List.getElem?_toArray, List.getElem?_cons_zero, List.getElem?_cons_succ, List.append_nil, List.nil_append, List.cons_append, List.append_eq, rc_nil]
          refine ⟨rc_load (ha := rfl) rfl (ld6 cC) rfl rc_nil, ?_⟩
          simp only [RS, xs_some, Option.bind_some, Option.map_some, if_true, if_false, decide_true, decide_false, true_and, and_true, Bool.not_true, Bool.not_false, Bool.false_eq_true, not_false_eq_true, not_true_eq_false, Nat.reduceLT, Nat.reduceBEq, Nat.reduceEqDiff, Nat.reduceAdd, Int.reduceEq, Int.reduceLT, Int.reduceLE, Int.reduceGT, Int.reduceGE, beq_self_eq_true, List.getElem?_toArray, List.getElem?_cons_zero, List.getElem?_cons_succ, List.append_nil, List.nil_append, List.cons_append, List.append_eq, y1, rc_nil, ld5 cC', fr, ldr']
          exact ⟨(inBr k3).thn (inBm y2), .inr ⟨rfl, cC', .inl ⟨_, 23, by decide, row', restM_of_bad j2 hi hp, _, _, _, _, y3, by rw [(setNum_id M t n).1]; exact hid⟩⟩⟩
        · obtain ⟨C', y1, y2, y3⟩ := setM (o := t) (t := 3) (w := .int .i64 n) (cs := [.int .i64 n]) j1 hid rfl sz3 (by simp only [List.length_singleton]; omega) rfl
          rw [mc_num ht1 ht6] at y3
          have cC' := cbm c1 y2
          have hp : putM M t x = .ok (setNum M t n) := by unfold putM; rw [if_neg hx0, if_pos ht6, k2]
          have row' := y2.rowNe rrow1 (show br ≠ bm by omega)
          have ldr' := ldR row'
          obtain ⟨z1, z2, z3, z4⟩ := setNum_id M t n
          simp only [RS, xs_some, Option.bind_some, Option.map_some, if_true, if_false, decide_true, decide_false, true_and, and_true, Bool.not_true, Bool.not_false, Bool.false_eq_true, not_false_eq_true, not_true_eq_false, Nat.reduceLT, Nat.reduceBEq, Nat.reduceEqDiff, Nat.reduceAdd, Int.reduceEq, Int.reduceLT, Int.reduceLE, Int.reduceGT, Int.reduceGE, beq_self_eq_true, List.getElem?_toArray, List.getElem?_cons_zero, List.getElem?_cons_succ, List.append_nil, List.nil_append, List.cons_append, List.append_eq, rc_nil]
          refine ⟨rc_load (ha := rfl) rfl (ld6 c1) rfl rc_nil, ?_⟩
          simp only [RS, xs_some, Option.bind_some, Option.map_some, if_true, if_false, decide_true, decide_false, true_and, and_true, Bool.not_true, Bool.not_false, Bool.false_eq_true, not_false_eq_true, not_true_eq_false, Nat.reduceLT, Nat.reduceBEq, Nat.reduceEqDiff, Nat.reduceAdd, Int.reduceEq, Int.reduceLT, Int.reduceLE, Int.reduceGT, Int.reduceGE, beq_self_eq_true, List.getElem?_toArray, List.getElem?_cons_zero, List.getElem?_cons_succ, List.append_nil, List.nil_append, List.cons_append, List.append_eq, y1, rc_nil, ld5 cC', fr, ldr']
          have le := arrHq_le (N := b2) y2 (fun b q => by cases q; exact arrHq_var j1)
          refine ⟨inBm y2, .inl ⟨rfl, ⟨cC', RdJ.step hi j2 j4 hp y3 ⟨_, row'⟩ ⟨by rw [z1]; exact hid, by rw [z2]; exact j3.data.mono le, by rw [z3]; exact j3.ids.mono le, by rw [z4]; exact j3.list.mono le⟩ (fun _ => ⟨rfl, z3⟩) (fun _ => ⟨rfl, z4⟩)⟩, ?_⟩⟩
          rintro r rfl
          rw [row', rrow]
      simp only [RS, xs_some, Option.bind_some, Option.map_some, if_true, if_false, decide_true, decide_false, true_and, and_true, Bool.not_true, Bool.not_false, Bool.false_eq_true, not_false_eq_true, not_true_eq_false, Nat.reduceLT, Nat.reduceBEq, Nat.reduceEqDiff, Nat.reduceAdd, Int.reduceEq, Int.reduceLT, Int.reduceLE, Int.reduceGT, Int.reduceGE, beq_self_eq_true, List.getElem?_toArray, List.getElem?_cons_zero, List.getElem?_cons_succ, List.append_nil, List.nil_append, List.cons_append, List.append_eq]
      have ht6 : ¬ t < 6 := by omega
      refine condK_of (fun g2 => ?_) (fun g2 => ?_)
      · -- the sum
        have ht : t = 6 := by omega
        simp only [RS, xs_some, Option.bind_some, Option.map_some, if_true, if_false, decide_true, decide_false, true_and, and_true, Bool.not_true, Bool.not_false, Bool.false_eq_true, not_false_eq_true, not_true_eq_false, Nat.reduceLT, Nat.reduceBEq, Nat.reduceEqDiff, Nat.reduceAdd, Int.reduceEq, Int.reduceLT, Int.reduceLE, Int.reduceGT, Int.reduceGE, beq_self_eq_true, List.getElem?_toArray, List.getElem?_cons_zero, List.getElem?_cons_succ, List.append_nil, List.nil_append, List.cons_append, List.append_eq, xlen]
        refine contG_of (fun g3 => ?_) (fun g3 => ?_)
        · have hp : putM M t x = .error 23 := by unfold putM; rw [if_neg hx0, if_neg ht6, if_pos ht, if_pos (.inl (by omega))]
          obtain ⟨C, k1, k2, k3, k4⟩ := fail c1 rrow1 j1 hid hp (by decide)
          simp only [RS, xs_some, Option.bind_some, Option.map_some, if_true, if_false, decide_true, decide_false, true_and, and_true, Bool.not_true, Bool.not_false, Bool.false_eq_true, not_false_eq_true, not_true_eq_false, Nat.reduceLT, Nat.reduceBEq, Nat.reduceEqDiff, Nat.reduceAdd, Int.reduceEq, Int.reduceLT, Int.reduceLE, Int.reduceGT, Int.reduceGE, beq_self_eq_true, List.getElem?_toArray, List.getElem?_cons_zero, List.getElem?_cons_succ, List.append_nil, List.nil_append, List.cons_append, List.append_eq, g3, ld5 c1, fr, k1]
          exact ⟨inBr k2, .inr ⟨rfl, k3, k4⟩⟩
        have hxl32 : x.length = 32 := by omega
        obtain ⟨b7, o7, z1, z2⟩ := s2ap_load hx c1.on hxl32
        simp only [RS, xs_some, Option.bind_some, Option.map_some, if_true, if_false, decide_true, decide_false, true_and, and_true, Bool.not_true, Bool.not_false, Bool.false_eq_true, not_false_eq_true, not_true_eq_false, Nat.reduceLT, Nat.reduceBEq, Nat.reduceEqDiff, Nat.reduceAdd, Int.reduceEq, Int.reduceLT, Int.reduceLE, Int.reduceGT, Int.reduceGE, beq_self_eq_true, List.getElem?_toArray, List.getElem?_cons_zero, List.getElem?_cons_succ, List.append_nil, List.nil_append, List.cons_append, List.append_eq, g3, z1, z2, bldZ, eqI hxl32 (rfl : zero32.length = 32)]
        refine condK_of (fun g4 => ?_) (fun g4 => ?_)
        · have hp : putM M t x = .error 23 := by unfold putM; rw [if_neg hx0, if_neg ht6, if_pos ht, if_pos (.inr g4)]
          obtain ⟨C, k1, k2, k3, k4⟩ := fail c1 rrow1 j1 hid hp (by decide)
          simp only [RS, xs_some, Option.bind_some, Option.map_some, if_true, if_false, decide_true, decide_false, true_and, and_true, Bool.not_true, Bool.not_false, Bool.false_eq_true, not_false_eq_true, not_true_eq_false, Nat.reduceLT, Nat.reduceBEq, Nat.reduceEqDiff, Nat.reduceAdd, Int.reduceEq, Int.reduceLT, Int.reduceLE, Int.reduceGT, Int.reduceGE, beq_self_eq_true, List.getElem?_toArray, List.getElem?_cons_zero, List.getElem?_cons_succ, List.append_nil, List.nil_append, List.cons_append, List.append_eq, ld5 c1, fr, k1]
          exact ⟨inBr k2, .inr ⟨rfl, k3, k4⟩⟩
        · have hp : putM M t x = .ok { M with id := x } := by
            unfold putM; rw [if_neg hx0, if_neg ht6, if_pos ht, if_neg]
            rintro (q | q)
            · exact q hxl32
            · exact g4 q
          obtain ⟨C', y1, y2, y3⟩ := setM (o := 6) (t := 37) (w := .agg (bc x)) (cs := bc x) j1 hid rfl (by rw [bc_len, hxl32]; exact sz37) (by rw [bc_len, hxl32]; decide) (bc_one x)
          rw [mc_id hid hxl32] at y3
          have cC' := cbm c1 y2
          have row' := y2.rowNe rrow1 (show br ≠ bm by omega)
          have ldr' := ldR row'
          simp only [RS, xs_some, Option.bind_some, Option.map_some, if_true, if_false, decide_true, decide_false, true_and, and_true, Bool.not_true, Bool.not_false, Bool.false_eq_true, not_false_eq_true, not_true_eq_false, Nat.reduceLT, Nat.reduceBEq, Nat.reduceEqDiff, Nat.reduceAdd, Int.reduceEq, Int.reduceLT, Int.reduceLE, Int.reduceGT, Int.reduceGE, beq_self_eq_true, List.getElem?_toArray, List.getElem?_cons_zero, List.getElem?_cons_succ, List.append_nil, List.nil_append, List.cons_append, List.append_eq, z1, z2, faB, y1, ld5 cC', fr, ldr']
          have le := arrHq_le (N := b2) y2 (fun b q => by cases q; exact arrHq_var j1)
          refine ⟨inBm y2, .inl ⟨rfl, ⟨cC', RdJ.step hi j2 j4 hp y3 ⟨_, row'⟩ ⟨hxl32, j3.data.mono le, j3.ids.mono le, j3.list.mono le⟩ (fun _ => ⟨rfl, rfl⟩) (fun _ => ⟨rfl, rfl⟩)⟩, ?_⟩⟩
          rintro r rfl
          rw [row', rrow]
      simp only [RS, xs_some, Option.bind_some, Option.map_some, if_true, if_false, decide_true, decide_false, true_and, and_true, Bool.not_true, Bool.not_false, Bool.false_eq_true, not_false_eq_true, not_true_eq_false, Nat.reduceLT, Nat.reduceBEq, Nat.reduceEqDiff, Nat.reduceAdd, Int.reduceEq, Int.reduceLT, Int.reduceLE, Int.reduceGT, Int.reduceGE, beq_self_eq_true, List.getElem?_toArray, List.getElem?_cons_zero, List.getElem?_cons_succ, List.append_nil, List.nil_append, List.cons_append, List.append_eq]
      have ht7 : ¬ t = 6 := by omega
      refine condK_of (fun g3 => ?_) (fun g3 => ?_)
      · -- the data
        have ht : t = 7 := by omega
        have hp : putM M t x = .ok { M with data := x } := by unfold putM; rw [if_neg hx0, if_neg ht6, if_neg ht7, if_pos ht]
        simp only [RS, xs_some, Option.bind_some, Option.map_some, if_true, if_false, decide_true, decide_false, true_and, and_true, Bool.not_true, Bool.not_false, Bool.false_eq_true, not_false_eq_true, not_true_eq_false, Nat.reduceLT, Nat.reduceBEq, Nat.reduceEqDiff, Nat.reduceAdd, Int.reduceEq, Int.reduceLT, Int.reduceLE, Int.reduceGT, Int.reduceGE, beq_self_eq_true, List.getElem?_toArray, List.getElem?_cons_zero, List.getElem?_cons_succ, List.append_nil, List.nil_append, List.cons_append, List.append_eq, bsl0]
        have o2 := Own.new (N := b2) (n := 0) (sz := 1) (cs := []) c1.wf c1.len rfl rfl
        have q1 := Fr.pushArr B1 []
        have cP := c1.fr q1 (fun b q => q.elim)
        have j1P := q1.row0 j1
        have rP := q1.row0 rrow1
        have leP := arrHq_le (N := b2) q1 (fun b q => q.elim)
        generalize B1.push ⟨[], .arr B1.blk.length 0⟩ = C at *
        obtain ⟨v', D, p1, p2, p3⟩ := o2.app sl38 cP.wf cP.len (src_bytes (P := Try.prog) (tx := 38) Try.underlying38 hx cP.on) (by rw [List.length_map, Nat.mul_one]) (bc_one x) (by omega) (by omega)
        have cD := cP.fr p3 (fun b q => q.elim)
        have j1D := p3.fam_row j1P
        have rD := p3.fam_row rP
        have leD := arrHq_le (N := b2) p3 (fun b q => q.elim)
        obtain ⟨C', y1, y2, y3⟩ := setM (o := 38) (t := 38) (w := v') (cs := [v']) j1D hid p2.cells1 sz38 (by simp) (by simp [p2.one])
        rw [mc_data hid x] at y3
        have cC' := cbm cD y2
        have row' := y2.rowNe rD (show br ≠ bm by omega)
        have ldr' := ldR row'
        have leC := arrHq_le (N := b2) y2 (fun b q => by cases q; exact arrHq_var j1D)
        have le := fun {τ : Type} {E : Enc τ} {w : V} {l : List τ} (q : Slc E (arrHq b2 B1) w l) => ((q.mono leP).mono leD).mono leC
        have p2' : Own b2 C' v' x.length 1 (bc x) := (p2.cast (by omega) rfl).frRow y2 j1D
        simp only [RS, xs_some, Option.bind_some, Option.map_some, if_true, if_false, decide_true, decide_false, true_and, and_true, Bool.not_true, Bool.not_false, Bool.false_eq_true, not_false_eq_true, not_true_eq_false, Nat.reduceLT, Nat.reduceBEq, Nat.reduceEqDiff, Nat.reduceAdd, Int.reduceEq, Int.reduceLT, Int.reduceLE, Int.reduceGT, Int.reduceGE, beq_self_eq_true, List.getElem?_toArray, List.getElem?_cons_zero, List.getElem?_cons_succ, List.append_nil, List.nil_append, List.cons_append, List.append_eq, p1, faB, y1, ld5 cC', fr, ldr']
        refine ⟨(q1.after0 (inFam p3)).thn (inBm y2), .inl ⟨rfl, ⟨cC', RdJ.step hi j2 j4 hp y3 ⟨_, row'⟩ ⟨hid, p2'.arrBtsQ (Nat.le_refl _), le j3.ids, le j3.list⟩ (fun _ => ⟨rfl, rfl⟩) (fun _ => ⟨rfl, rfl⟩)⟩, ?_⟩⟩
        rintro r rfl
        rw [row', rrow]
      simp only [RS, xs_some, Option.bind_some, Option.map_some, if_true, if_false, decide_true, decide_false, true_and, and_true, Bool.not_true, Bool.not_false, Bool.false_eq_true, not_false_eq_true, not_true_eq_false, Nat.reduceLT, Nat.reduceBEq, Nat.reduceEqDiff, Nat.reduceAdd, Int.reduceEq, Int.reduceLT, Int.reduceLE, Int.reduceGT, Int.reduceGE, beq_self_eq_true, List.getElem?_toArray, List.getElem?_cons_zero, List.getElem?_cons_succ, List.append_nil, List.nil_append, List.cons_append, List.append_eq]
      have ht8 : ¬ t = 7 := by omega
      refine condK_of (fun g4 => ?_) (fun g4 => ?_)
      · -- the sums
        have ht : t = 8 := by omega
        obtain ⟨rfl, hids⟩ := j4.1 (by omega)
        have hrem : evBin Try.prog .rem 3 (.int .i64 (x.length : Int)) (.int .i64 32) = some (.int .i64 ((x.length % 32 : Nat) : Int)) := rem_lit _ 32 (by decide)
        simp only [RS, xs_some, Option.bind_some, Option.map_some, if_true, if_false, decide_true, decide_false, true_and, and_true, Bool.not_true, Bool.not_false, Bool.false_eq_true, not_false_eq_true, not_true_eq_false, Nat.reduceLT, Nat.reduceBEq, Nat.reduceEqDiff, Nat.reduceAdd, Int.reduceEq, Int.reduceLT, Int.reduceLE, Int.reduceGT, Int.reduceGE, beq_self_eq_true, List.getElem?_toArray, List.getElem?_cons_zero, List.getElem?_cons_succ, List.append_nil, List.nil_append, List.cons_append, List.append_eq, xlen, hrem]
        refine condK_of (fun g5 => ?_) (fun g5 => ?_)
        · have hp : putM M t x = .error 23 := by unfold putM; rw [if_neg hx0, if_neg ht6, if_neg ht7, if_neg ht8, if_pos ht, if_pos (by omega)]
          obtain ⟨C, k1, k2, k3, k4⟩ := fail c1 rrow1 j1 hid hp (by decide)
          simp only [RS, xs_some, Option.bind_some, Option.map_some, if_true, if_false, decide_true, decide_false, true_and, and_true, Bool.not_true, Bool.not_false, Bool.false_eq_true, not_false_eq_true, not_true_eq_false, Nat.reduceLT, Nat.reduceBEq, Nat.reduceEqDiff, Nat.reduceAdd, Int.reduceEq, Int.reduceLT, Int.reduceLE, Int.reduceGT, Int.reduceGE, beq_self_eq_true, List.getElem?_toArray, List.getElem?_cons_zero, List.getElem?_cons_succ, List.append_nil, List.nil_append, List.cons_append, List.append_eq, ld5 c1, fr, k1]
          exact ⟨inBr k2, .inr ⟨rfl, k3, k4⟩⟩
        have hp : putM M t x = .ok { M with ids := chunk32 x } := by unfold putM; rw [if_neg hx0, if_neg ht6, if_neg ht7, if_neg ht8, if_pos ht, if_neg (by omega), hids, List.nil_append]
        simp only [RS, xs_some, Option.bind_some, Option.map_some, if_true, if_false, decide_true, decide_false, true_and, and_true, Bool.not_true, Bool.not_false, Bool.false_eq_true, not_false_eq_true, not_true_eq_false, Nat.reduceLT, Nat.reduceBEq, Nat.reduceEqDiff, Nat.reduceAdd, Int.reduceEq, Int.reduceLT, Int.reduceLE, Int.reduceGT, Int.reduceGE, beq_self_eq_true, List.getElem?_toArray, List.getElem?_cons_zero, List.getElem?_cons_succ, List.append_nil, List.nil_append, List.cons_append, List.append_eq]
        refine run_loop_j (fun n e C => Fr (fun l => l = .row bm ∨ l = .row br ∨ famsFrom b2 l) B1 C ∧ CB b2 b2 b5 b6 br bm m C ∧ C.blk[br]? = some ⟨[rv, .int .i64 0], .var⟩ ∧ e.get 4 = .ptr bm 0 ∧ e.get 5 = .ptr b5 0 ∧ (arrHq b2 B1).le (arrHq b2 C) ∧
            ∃ (done : List Bts) (rest : Bts) (xv' iv' : V), n = rest.length ∧ e.get 8 = xv' ∧ Slc eU8 m xv' rest ∧ rest.length % 32 = 0 ∧ rest.length ≤ x.length ∧ done.length * 32 + rest.length = x.length ∧ (∀ b ∈ done, b.length = 32) ∧ chunk32 x = done ++ chunk32 rest ∧ C.blk[bm]? = some ⟨mc { M with ids := done } dv iv' lv, .var⟩ ∧ Own b2 C iv' done.length 32 (cellsAllB done))
          (fun z e C => Is z (.exit 3) ∧ Fr (fun l => l = .row bm ∨ l = .row br ∨ famsFrom b2 l) B1 C ∧ CB b2 b2 b5 b6 br bm m C ∧ C.blk[br]? = some ⟨[rv, .int .i64 0], .var⟩ ∧ e.get 5 = .ptr b5 0 ∧ (arrHq b2 B1).le (arrHq b2 C) ∧
            ∃ iv', C.blk[bm]? = some ⟨mc { M with ids := chunk32 x } dv iv' lv, .var⟩ ∧ Slc eId (arrHq b2 C) iv' (chunk32 x))
          ⟨_, .refl _ B1, c1, rrow1, rfl, rfl, Hp.le_refl _, [], x, xv, .snil, rfl, rfl, hx, by omega, Nat.le_refl _, by simp, by simp, rfl, by rw [← hids]; exact j1, by simpa [cellsAllB] using Own.nil b2 B1 32⟩ ?_ ?_
        · rintro n e C ⟨fC, cC, rC, h4, h5, leC, done, rest, xv', iv', rfl, h8, hx', hmod, hle, hsum, hall, hch, jC, own⟩
          have xlen' := fun B => hx'.len (P := Try.prog) Try.underlying38 B
          have ldc := ldM jC hid
          simp only [RS, xs_some, Option.bind_some, Option.map_some, if_true, if_false, decide_true, decide_false, true_and, and_true, Bool.not_true, Bool.not_false, Bool.false_eq_true, not_false_eq_true, not_true_eq_false, Nat.reduceLT, Nat.reduceBEq, Nat.reduceEqDiff, Nat.reduceAdd, Int.reduceEq, Int.reduceLT, Int.reduceLE, Int.reduceGT, Int.reduceGE, beq_self_eq_true, List.getElem?_toArray, List.getElem?_cons_zero, List.getElem?_cons_succ, List.append_nil, List.nil_append, List.cons_append, List.append_eq, h8, xlen']
          refine condK_of (fun g6 => ?_) (fun g6 => ?_)
          · have hr32 : 32 ≤ rest.length := by omega
            have hrne : rest ≠ [] := by rintro rfl; simp at g6
            obtain ⟨w3, u3, u4⟩ := hx'.subTo (P := Try.prog) (t := 38) (hi := 32) (kh := .i64) Try.underlying38 sz5 hr32 C
            have u3 : evSlice Try.prog 38 xv' none (some (.int .i64 32)) none C = some w3 := u3
            obtain ⟨w4, u5, u6⟩ := hx'.subFrom (P := Try.prog) (t := 38) (lo := 32) (kl := .i64) Try.underlying38 sz5 hr32 C
            have htl : (rest.take 32).length = 32 := by rw [List.length_take]; omega
            obtain ⟨b7, o7, z1, z2⟩ := s2ap_load u4 cC.on htl
            obtain ⟨v', D, p1, p2, p3⟩ := own.appNew (k := 1) (new := bc (rest.take 32)) sl39 Try.underlying39 cC.wf cC.len (by rw [bc_len, htl]) (bc_one _) (by omega) (by omega)
            have cD := cC.fr p3 (fun b q => q.elim)
            have jD := p3.fam_row jC
            have rD := p3.fam_row rC
            have leD := arrHq_le (N := b2) p3 (fun b q => q.elim)
            obtain ⟨E, y1, y2, y3⟩ := setM (o := 39) (t := 39) (w := v') (cs := [v']) jD hid p2.cells1 sz39 (by simp) (by simp [p2.one])
            rw [mc_ids (x := { M with ids := done }) hid (done ++ [rest.take 32])] at y3
            have cE := cbm cD y2
            have rE := y2.rowNe rD (show br ≠ bm by omega)
            have leE := arrHq_le (N := b2) y2 (fun b q => by cases q; exact arrHq_var jD)
            have u5 : ∀ B, evSlice Try.prog 38 xv' (some (.int .i64 32)) none none B = some w4 := fun B => by
              rw [← u5]
              rcases hx'.form with rfl | ⟨b, o, n, z, rfl⟩ <;> rfl
            simp only [RS, xs_some, Option.bind_some, Option.map_some, if_true, if_false, decide_true, decide_false, true_and, and_true, Bool.not_true, Bool.not_false, Bool.false_eq_true, not_false_eq_true, not_true_eq_false, Nat.reduceLT, Nat.reduceBEq, Nat.reduceEqDiff, Nat.reduceAdd, Int.reduceEq, Int.reduceLT, Int.reduceLE, Int.reduceGT, Int.reduceGE, beq_self_eq_true, List.getElem?_toArray, List.getElem?_cons_zero, List.getElem?_cons_succ, List.append_nil, List.nil_append, List.cons_append, List.append_eq]
            rw [pl_30_26, run_plan_id (by rfl)]
            simp only [RS, xs_some, Option.bind_some, Option.map_some, if_true, if_false, decide_true, decide_false, true_and, and_true, Bool.not_true, Bool.not_false, Bool.false_eq_true, not_false_eq_true, not_true_eq_false, Nat.reduceLT, Nat.reduceBEq, Nat.reduceEqDiff, Nat.reduceAdd, Int.reduceEq, Int.reduceLT, Int.reduceLE, Int.reduceGT, Int.reduceGE, beq_self_eq_true, List.getElem?_toArray, List.getElem?_cons_zero, List.getElem?_cons_succ, List.append_nil, List.nil_append, List.cons_append, List.append_eq, h4, h8, faB, ldc, u3, z1, z2, bslI htl, p1, y1, u5]
            refine ⟨(rest.drop 32).length, by rw [List.length_drop]; omega, (fC.thn (inFam p3)).thn (inBm y2), cE, rE, h5, Hp.le_trans leC (Hp.le_trans leD leE), done ++ [rest.take 32], rest.drop 32, w4, v', rfl, rfl, u6, by rw [List.length_drop]; omega, by rw [List.length_drop]; omega, by rw [List.length_append, List.length_drop]; simp; omega, ?_, ?_, y3, (p2.frRow y2 jD).cast (by simp) (by simp [cellsAllB])⟩
            · intro b hb
              rcases List.mem_append.1 hb with q | q
              · exact hall b q
              · simp at q; rw [q]; exact htl
            · rw [hch, chunk32_cons hrne]; simp
          · have : rest = [] := List.eq_nil_of_length_eq_zero (by omega)
            subst this
            simp only [RS, xs_some, Option.bind_some, Option.map_some, if_true, if_false, decide_true, decide_false, true_and, and_true, Bool.not_true, Bool.not_false, Bool.false_eq_true, not_false_eq_true, not_true_eq_false, Nat.reduceLT, Nat.reduceBEq, Nat.reduceEqDiff, Nat.reduceAdd, Int.reduceEq, Int.reduceLT, Int.reduceLE, Int.reduceGT, Int.reduceGE, beq_self_eq_true, List.getElem?_toArray, List.getElem?_cons_zero, List.getElem?_cons_succ, List.append_nil, List.nil_append, List.cons_append, List.append_eq]
            rw [chunk32_nil, List.append_nil] at hch
            subst hch
            refine ⟨rfl, fC, cC, rC, h5, leC, iv', jC, Own.arrHq (E := eId) own (Nat.le_refl _) rfl fun i y hy => ⟨?_, hall y (List.mem_of_getElem? hy)⟩⟩
            exact cellsAllB_at hall i y hy
        · rintro z e C hz ⟨rfl, fC, cC, rC, h5, leC, iv', jC, hiv'⟩
          have ldr' := ldR rC
          simp only [RS, xs_some, Option.bind_some, Option.map_some, if_true, if_false, decide_true, decide_false, true_and, and_true, Bool.not_true, Bool.not_false, Bool.false_eq_true, not_false_eq_true, not_true_eq_false, Nat.reduceLT, Nat.reduceBEq, Nat.reduceEqDiff, Nat.reduceAdd, Int.reduceEq, Int.reduceLT, Int.reduceLE, Int.reduceGT, Int.reduceGE, beq_self_eq_true, List.getElem?_toArray, List.getElem?_cons_zero, List.getElem?_cons_succ, List.append_nil, List.nil_append, List.cons_append, List.append_eq, h5, ld5 cC, fr, ldr']
          refine ⟨fC, .inl ⟨rfl, ⟨cC, RdJ.step hi j2 j4 hp jC ⟨_, rC⟩ ⟨hid, j3.data.mono leC, hiv', j3.list.mono leC⟩ (fun q => absurd q (by simp only []; omega)) (fun _ => ⟨rfl, rfl⟩)⟩, ?_⟩⟩
          rintro r rfl
          rw [rC, rrow]
      simp only [RS, xs_some, Option.bind_some, Option.map_some, if_true, if_false, decide_true, decide_false, true_and, and_true, Bool.not_true, Bool.not_false, Bool.false_eq_true, not_false_eq_true, not_true_eq_false, Nat.reduceLT, Nat.reduceBEq, Nat.reduceEqDiff, Nat.reduceAdd, Int.reduceEq, Int.reduceLT, Int.reduceLE, Int.reduceGT, Int.reduceGE, beq_self_eq_true, List.getElem?_toArray, List.getElem?_cons_zero, List.getElem?_cons_succ, List.append_nil, List.nil_append, List.cons_append, List.append_eq]
      have ht9' : ¬ t = 8 := by omega
      have ht : t = 9 := by omega
      have g5 : ((t : Int) = 9) := by omega
      obtain ⟨rfl, hlist⟩ := j4.2
      have hnv : arrHq b2 B1 br = none := arrHq_var rrow1
      simp only [RS, xs_some, Option.bind_some, Option.map_some, if_true, if_false, decide_true, decide_false, true_and, and_true, Bool.not_true, Bool.not_false, Bool.false_eq_true, not_false_eq_true, not_true_eq_false, Nat.reduceLT, Nat.reduceBEq, Nat.reduceEqDiff, Nat.reduceAdd, Int.reduceEq, Int.reduceLT, Int.reduceLE, Int.reduceGT, Int.reduceGE, beq_self_eq_true, List.getElem?_toArray, List.getElem?_cons_zero, List.getElem?_cons_succ, List.append_nil, List.nil_append, List.cons_append, List.append_eq, g5, bldR hx.form]
      obtain ⟨B2, e2, f2, r2, n2⟩ := new_var B1 [xv, .int .i64 0]
      rw [← e2]
      obtain ⟨bi, hbi⟩ : ∃ y, y = B1.blk.length := ⟨_, rfl⟩
      rw [← hbi] at r2 ⊢
      have l1 := row_lt c1.r6
      have hbi1 : b2 ≤ bi := by have := c1.len; omega
      have hbi2 : bi ≠ b2 ∧ bi ≠ b5 ∧ bi ≠ b6 ∧ bi ≠ br ∧ bi ≠ bm := by
        have z1 := row_lt c1.r2; have z2 := row_lt c1.r5; have z3 := row_lt c1.r6; have z4 := row_lt rrow1; have z5 := row_lt j1
        omega
      have c2 := c1.fr f2 (fun b q => q.elim)
      have fi := faR bi
      have le2 := arrHq_le (N := b2) f2 (fun b q => q.elim)
      clear e2
      refine run_loop_j (fun n e C => Fr (fun l => l = .row bm ∨ l = .row br ∨ famsFrom b2 l) B1 C ∧ CB b2 b2 b5 b6 br bm m C ∧ C.blk[br]? = some ⟨[rv, .int .i64 0], .var⟩ ∧ e.get 4 = .ptr bm 0 ∧ e.get 5 = .ptr b5 0 ∧ e.get 9 = .ptr bi 0 ∧ (arrHq b2 B1).le (arrHq b2 C) ∧
          ∃ (done : List Bts) (rest : Bts) (rv' lv' : V) (lvs : List V), n = rest.length ∧ C.blk[bi]? = some ⟨[rv', .int .i64 0], .var⟩ ∧ Slc eU8 m rv' rest ∧ rest.length + done.length ≤ x.length ∧ runsOf x = (runsOf rest).map (done ++ ·) ∧ C.blk[bm]? = some ⟨mc { M with list := done } dv iv lv', .var⟩ ∧
            Own b2 C lv' done.length 1 lvs ∧ ∀ (i : Nat) b, done[i]? = some b → ∃ w, lvs[i]? = some w ∧ Slc eU8 (arrHq b2 C) w b)
        (fun z e C => Fr (fun l => l = .row bm ∨ l = .row br ∨ famsFrom b2 l) B1 C ∧ CB b2 b2 b5 b6 br bm m C ∧ e.get 5 = .ptr b5 0 ∧ ((Is z (.exit 5) ∧ C.blk[br]? = some ⟨[rv, .int .i64 0], .var⟩ ∧ (arrHq b2 B1).le (arrHq b2 C) ∧
            ∃ lv' l, runsOf x = some l ∧ C.blk[bm]? = some ⟨mc { M with list := l } dv iv lv', .var⟩ ∧ Slc (eSl eU8) (arrHq b2 C) lv' l) ∨ (Is z (.exit 0) ∧ RdE b2 bm br kk.toNat s C)))
        ⟨_, f2.mono fun _ q => q.elim, c2, f2.row0 rrow1, rfl, rfl, rfl, le2, [], x, xv, .snil, [], rfl, r2, hx, by simp, by simp, by rw [← hlist]; exact f2.row0 j1, Own.nil b2 B2 1, by simp⟩ ?_ ?_
      · rintro n e C ⟨fC, cC, rC, h4, h5, h9, leC, done, rest, rv', lv', lvs, rfl, riC, hx', hle, hrun, jC, own, hlv⟩
        have ldi := ldR riC
        have xlen' := fun B => hx'.len (P := Try.prog) Try.underlying38 B
        simp only [RS, xs_some, Option.bind_some, Option.map_some, if_true, if_false, decide_true, decide_false, true_and, and_true, Bool.not_true, Bool.not_false, Bool.false_eq_true, not_false_eq_true, not_true_eq_false, Nat.reduceLT, Nat.reduceBEq, Nat.reduceEqDiff, Nat.reduceAdd, Int.reduceEq, Int.reduceLT, Int.reduceLE, Int.reduceGT, Int.reduceGE, beq_self_eq_true, List.getElem?_toArray, List.getElem?_cons_zero, List.getElem?_cons_succ, List.append_nil, List.nil_append, List.cons_append, List.append_eq, h9, fi, ldi, xlen']
        refine condK_of (fun g6 => ?_) (fun g6 => ?_)
        · have hrne : rest ≠ [] := by rintro rfl; simp at g6
          simp only [RS, xs_some, Option.bind_some, Option.map_some, if_true, if_false, decide_true, decide_false, true_and, and_true, Bool.not_true, Bool.not_false, Bool.false_eq_true, not_false_eq_true, not_true_eq_false, Nat.reduceLT, Nat.reduceBEq, Nat.reduceEqDiff, Nat.reduceAdd, Int.reduceEq, Int.reduceLT, Int.reduceLE, Int.reduceGT, Int.reduceGE, beq_self_eq_true, List.getElem?_toArray, List.getElem?_cons_zero, List.getElem?_cons_succ, List.append_nil, List.nil_append, List.cons_append, List.append_eq, h9]
          obtain ⟨w, D, k1, k2, k3⟩ := rrun_spec cC.on (hno bi hbi1) riC hx' (by omega)
          refine run_call1 k1 ?_
          have cD := cC.fr k2 (by rintro b q; cases q; exact ⟨hbi2.1, hbi2.2.1, hbi2.2.2.1, hno _ hbi1⟩)
          have inBi : Fr (fun l => l = .row bm ∨ l = .row br ∨ famsFrom b2 l) B1 D := fC.trans k2 (by rintro l rfl; exact .inr (by show B1.blk.length ≤ bi; omega))
          have rD := k2.rowNe rC (show br ≠ bi by omega)
          have jD := k2.rowNe jC (show bm ≠ bi by omega)
          have leD := arrHq_le (N := b2) k2 (fun b q => by cases q; exact arrHq_var riC)
          rcases k3 with ⟨k3, rfl, k4⟩ | ⟨y, r', rv2, k3, k4, k5, k6⟩
          · have ldi2 := ldR k4
            have hp : putM M t x = .error 20 := by
              unfold putM; rw [if_neg hx0, if_neg ht6, if_neg ht7, if_neg ht8, if_neg ht9', hrun, runsOf_none hrne k3]; rfl
            obtain ⟨C', y1, y2, y3, y4⟩ := fail cD rD jD hid hp (by decide)
            simp only [RS, xs_some, Option.bind_some, Option.map_some, if_true, if_false, decide_true, decide_false, true_and, and_true, Bool.not_true, Bool.not_false, Bool.false_eq_true, not_false_eq_true, not_true_eq_false, Nat.reduceLT, Nat.reduceBEq, Nat.reduceEqDiff, Nat.reduceAdd, Int.reduceEq, Int.reduceLT, Int.reduceLE, Int.reduceGT, Int.reduceGE, beq_self_eq_true, List.getElem?_toArray, List.getElem?_cons_zero, List.getElem?_cons_succ, List.append_nil, List.nil_append, List.cons_append, List.append_eq, h9, fi, ldi2]
            rw [pl_30_32, run_plan_id (by rfl)]
            simp only [RS, xs_some, Option.bind_some, Option.map_some, if_true, if_false, decide_true, decide_false, true_and, and_true, Bool.not_true, Bool.not_false, Bool.false_eq_true, not_false_eq_true, not_true_eq_false, Nat.reduceLT, Nat.reduceBEq, Nat.reduceEqDiff, Nat.reduceAdd, Int.reduceEq, Int.reduceLT, Int.reduceLE, Int.reduceGT, Int.reduceGE, beq_self_eq_true, List.getElem?_toArray, List.getElem?_cons_zero, List.getElem?_cons_succ, List.append_nil, List.nil_append, List.cons_append, List.append_eq, h5, h9, ld5 cD, fr, fi, ldi2, y1]
            exact ⟨inBi.thn (inBr y2), y3, .inr ⟨rfl, y4⟩⟩
          · have ldi2 := ldR k5
            have hl3 := takeB_len k3
            have ldd := ldM jD hid
            simp only [RS, xs_some, Option.bind_some, Option.map_some, if_true, if_false, decide_true, decide_false, true_and, and_true, Bool.not_true, Bool.not_false, Bool.false_eq_true, not_false_eq_true, not_true_eq_false, Nat.reduceLT, Nat.reduceBEq, Nat.reduceEqDiff, Nat.reduceAdd, Int.reduceEq, Int.reduceLT, Int.reduceLE, Int.reduceGT, Int.reduceGE, beq_self_eq_true, List.getElem?_toArray, List.getElem?_cons_zero, List.getElem?_cons_succ, List.append_nil, List.nil_append, List.cons_append, List.append_eq, h9, fi, ldi2]
            simp only [RS, xs_some, Option.bind_some, Option.map_some, if_true, if_false, decide_true, decide_false, true_and, and_true, Bool.not_true, Bool.not_false, Bool.false_eq_true, not_false_eq_true, not_true_eq_false, Nat.reduceLT, Nat.reduceBEq, Nat.reduceEqDiff, Nat.reduceAdd, Int.reduceEq, Int.reduceLT, Int.reduceLE, Int.reduceGT, Int.reduceGE, beq_self_eq_true, List.getElem?_toArray, List.getElem?_cons_zero, List.getElem?_cons_succ, List.append_nil, List.nil_append, List.cons_append, List.append_eq, pl_30_33, h4, faB, ldd, bsl0, rc_nil]
            have o2 := Own.new (N := D.blk.length) (n := 0) (sz := 1) (cs := []) cD.wf (Nat.le_refl _) rfl rfl
            have q1 := Fr.pushArr D []
            have onP := cD.on.fr0 q1
            have wP := q1.wf cD.wf
            have nP := q1.len
            generalize D.push ⟨[], .arr D.blk.length 0⟩ = F at *
            obtain ⟨v1, G, p1, p2, p3⟩ := o2.app sl38 wP nP (src_bytes (P := Try.prog) (tx := 38) Try.underlying38 k4 onP) (by rw [List.length_map, Nat.mul_one]) (bc_one y) (by omega) (by omega)
            have fDG := q1.after0 p3
            have inFamN : ∀ {X Y : AS} {n : Nat}, b2 ≤ n → Fr (famsFrom n) X Y → Fr (fun l => l = .row bm ∨ l = .row br ∨ famsFrom b2 l) X Y := fun hn q => q.mono fun l z => .inr (.inr (by
              cases l <;> first | exact Nat.le_trans hn z | exact z))
            have cG := cD.fr fDG (fun b q => q.elim)
            have jG := fDG.fam_row jD
            have rG := fDG.fam_row rD
            have iG := fDG.fam_row k5
            have leG := arrHq_le (N := b2) fDG (fun b q => q.elim)
            have ownG := (own.frRow k2 riC).fams0 (Nat.le_refl _) fDG
            have ldg := ldM jG hid
            have p2' : Own D.blk.length G v1 y.length 1 (bc y) := p2.cast (by omega) rfl
            obtain ⟨v2, K, u1, u2, u3⟩ := ownG.appNew (k := 1) (new := [v1]) sl33 Try.underlying33 cG.wf cG.len rfl (by simp [p2'.one]) (by omega) (by omega)
            have cK := cG.fr u3 (fun b q => q.elim)
            have jK := u3.fam_row jG
            have rK := u3.fam_row rG
            have iK := u3.fam_row iG
            have leK := arrHq_le (N := b2) u3 (fun b q => q.elim)
            obtain ⟨E, y1, y2, y3⟩ := setM (o := 40) (t := 33) (w := v2) (cs := [v2]) jK hid u2.cells1 sz33 (by simp) (by simp [u2.one])
            rw [mc_list (x := { M with list := done }) hid (done ++ [y])] at y3
            have cE := cbm cK y2
            have rE := y2.rowNe rK (show br ≠ bm by omega)
            have iE := y2.rowNe iK (show bi ≠ bm from hbi2.2.2.2.2)
            have leE := arrHq_le (N := b2) y2 (fun b q => by cases q; exact arrHq_var jK)
            have leGE := Hp.le_trans leK leE
            have hv1 := (p2'.arrBtsQ cD.len).mono leGE
            simp only [RS, xs_some, Option.bind_some, Option.map_some, if_true, if_false, decide_true, decide_false, true_and, and_true, Bool.not_true, Bool.not_false, Bool.false_eq_true, not_false_eq_true, not_true_eq_false, Nat.reduceLT, Nat.reduceBEq, Nat.reduceEqDiff, Nat.reduceAdd, Int.reduceEq, Int.reduceLT, Int.reduceLE, Int.reduceGT, Int.reduceGE, beq_self_eq_true, List.getElem?_toArray, List.getElem?_cons_zero, List.getElem?_cons_succ, List.append_nil, List.nil_append, List.cons_append, List.append_eq, p1, rc_nil]
            refine ⟨rc_load (ha := rfl) rfl ldg.2.2.2.2.2.2.2.2.2.1 rfl rc_nil, ?_⟩
            simp only [RS, xs_some, Option.bind_some, Option.map_some, if_true, if_false, decide_true, decide_false, true_and, and_true, Bool.not_true, Bool.not_false, Bool.false_eq_true, not_false_eq_true, not_true_eq_false, Nat.reduceLT, Nat.reduceBEq, Nat.reduceEqDiff, Nat.reduceAdd, Int.reduceEq, Int.reduceLT, Int.reduceLE, Int.reduceGT, Int.reduceGE, beq_self_eq_true, List.getElem?_toArray, List.getElem?_cons_zero, List.getElem?_cons_succ, List.append_nil, List.nil_append, List.cons_append, List.append_eq, bslV p2'.form, u1, h4, faB, y1, rc_nil]
            refine ⟨r'.length, by omega, (((inBi.thn (inFamN cD.len fDG))).thn (inFam u3)).thn (inBm y2), cE, rE, h5, h9, Hp.le_trans leC (Hp.le_trans leD (Hp.le_trans leG leGE)), done ++ [y], r', rv2, v2, lvs ++ [v1], rfl, iE, k6, by rw [List.length_append]; simp; omega, ?_, y3, (u2.frRow y2 jK).cast (by simp) rfl, ?_⟩
            · rw [hrun, runsOf_some k3]
              cases runsOf r' <;> simp
            · intro j bb hj
              have hln : lvs.length = done.length := by have := own.1; omega
              rcases Nat.lt_or_ge j done.length with q | q
              · rw [List.getElem?_append_left q] at hj
                obtain ⟨w', z1, z2⟩ := hlv j bb hj
                exact ⟨w', by rw [List.getElem?_append_left (by omega)]; exact z1, z2.mono (Hp.le_trans leD (Hp.le_trans leG leGE))⟩
              · have hj' := (List.getElem?_eq_some_iff.1 hj).1
                simp only [List.length_append, List.length_singleton] at hj'
                have : j = done.length := by omega
                subst this
                simp at hj
                subst hj
                exact ⟨v1, by rw [← hln]; simp, hv1⟩
        · have : rest = [] := List.eq_nil_of_length_eq_zero (by omega)
          subst this
          simp only [RS, xs_some, Option.bind_some, Option.map_some, if_true, if_false, decide_true, decide_false, true_and, and_true, Bool.not_true, Bool.not_false, Bool.false_eq_true, not_false_eq_true, not_true_eq_false, Nat.reduceLT, Nat.reduceBEq, Nat.reduceEqDiff, Nat.reduceAdd, Int.reduceEq, Int.reduceLT, Int.reduceLE, Int.reduceGT, Int.reduceGE, beq_self_eq_true, List.getElem?_toArray, List.getElem?_cons_zero, List.getElem?_cons_succ, List.append_nil, List.nil_append, List.cons_append, List.append_eq]
          rw [runsOf_nil] at hrun
          refine ⟨fC, cC, h5, .inl ⟨rfl, rC, leC, lv', done, by rw [hrun]; simp, jC, Own.arrHq (E := eSl eU8) own (Nat.le_refl _) rfl fun j bb hj => ?_⟩⟩
          obtain ⟨w', z1, z2⟩ := hlv j bb hj
          refine ⟨w', ?_, z2⟩
          show (lvs.drop (j * 1)).take 1 = _
          rw [Nat.mul_one, List.take_one, List.head?_drop, z1]; rfl
      · rintro z e C hz ⟨fC, cC, h5, ⟨rfl, rC, leC, lv', l, hrun, jC, hlv⟩ | ⟨rfl, hE⟩⟩
        · have ldr' := ldR rC
          have hp : putM M t x = .ok { M with list := l } := by
            unfold putM; rw [if_neg hx0, if_neg ht6, if_neg ht7, if_neg ht8, if_neg ht9', hrun]; simp only [hlist, List.nil_append]
          simp only [RS, xs_some, Option.bind_some, Option.map_some, if_true, if_false, decide_true, decide_false, true_and, and_true, Bool.not_true, Bool.not_false, Bool.false_eq_true, not_false_eq_true, not_true_eq_false, Nat.reduceLT, Nat.reduceBEq, Nat.reduceEqDiff, Nat.reduceAdd, Int.reduceEq, Int.reduceLT, Int.reduceLE, Int.reduceGT, Int.reduceGE, beq_self_eq_true, List.getElem?_toArray, List.getElem?_cons_zero, List.getElem?_cons_succ, List.append_nil, List.nil_append, List.cons_append, List.append_eq, h5, ld5 cC, fr, ldr']
          refine ⟨fC, .inl ⟨rfl, ⟨cC, RdJ.step hi j2 j4 hp jC ⟨_, rC⟩ ⟨hid, j3.data.mono leC, j3.ids.mono leC, hlv⟩ (fun q => absurd q (by simp only []; omega)) (fun q => absurd q (by simp only []; omega))⟩, ?_⟩⟩
          rintro r rfl
          rw [rC, rrow]
        · simp only [RS, xs_some, Option.bind_some, Option.map_some, if_true, if_false, decide_true, decide_false, true_and, and_true, Bool.not_true, Bool.not_false, Bool.false_eq_true, not_false_eq_true, not_true_eq_false, Nat.reduceLT, Nat.reduceBEq, Nat.reduceEqDiff, Nat.reduceAdd, Int.reduceEq, Int.reduceLT, Int.reduceLE, Int.reduceGT, Int.reduceGE, beq_self_eq_true, List.getElem?_toArray, List.getElem?_cons_zero, List.getElem?_cons_succ, List.append_nil, List.nil_append, List.cons_append, List.append_eq]
          exact ⟨fC, .inr ⟨rfl, cC, hE⟩⟩
    · rintro B ⟨c1, M, dv, iv, lv, j1, _, j2, j3, _⟩ ⟨rv, rrow⟩
      refine ⟨c1, ?_⟩
      rw [List.take_length] at j2
      have hrest := restM_of_ok j2
      by_cases hc : (items 0 s).2 = 0
      · rw [if_neg (by simpa using hc)] at hrest
        rw [hc] at rrow
        exact .inr ⟨rv, M, dv, iv, lv, rrow, hrest, j1, j3⟩
      · rw [if_pos hc] at hrest
        exact .inl ⟨rv, _, hc, rrow, hrest, M, dv, iv, lv, j1, j3.id⟩
    · rintro B ⟨cB, hE⟩ hfB
      have fB : Fr S0 A B := fA6.trans hfB (by
        rintro l (rfl | rfl | q)
        · exact .inr (by show A.blk.length ≤ bm; omega)
        · exact .inr (by show A.blk.length ≤ br; omega)
        · rw [← hN] at q
          cases l <;> first | exact .inr q | exact q.elim)
      have ld5 : ∀ {C}, CB b2 b2 b5 b6 br bm m C → evLoad Try.prog 136 (.ptr b5 0) C = some (.ptr br 0) := fun q => load_one ag136 q.r5
      have fr := faR br
      -- an error is handed back
      have fin : ∀ {C : AS} {c : Int} {rv : V}, CB b2 b2 b5 b6 br bm m C → Fr S0 A C → c ≠ 0 → readM (kk :: s) = .error c →
          ∃ C', evStore Try.prog 41 (.ptr b2 0) (.agg mcZ) C = some C' ∧ CB b2 b2 b5 b6 br bm m C' ∧ Fr (· = .row b2) C C' ∧ evLoad Try.prog 41 (.ptr b2 0) C' = some (.agg mcZ) ∧ Fr S0 A C' ∧ RdOutN b2 (kk :: s) (.tup [.agg mcZ, .int .i64 c]) C' := by
        intro C c rv z1 z2 z3 z4
        obtain ⟨C', y1, y2, y3⟩ := setM (o := 0) (t := 41) (w := .agg mcZ) (cs := mcZ) z1.r2 zid rfl sz41 (by decide) rfl
        rw [putAt_all rfl] at y3
        exact ⟨C', y1, ⟨y3, y2.rowNe z1.r5 (by omega), y2.rowNe z1.r6 (by omega), z1.on.row y2 (hno _ (Nat.le_refl _)), y2.wf z1.wf, by have := y2.len; have := z1.len; omega⟩, y2, (ldM y3 zid).2.2.2.2.2.2.2.2.2.2, z2.row_ y2 (by omega), rdOutN_bad z4⟩
      rcases hE with ⟨rv, c, q1, q2, q3, M, dv, iv, lv, q4, q5⟩ | ⟨rv, M, dv, iv, lv, q1, q2, q3, q4⟩
      · have ldr' := ldR q2
        have hrd : readM (kk :: s) = .error c := by rw [hread, q3]
        obtain ⟨C', y1, y2, y3, y4, y5, y6⟩ := fin (rv := rv) cB fB q1 hrd
        have row' := y3.rowNe q2 (show br ≠ b2 by omega)
        have ldr2 := ldR row'
        simp only [RS, xs_some, Option.bind_some, Option.map_some, if_true, if_false, decide_true, decide_false, true_and, and_true, Bool.not_true, Bool.not_false, Bool.false_eq_true, not_false_eq_true, not_true_eq_false, Nat.reduceLT, Nat.reduceBEq, Nat.reduceEqDiff, Nat.reduceAdd, Int.reduceEq, Int.reduceLT, Int.reduceLE, Int.reduceGT, Int.reduceGE, beq_self_eq_true, List.getElem?_toArray, List.getElem?_cons_zero, List.getElem?_cons_succ, List.append_nil, List.nil_append, List.cons_append, List.append_eq, ld5 cB, fr, ldr', q1]
        simp only [RS, xs_some, Option.bind_some, Option.map_some, if_true, if_false, decide_true, decide_false, true_and, and_true, Bool.not_true, Bool.not_false, Bool.false_eq_true, not_false_eq_true, not_true_eq_false, Nat.reduceLT, Nat.reduceBEq, Nat.reduceEqDiff, Nat.reduceAdd, Int.reduceEq, Int.reduceLT, Int.reduceLE, Int.reduceGT, Int.reduceGE, beq_self_eq_true, List.getElem?_toArray, List.getElem?_cons_zero, List.getElem?_cons_succ, List.append_nil, List.nil_append, List.cons_append, List.append_eq, pl_30_38, bldM0, ld5 cB, fr, ldr', y1, rc_nil]
        refine ⟨rc_load (ha := rfl) rfl (ld5 y2) rfl (rc_load (ha := rfl) rfl ldr2.2 rfl rc_nil), ?_⟩
        simp only [RS, xs_some, Option.bind_some, Option.map_some, if_true, if_false, decide_true, decide_false, true_and, and_true, Bool.not_true, Bool.not_false, Bool.false_eq_true, not_false_eq_true, not_true_eq_false, Nat.reduceLT, Nat.reduceBEq, Nat.reduceEqDiff, Nat.reduceAdd, Int.reduceEq, Int.reduceLT, Int.reduceLE, Int.reduceGT, Int.reduceGE, beq_self_eq_true, List.getElem?_toArray, List.getElem?_cons_zero, List.getElem?_cons_succ, List.append_nil, List.nil_append, List.cons_append, List.append_eq, y4, rc_nil]
        exact ⟨y5, y6⟩
      · have ldr' := ldR q1
        have ldm := ldM q3 q4.id
        have hsz := restM_sz q2
        have hz0 : szM (msg0 kk.toNat) = 0 := rfl
        have hsized : Sized M := ⟨by simp only [szM] at hsz hz0; omega, by simp only [szM] at hsz hz0; omega, by simp only [szM] at hsz hz0; omega, fun b hb => by have := len_le_lens hb; simp only [szM] at hsz hz0; omega⟩
        obtain ⟨_, C, k1, rfl, k2⟩ := check_spec (arrHq_on b2 B) q4 hsized.ids hsized.data hsized.list hsized.each
        have cC := cB.fr k2 (fun b q => q.elim)
        have rC := k2.row0 q1
        obtain ⟨D, y1, y2, y3⟩ := setBad (n := checkM M) rC
        have cD := cC.fr y2 (by rintro b q; cases q; exact ⟨by omega, by omega, by omega, hno _ (by omega)⟩)
        have fD := (fB.then0 k2).row_ y2 (by omega)
        have ldd := ldR y3
        simp only [RS, xs_some, Option.bind_some, Option.map_some, if_true, if_false, decide_true, decide_false, true_and, and_true, Bool.not_true, Bool.not_false, Bool.false_eq_true, not_false_eq_true, not_true_eq_false, Nat.reduceLT, Nat.reduceBEq, Nat.reduceEqDiff, Nat.reduceAdd, Int.reduceEq, Int.reduceLT, Int.reduceLE, Int.reduceGT, Int.reduceGE, beq_self_eq_true, List.getElem?_toArray, List.getElem?_cons_zero, List.getElem?_cons_succ, List.append_nil, List.nil_append, List.cons_append, List.append_eq, ld5 cB, fr, ldr']
        simp only [RS, xs_some, Option.bind_some, Option.map_some, if_true, if_false, decide_true, decide_false, true_and, and_true, Bool.not_true, Bool.not_false, Bool.false_eq_true, not_false_eq_true, not_true_eq_false, Nat.reduceLT, Nat.reduceBEq, Nat.reduceEqDiff, Nat.reduceAdd, Int.reduceEq, Int.reduceLT, Int.reduceLE, Int.reduceGT, Int.reduceGE, beq_self_eq_true, List.getElem?_toArray, List.getElem?_cons_zero, List.getElem?_cons_succ, List.append_nil, List.nil_append, List.cons_append, List.append_eq, pl_30_36, ld5 cB, ldm, rc_nil]
        refine run_call1 k1 ?_
        simp only [RS, xs_some, Option.bind_some, Option.map_some, if_true, if_false, decide_true, decide_false, true_and, and_true, Bool.not_true, Bool.not_false, Bool.false_eq_true, not_false_eq_true, not_true_eq_false, Nat.reduceLT, Nat.reduceBEq, Nat.reduceEqDiff, Nat.reduceAdd, Int.reduceEq, Int.reduceLT, Int.reduceLE, Int.reduceGT, Int.reduceGE, beq_self_eq_true, List.getElem?_toArray, List.getElem?_cons_zero, List.getElem?_cons_succ, List.append_nil, List.nil_append, List.cons_append, List.append_eq, rc_nil]
        refine ⟨rc_load (ha := rfl) rfl (ld5 cC) rfl rc_nil, ?_⟩
        simp only [RS, xs_some, Option.bind_some, Option.map_some, if_true, if_false, decide_true, decide_false, true_and, and_true, Bool.not_true, Bool.not_false, Bool.false_eq_true, not_false_eq_true, not_true_eq_false, Nat.reduceLT, Nat.reduceBEq, Nat.reduceEqDiff, Nat.reduceAdd, Int.reduceEq, Int.reduceLT, Int.reduceLE, Int.reduceGT, Int.reduceGE, beq_self_eq_true, List.getElem?_toArray, List.getElem?_cons_zero, List.getElem?_cons_succ, List.append_nil, List.nil_append, List.cons_append, List.append_eq, fr, y1, ld5 cD, ldd, rc_nil]
        refine condK_of (fun g => ?_) (fun g => ?_)
        · have hrd : readM (kk :: s) = .error (checkM M) := by rw [hread, q2]; simp only []; rw [if_pos g]
          obtain ⟨E, z1, z2, z3, z4, z5, z6⟩ := fin (rv := rv) cD fD g hrd
          have row' := z3.rowNe y3 (show br ≠ b2 by omega)
          have ldr2 := ldR row'
          simp only [RS, xs_some, Option.bind_some, Option.map_some, if_true, if_false, decide_true, decide_false, true_and, and_true, Bool.not_true, Bool.not_false, Bool.false_eq_true, not_false_eq_true, not_true_eq_false, Nat.reduceLT, Nat.reduceBEq, Nat.reduceEqDiff, Nat.reduceAdd, Int.reduceEq, Int.reduceLT, Int.reduceLE, Int.reduceGT, Int.reduceGE, beq_self_eq_true, List.getElem?_toArray, List.getElem?_cons_zero, List.getElem?_cons_succ, List.append_nil, List.nil_append, List.cons_append, List.append_eq]
          simp only [RS, xs_some, Option.bind_some, Option.map_some, if_true, if_false, decide_true, decide_false, true_and, and_true, Bool.not_true, Bool.not_false, Bool.false_eq_true, not_false_eq_true, not_true_eq_false, Nat.reduceLT, Nat.reduceBEq, Nat.reduceEqDiff, Nat.reduceAdd, Int.reduceEq, Int.reduceLT, Int.reduceLE, Int.reduceGT, Int.reduceGE, beq_self_eq_true, List.getElem?_toArray, List.getElem?_cons_zero, List.getElem?_cons_succ, List.append_nil, List.nil_append, List.cons_append, List.append_eq, pl_30_38, bldM0, ld5 cD, fr, ldd, z1, rc_nil]
          refine ⟨rc_load (ha := rfl) rfl (ld5 z2) rfl (rc_load (ha := rfl) rfl ldr2.2 rfl rc_nil), ?_⟩
          simp only [RS, xs_some, Option.bind_some, Option.map_some, if_true, if_false, decide_true, decide_false, true_and, and_true, Bool.not_true, Bool.not_false, Bool.false_eq_true, not_false_eq_true, not_true_eq_false, Nat.reduceLT, Nat.reduceBEq, Nat.reduceEqDiff, Nat.reduceAdd, Int.reduceEq, Int.reduceLT, Int.reduceLE, Int.reduceGT, Int.reduceGE, beq_self_eq_true, List.getElem?_toArray, List.getElem?_cons_zero, List.getElem?_cons_succ, List.append_nil, List.nil_append, List.cons_append, List.append_eq, z4, rc_nil]
          exact ⟨z5, z6⟩
        · have hrd : readM (kk :: s) = .ok M := by rw [hread, q2]; simp only []; rw [if_neg g]
          have mD := y2.rowNe (k2.row0 q3) (show bm ≠ br by omega)
          have ldmD := ldM mD q4.id
          obtain ⟨E, z1, z2, z3⟩ := setM (o := 0) (t := 41) (w := .agg (mc M dv iv lv)) (cs := mc M dv iv lv) cD.r2 zid rfl (by rw [mc_len q4.id]; exact sz41) (by rw [mc_len q4.id]; decide) (mc_one q4)
          rw [putAt_all (by rw [mc_len zid, mc_len q4.id])] at z3
          have lde := (ldM z3 q4.id).2.2.2.2.2.2.2.2.2.2
          simp only [RS, xs_some, Option.bind_some, Option.map_some, if_true, if_false, decide_true, decide_false, true_and, and_true, Bool.not_true, Bool.not_false, Bool.false_eq_true, not_false_eq_true, not_true_eq_false, Nat.reduceLT, Nat.reduceBEq, Nat.reduceEqDiff, Nat.reduceAdd, Int.reduceEq, Int.reduceLT, Int.reduceLE, Int.reduceGT, Int.reduceGE, beq_self_eq_true, List.getElem?_toArray, List.getElem?_cons_zero, List.getElem?_cons_succ, List.append_nil, List.nil_append, List.cons_append, List.append_eq, ldmD, z1, lde]
          have le1 := arrHq_le (N := b2) k2 (fun b q => q.elim)
          have le2 := arrHq_le (N := b2) y2 (fun b q => by cases q; exact arrHq_var rC)
          have le3 := arrHq_le (N := b2) z2 (fun b q => by cases q; exact arrHq_var cD.r2)
          exact ⟨fD.row_ z2 (by omega), rdOutN_ok hrd (q4.mono (Hp.le_trans le1 (Hp.le_trans le2 le3)))⟩
theorem read_spec {m : Hp} {A : AS} {v : V} {b : Bts} (hw : WF A) (hm : m.on A) (h : Slc eU8 m v b) (hb : b.length ≤ 1000000000000) :
    ∃ w A', EvF Try.prog HH 30 [v] A w A' ∧ Fr S0 A A' ∧ RdOut b w A' := by
  obtain ⟨w, A', h1, h2, dv, iv, lv, h3, h4⟩ := read_specN hw hm h hb
  exact ⟨w, A', h1, h2, dv, iv, lv, h3, h4.mono (arrHq_arr _ _)⟩
end Go.Sv.Try
