/- How raw bytes are read as a message: plain. -/
import Derived.Test.YtnogkphkjkbbhaaPack
import Derived.Test.YtnogkphkjkbbhaaSv4
namespace Go.Sv
open Go
set_option linter.unusedVariables false
def takeB : Bts → Option (Bts × Bts)
  | a :: b :: c :: r => if a.toNat * 65536 + b.toNat * 256 + c.toNat > r.length then none else some (r.take (a.toNat * 65536 + b.toNat * 256 + c.toNat), r.drop (a.toNat * 65536 + b.toNat * 256 + c.toNat))
  | _ => none
theorem takeB_len {s x r : Bts} (h : takeB s = some (x, r)) : s.length = x.length + r.length + 3 ∧ x.length ≤ 16777215 := by
  match s, h with
  | a :: b :: c :: q, h =>
    simp only [takeB] at h
    split at h
    · simp at h
    · simp only [Option.some.injEq, Prod.mk.injEq] at h
      obtain ⟨rfl, rfl⟩ := h
      have h1 := a.toNat_lt; have h2 := b.toNat_lt; have h3 := c.toNat_lt
      simp only [List.length_cons, List.length_take, List.length_drop]
      omega
def runsOf (s : Bts) : Option (List Bts) := if s = [] then some [] else match h : takeB s with
  | none => none
  | some (x, r) => (runsOf r).map (x :: ·)
termination_by s.length
decreasing_by have := takeB_len h; omega
def chunk32 (s : Bts) : List Bts := if s = [] then [] else s.take 32 :: chunk32 (s.drop 32)
termination_by s.length
decreasing_by
  rename_i h
  have : s.length ≠ 0 := fun q => h (List.eq_nil_of_length_eq_zero q)
  simp only [List.length_drop]; omega
def valOf (s : Bts) : Nat := s.foldl (fun n x => n * 256 + x.toNat) 0
def numOf (s : Bts) : Option Nat := if s = [] ∨ s[0]? = some 0 ∨ s.length > 6 ∨ valOf s > 1099511627776 then none else some (valOf s)
def setNum (m : M) (t : Nat) (n : Int) : M := match t with
  | 1 => { m with who := n }
  | 2 => { m with height := n }
  | 3 => { m with round := n }
  | 4 => { m with valid := n }
  | _ => { m with num := n }
def putM (m : M) (t : Nat) (x : Bts) : Except Int M :=
  if x = [] then .error 23
  else if t < 6 then (match numOf x with | none => .error 23 | some n => .ok (setNum m t n))
  else if t = 6 then (if x.length ≠ 32 ∨ x = zero32 then .error 23 else .ok { m with id := x })
  else if t = 7 then .ok { m with data := x }
  else if t = 8 then (if x.length % 32 ≠ 0 then .error 23 else .ok { m with ids := m.ids ++ chunk32 x })
  else (match runsOf x with | none => .error 20 | some l => .ok { m with list := m.list ++ l })
def items (last : Nat) (s : Bts) : List (Nat × Bts) × Int := match s with
  | [] => ([], 0)
  | t :: r => if t.toNat ≤ last ∨ t.toNat > 9 then ([], 21) else match h : takeB r with
    | none => ([], 20)
    | some (x, r') => ((t.toNat, x) :: (items t.toNat r').1, (items t.toNat r').2)
termination_by s.length
decreasing_by
  all_goals (have := takeB_len h; simp only [List.length_cons]; omega)
theorem items_nil (last : Nat) : items last [] = ([], 0) := by rw [items]
theorem items_tag {last : Nat} {t : UInt8} {r : Bts} (h : t.toNat ≤ last ∨ t.toNat > 9) : items last (t :: r) = ([], 21) := by rw [items, if_pos h]
theorem items_short {last : Nat} {t : UInt8} {r : Bts} (h : ¬ (t.toNat ≤ last ∨ t.toNat > 9)) (hr : takeB r = none) : items last (t :: r) = ([], 20) := by
  rw [items, if_neg h]; split
  · rfl
  · rename_i q; rw [hr] at q; simp at q
theorem items_more {last : Nat} {t : UInt8} {r x r' : Bts} (h : ¬ (t.toNat ≤ last ∨ t.toNat > 9)) (hr : takeB r = some (x, r')) : items last (t :: r) = ((t.toNat, x) :: (items t.toNat r').1, (items t.toNat r').2) := by
  rw [items, if_neg h]; split
  · rename_i q; rw [hr] at q; simp at q
  · rename_i q; rw [hr] at q; cases q; rfl
def putAll (m : M) : List (Nat × Bts) → Except Int M
  | [] => .ok m
  | (t, x) :: l => match putM m t x with
    | .error e => .error e
    | .ok m' => putAll m' l
theorem putAll_app {m m' : M} : ∀ {l r : List (Nat × Bts)}, putAll m l = .ok m' → putAll m (l ++ r) = putAll m' r
  | [], r, h => by simp [putAll] at h; subst h; rfl
  | (t, x) :: l, r, h => by
    simp only [putAll, List.cons_append] at h ⊢
    split at h
    · simp at h
    · rename_i q; exact putAll_app h
def restM (m : M) (last : Nat) (s : Bts) : Except Int M := match putAll m (items last s).1 with
  | .error e => .error e
  | .ok m' => if (items last s).2 ≠ 0 then .error (items last s).2 else .ok m'
def msg0 (k : Int) : M := ⟨k, 0, 0, 0, 0, 0, zero32, [], [], []⟩
theorem items_gt : ∀ (n : Nat) (s : Bts) (last : Nat), s.length ≤ n → ∀ f ∈ (items last s).1, last < f.1 ∧ f.1 ≤ 9 := by
  intro n
  induction n with
  | zero =>
    intro s last hs f hf
    have : s = [] := List.eq_nil_of_length_eq_zero (by omega)
    subst this; rw [items_nil] at hf; simp at hf
  | succ n ih =>
    intro s last hs f hf
    match s with
    | [] => rw [items_nil] at hf; simp at hf
    | t :: r =>
      by_cases h : t.toNat ≤ last ∨ t.toNat > 9
      · rw [items_tag h] at hf; simp at hf
      · cases hr : takeB r with
        | none => rw [items_short h hr] at hf; simp at hf
        | some p =>
          obtain ⟨x, r'⟩ := p
          rw [items_more h hr] at hf
          rcases List.mem_cons.1 hf with rfl | hf
          · exact ⟨by simp only []; omega, by simp only []; omega⟩
          · have hl := takeB_len hr
            have := ih r' t.toNat (by simp only [List.length_cons] at hs; omega) f hf
            omega
theorem items_rise : ∀ (n : Nat) (s : Bts) (last i : Nat) (f g : Nat × Bts), s.length ≤ n → (items last s).1[i]? = some f → (items last s).1[i + 1]? = some g → f.1 < g.1 := by
  intro n
  induction n with
  | zero =>
    intro s last i f g hs hf
    have : s = [] := List.eq_nil_of_length_eq_zero (by omega)
    subst this; rw [items_nil] at hf; simp at hf
  | succ n ih =>
    intro s last i f g hs hf hg
    match s with
    | [] => rw [items_nil] at hf; simp at hf
    | t :: r =>
      by_cases h : t.toNat ≤ last ∨ t.toNat > 9
      · rw [items_tag h] at hf; simp at hf
      · cases hr : takeB r with
        | none => rw [items_short h hr] at hf; simp at hf
        | some p =>
          obtain ⟨x, r'⟩ := p
          rw [items_more h hr] at hf hg
          have hl := takeB_len hr
          simp only [List.length_cons] at hs
          cases i with
          | zero =>
            simp at hf hg; subst hf
            have := items_gt n r' t.toNat (by omega) g (List.mem_of_getElem? (by simpa using hg))
            exact this.1
          | succ i => exact ih r' t.toNat i f g (by omega) (by simpa using hf) (by simpa using hg)
theorem putAll_snoc {m m' m'' : M} {l : List (Nat × Bts)} {i : Nat} {f : Nat × Bts} (h : putAll m (l.take i) = .ok m') (hf : l[i]? = some f) (hp : putM m' f.1 f.2 = .ok m'') : putAll m (l.take (i + 1)) = .ok m'' := by
  rw [List.take_add_one, hf, putAll_app h]
  obtain ⟨t, x⟩ := f
  simp only [Option.toList_some, putAll, hp]
end Go.Sv
namespace Go.Sv.Try
open Go Go.Proofs
set_option linter.unusedVariables false
set_option linter.unusedSimpArgs false
end Go.Sv.Try
namespace Go.Sv.Try
open Go Go.Proofs
set_option linter.unusedVariables false
set_option linter.unusedSimpArgs false
end Go.Sv.Try
namespace Go.Sv.Try
open Go Go.Proofs
set_option linter.unusedVariables false
set_option linter.unusedSimpArgs false
abbrev mcZ : List V := mc (msg0 0) .snil .snil .snil
abbrev ptrs (b : Nat) : List V := [.ptr b 1, .ptr b 2, .ptr b 3, .ptr b 4, .ptr b 5]
theorem bsl0 : bsl Try.prog 38 0 (some []) = some (.newSl [] 0 1) := by kernel_rfl
structure CB (N b2 b5 b6 br bm : Nat) (m : Hp) (B : AS) : Prop where
  r2 : B.blk[b2]? = some ⟨mcZ, .var⟩
  r5 : B.blk[b5]? = some ⟨[.ptr br 0], .var⟩
  r6 : B.blk[b6]? = some ⟨ptrs bm, .var⟩
  on : m.on B
  wf : WF B
  len : N ≤ B.blk.length
theorem CB.fr {N b2 b5 b6 br bm : Nat} {m : Hp} {S : Loc → Prop} {B C : AS} (h : CB N b2 b5 b6 br bm m B) (hf : Fr S B C) (h1 : ∀ b, S (.row b) → b ≠ b2 ∧ b ≠ b5 ∧ b ≠ b6 ∧ m b = none) : CB N b2 b5 b6 br bm m C :=
  ⟨hf.row _ _ h.r2 fun q => (h1 _ q).1 rfl, hf.row _ _ h.r5 fun q => (h1 _ q).2.1 rfl, hf.row _ _ h.r6 fun q => (h1 _ q).2.2.1 rfl, h.on.fr hf fun b q => (h1 b q).2.2.2, hf.wf h.wf, by have := hf.len; have := h.len; omega⟩
def RdJ (N bm br : Nat) (k : Int) (xs : List (Nat × Bts)) (i : Nat) (B : AS) : Prop := ∃ (M : Go.Sv.M) (dv iv lv : V), B.blk[bm]? = some ⟨mc M dv iv lv, .var⟩ ∧ (∃ cs, B.blk[br]? = some ⟨cs, .var⟩) ∧ putAll (msg0 k) (xs.take i) = .ok M ∧ MsgIn (arrHq N B) M dv iv lv ∧
  ∀ f, xs[i]? = some f → (f.1 ≤ 8 → iv = .snil ∧ M.ids = []) ∧ lv = .snil ∧ M.list = []
def RdE (N bm br : Nat) (k : Int) (s : Bts) (B : AS) : Prop := (∃ rv c, c ≠ 0 ∧ B.blk[br]? = some ⟨[rv, .int .i64 c], .var⟩ ∧ restM (msg0 k) 0 s = .error c ∧ ∃ (M : Go.Sv.M) (dv iv lv : V), B.blk[bm]? = some ⟨mc M dv iv lv, .var⟩ ∧ M.id.length = 32) ∨
  ∃ (rv : V) (M : Go.Sv.M) (dv iv lv : V), B.blk[br]? = some ⟨[rv, .int .i64 0], .var⟩ ∧ restM (msg0 k) 0 s = .ok M ∧ B.blk[bm]? = some ⟨mc M dv iv lv, .var⟩ ∧ MsgIn (arrHq N B) M dv iv lv
theorem RdJ.fr {N bm br : Nat} {k : Int} {xs : List (Nat × Bts)} {i : Nat} {S : Loc → Prop} {B C : AS} (h : RdJ N bm br k xs i B) (hf : Fr S B C) (h1 : ∀ b, S (.row b) → b = br) (hne : bm ≠ br) : RdJ N bm br k xs i C := by
  obtain ⟨M, dv, iv, lv, q1, ⟨cs, q2⟩, q3, q4, q5⟩ := h
  obtain ⟨cs', z1, _⟩ := hf.kind br _ q2
  exact ⟨M, dv, iv, lv, hf.row _ _ q1 fun z => hne (h1 _ z), ⟨cs', z1⟩, q3, q4.mono (arrHq_le hf fun b z => by rw [h1 b z]; exact arrHq_var q2), q5⟩
theorem RdE.fr {N bm br : Nat} {k : Int} {s : Bts} {S : Loc → Prop} {B C : AS} (h : RdE N bm br k s B) (hf : Fr S B C) (h1 : ∀ b, ¬ S (.row b)) : RdE N bm br k s C := by
  rcases h with ⟨rv, c, q1, q2, q3, M, dv, iv, lv, q4, q5⟩ | ⟨rv, M, dv, iv, lv, q1, q2, q3, q4⟩
  · exact .inl ⟨rv, c, q1, hf.row _ _ q2 (h1 _), q3, M, dv, iv, lv, hf.row _ _ q4 (h1 _), q5⟩
  · exact .inr ⟨rv, M, dv, iv, lv, hf.row _ _ q1 (h1 _), q2, hf.row _ _ q3 (h1 _), q4.mono (arrHq_le hf fun b z => absurd z (h1 b))⟩
theorem RdJ.step {N bm br : Nat} {k : Int} {s : Bts} {i : Nat} {f : Nat × Bts} {C : AS} {M M' : Go.Sv.M} {iv lv dv' iv' lv' : V} (hi : (items 0 s).1[i]? = some f) (h3 : putAll (msg0 k) ((items 0 s).1.take i) = .ok M)
    (h5 : (f.1 ≤ 8 → iv = .snil ∧ M.ids = []) ∧ lv = .snil ∧ M.list = []) (hp : putM M f.1 f.2 = .ok M') (hc : C.blk[bm]? = some ⟨mc M' dv' iv' lv', .var⟩) (hbr : ∃ cs, C.blk[br]? = some ⟨cs, .var⟩) (hM : MsgIn (arrHq N C) M' dv' iv' lv')
    (hiv : f.1 < 8 → iv' = iv ∧ M'.ids = M.ids) (hlv : f.1 < 9 → lv' = lv ∧ M'.list = M.list) : RdJ N bm br k (items 0 s).1 (i + 1) C := by
  refine ⟨M', dv', iv', lv', hc, hbr, putAll_snoc h3 hi hp, hM, fun g hg => ?_⟩
  have h1 := items_rise s.length s 0 i f g (Nat.le_refl _) hi hg
  have h2 := items_gt s.length s 0 (Nat.le_refl _) g (List.mem_of_getElem? hg)
  refine ⟨fun q => ?_, ?_⟩
  · obtain ⟨z1, z2⟩ := hiv (by omega)
    obtain ⟨z3, z4⟩ := h5.1 (by omega)
    exact ⟨z1.trans z3, z2.trans z4⟩
  · obtain ⟨z1, z2⟩ := hlv (by omega)
    exact ⟨z1.trans h5.2.1, z2.trans h5.2.2⟩
end Go.Sv.Try
namespace Go.Sv.Try
open Go Go.Proofs
set_option linter.unusedVariables false
set_option linter.unusedSimpArgs false
end Go.Sv.Try
