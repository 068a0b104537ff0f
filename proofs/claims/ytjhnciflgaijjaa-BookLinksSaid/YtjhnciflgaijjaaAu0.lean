/- Messages as plain data, and how they are written. -/
import Derived.Test.YtjhnciflgaijjaaSv4
set_option linter.unusedSimpArgs false
set_option linter.unusedVariables false
namespace Go.Sv
open Go
structure M where
 kind : Int
 who : Int
 height : Int
 round : Int
 valid : Int
 num : Int
 id : Bts
 data : Bts
 ids : List Bts
 list : List Bts
def M.nums (x : M) : List Int := [x.who, x.height, x.round, x.valid, x.num]
def mc (x : M) (dv iv lv : V) : List V := .int .i64 x.kind :: .int .i64 x.who :: .int .i64 x.height :: .int .i64 x.round :: .int .i64 x.valid :: .int .i64 x.num :: (bc x.id ++ [dv, iv, lv])
theorem Ab5 {x : M} {dv iv lv : V} (h : x.id.length = 32) : (mc x dv iv lv).length = 41 := by simp [mc, Aa5, h]
structure MsgIn (m : Hp) (x : M) (dv iv lv : V) : Prop where
 id : x.id.length = 32
 data : Slc eU8 m dv x.data
 ids : Slc eId m iv x.ids
 list : Slc (eSl eU8) m lv x.list
theorem MsgIn.mono {m m' : Hp} {x : M} {dv iv lv : V} (hm : m.le m') (h : MsgIn m x dv iv lv) : MsgIn m' x dv iv lv := ⟨h.id, h.data.mono hm, h.ids.mono hm, h.list.mono hm⟩
theorem AW5 {k : IntKind} {n : Int} : V.one (.int k n) = true := rfl
theorem Al7 {m : Hp} {x : M} {dv iv lv : V} (h : MsgIn m x dv iv lv) : (mc x dv iv lv).all V.one = true := by
 simp only [mc, List.all_cons, List.all_append, Ae0, h.data.one, h.ids.one, h.list.one, AW5, List.all_nil, Bool.and_self]
def numBad (n : Int) : Bool := decide (n < 0) || decide (n > 1099511627776)
def lens (l : List Bts) : Nat := sumOf List.length l
def checkM (x : M) : Int :=
 if x.kind < 1 ∨ x.kind > 31 then 21
 else if x.nums.any numBad = true then 1
 else if x.ids.length > 64 ∨ x.list.length > 64 ∨ x.data.length + lens x.list > 131072 then 2
 else 0
def digits (n : Nat) : Bts := if h : n = 0 then [] else digits (n / 256) ++ [UInt8.ofNat n]
termination_by n
theorem Ac2 : digits 0 = [] := by unfold digits; rfl
theorem Ae8 {n : Nat} (h : n ≠ 0) : digits n = digits (n / 256) ++ [UInt8.ofNat n] := by rw [digits]; simp [h]
theorem Aq2 {n : Nat} : digits n = [] ↔ n = 0 := by
 constructor
 . intro h
   by_cases q : n = 0
   . exact q
   . rw [Ae8 q] at h; simp at h
 . rintro rfl; exact Ac2
theorem Aq3 : ∀ n k : Nat, n < 256 ^ k -> (digits n).length <= k := by
 intro n
 induction n using Nat.strongRecOn with
 | ind n ih =>
  intro k hk
  by_cases q : n = 0
  . subst q; rw [Ac2]; simp
  . cases k with
    | zero => simp at hk; omega
    | succ k =>
     rw [Ae8 q, List.length_append]
     have := ih (n / 256) (by omega) k (by rw [Nat.pow_succ] at hk; omega)
     simp; omega
def runB (b : Bts) : Bts := UInt8.ofNat (b.length / 65536) :: UInt8.ofNat (b.length / 256) :: UInt8.ofNat b.length :: b
theorem An4 (b : Bts) : (runB b).length = b.length + 3 := by simp [runB]
def zero32 : Bts := List.replicate 32 0
def P9 (x : M) : List Bts := [digits x.who.toNat, digits x.height.toNat, digits x.round.toNat, digits x.valid.toNat, digits x.num.toNat, if x.id = zero32 then [] else x.id, x.data, x.ids.flatten, x.list.flatMap runB]
def opt1 (t : Nat) (b : Bts) : List (Nat × Bts) := if b = [] then [] else [(t, b)]
def optAll : Nat -> List Bts -> List (Nat × Bts)
 | _, [] => []
 | t, b :: r => opt1 t b ++ optAll (t + 1) r
def fieldList (x : M) : List (Nat × Bts) := optAll 1 (P9 x)
def fieldB (f : Nat × Bts) : Bts := UInt8.ofNat f.1 :: runB f.2
def writeB (x : M) : Bts := UInt8.ofNat x.kind.toNat :: (fieldList x).flatMap fieldB
theorem Al8 : ∀ (t : Nat) (a b : List Bts), optAll t (a ++ b) = optAll t a ++ optAll (t + a.length) b
 | t, [], b => by simp [optAll]
 | t, x :: a, b => by simp only [List.cons_append, optAll, Al8 (t + 1) a b, List.append_assoc, List.length_cons]; congr 3; omega
theorem AA4 {l : List Bts} {i : Nat} {b : Bts} (h : l[i]? = some b) (t : Nat) : optAll t (l.take (i + 1)) = optAll t (l.take i) ++ opt1 (t + i) b := by
 have hi := (List.getElem?_eq_some_iff.1 h).1
 rw [List.take_add_one, h, Al8, List.length_take, Nat.min_eq_left (by omega)]
 simp [optAll]
theorem BD8 {l : List Bts} {i : Nat} {b : Bts} (h : l[i]? = some b) (hb : b ≠ []) (t : Nat) : (optAll t l)[(optAll t (l.take i)).length]? = some (t + i, b) := by
 have e : optAll t l = optAll t (l.take (i + 1)) ++ optAll (t + (l.take (i + 1)).length) (l.drop (i + 1)) := by rw [<- Al8, List.take_append_drop]
 rw [e, AA4 h, opt1, if_neg hb]
 simp
theorem Bv3 {l : List Bts} {t : Nat} (n : Nat) (h : l.length <= n) : optAll t (l.take n) = optAll t l := by rw [List.take_of_length_le h]
theorem At3 (b : Bts) (l : List Bts) : lens (b :: l) = b.length + lens l := rfl
theorem AA5 : ∀ a b : List Bts, lens (a ++ b) = lens a + lens b
 | [], b => by simp [lens, sumOf]
 | x :: a, b => by have := AA5 a b; simp only [List.cons_append, At3, this]; omega
theorem Ak3 (l : List Bts) (i : Nat) : lens (l.take i) <= lens l := by
 have := AA5 (l.take i) (l.drop i); rw [List.take_append_drop] at this; omega
theorem AB6 {l : List Bts} {i : Nat} {b : Bts} (h : l[i]? = some b) : lens (l.take (i + 1)) = lens (l.take i) + b.length := by
 rw [List.take_add_one, h, AA5]; simp [lens, sumOf]
theorem AP3 {l : List Bts} {i : Nat} {b : Bts} (h : l[i]? = some b) : (l.take (i + 1)).flatten = (l.take i).flatten ++ b := by
 rw [List.take_add_one, h]; simp
theorem Ay1 {α : Type} {l : List α} {i : Nat} {b : α} {f : α -> Bts} (h : l[i]? = some b) : (l.take (i + 1)).flatMap f = (l.take i).flatMap f ++ f b := by
 rw [List.take_add_one, h]; simp
theorem Af4 : ∀ l : List Bts, (l.flatMap runB).length = lens l + 3 * l.length
 | [] => by simp [lens, sumOf]
 | x :: l => by rw [List.flatMap_cons, List.length_append, An4, Af4 l, At3, List.length_cons]; omega
theorem Ak4 {n : Nat} : ∀ l : List Bts, (∀ x ∈ l, x.length = n) -> l.flatten.length = l.length * n
 | [], _ => by simp
 | x :: l, h => by
  rw [List.flatten_cons, List.length_append, Ak4 l (fun y hy => h y (by simp [hy])), h x (by simp), List.length_cons, Nat.succ_mul]; omega
structure OkM (x : M) : Prop where
 kind : 1 <= x.kind /\ x.kind <= 31
 nums : ∀ n ∈ x.nums, 0 <= n /\ n <= 1099511627776
 ids : x.ids.length <= 64
 list : x.list.length <= 64
 size : x.data.length + lens x.list <= 131072
theorem AG7 {x : M} (h : checkM x = 0) : OkM x := by
 unfold checkM at h
 split at h
 . simp at h
 . rename_i h1
   split at h
   . simp at h
   . rename_i h2
     split at h
     . simp at h
     . rename_i h3
       refine ⟨by omega, fun n hn => ?_, by omega, by omega, by omega⟩
       have h4 : numBad n = false := by
        cases q : numBad n with
        | false => rfl
        | true => exact absurd (List.any_eq_true.2 ⟨n, hn, q⟩) h2
       simp only [numBad, Bool.or_eq_false_iff, decide_eq_false_iff_not] at h4
       omega
theorem AW6 {x : M} (h : OkM x) : checkM x = 0 := by
 have h1 := h.kind; have h2 := h.ids; have h3 := h.list; have h4 := h.size
 unfold checkM
 rw [if_neg (by omega), if_neg, if_neg (by omega)]
 intro q
 obtain ⟨n, hn, hb⟩ := List.any_eq_true.1 q
 have := h.nums n hn
 simp only [numBad, Bool.or_eq_true, decide_eq_true_eq] at hb
 omega
end Go.Sv
namespace Go.Sv
open Go
def takeB : Bts -> Option (Bts × Bts)
 | a :: b :: c :: r => if a.toNat * 65536 + b.toNat * 256 + c.toNat > r.length then none else some (r.take (a.toNat * 65536 + b.toNat * 256 + c.toNat), r.drop (a.toNat * 65536 + b.toNat * 256 + c.toNat))
 | _ => none
theorem Ad4 {s x r : Bts} (h : takeB s = some (x, r)) : s.length = x.length + r.length + 3 /\ x.length <= 16777215 := by
 match s, h with
 | a :: b :: c :: q, h =>
  simp only [takeB] at h
  split at h
  . simp at h
  . simp only [Option.some.injEq, Prod.mk.injEq] at h
    obtain ⟨rfl, rfl⟩ := h
    have h1 := a.toNat_lt; have h2 := b.toNat_lt; have h3 := c.toNat_lt
    simp only [List.length_cons, List.length_take, List.length_drop]
    omega
theorem A29 {s x r : Bts} (h : takeB s = some (x, r)) : s = runB x ++ r := by
 match s, h with
 | a :: b :: c :: q, h =>
  simp only [takeB] at h
  split at h
  . simp at h
  . rename_i hle
    simp only [Option.some.injEq, Prod.mk.injEq] at h
    obtain ⟨rfl, rfl⟩ := h
    have h1 := a.toNat_lt; have h2 := b.toNat_lt; have h3 := c.toNat_lt
    have hl : (List.take (a.toNat * 65536 + b.toNat * 256 + c.toNat) q).length = a.toNat * 65536 + b.toNat * 256 + c.toNat := by rw [List.length_take]; omega
    simp only [runB, hl]
    have e1 : UInt8.ofNat ((a.toNat * 65536 + b.toNat * 256 + c.toNat) / 65536) = a := by
     rw [show (a.toNat * 65536 + b.toNat * 256 + c.toNat) / 65536 = a.toNat by omega, UInt8.ofNat_toNat]
    have e2 : UInt8.ofNat ((a.toNat * 65536 + b.toNat * 256 + c.toNat) / 256) = b := by
     apply UInt8.toNat_inj.1; rw [UInt8.toNat_ofNat']; omega
    have e3 : UInt8.ofNat (a.toNat * 65536 + b.toNat * 256 + c.toNat) = c := by
     apply UInt8.toNat_inj.1; rw [UInt8.toNat_ofNat']; omega
    rw [e1, e2, e3]
    simp
theorem AP4 {x r : Bts} (h : x.length <= 16777215) : takeB (runB x ++ r) = some (x, r) := by
 simp only [runB, List.cons_append, takeB]
 have e : (UInt8.ofNat (x.length / 65536)).toNat * 65536 + (UInt8.ofNat (x.length / 256)).toNat * 256 + (UInt8.ofNat x.length).toNat = x.length := by
  simp only [UInt8.toNat_ofNat']; omega
 rw [e, if_neg (by simp)]
 simp
def runsOf (s : Bts) : Option (List Bts) := if s = [] then some [] else match h : takeB s with
 | none => none
 | some (x, r) => (runsOf r).map (x :: ·)
termination_by s.length
decreasing_by have := Ad4 h; omega
theorem Ag6 : runsOf [] = some [] := by rw [runsOf]; simp
theorem An5 {s : Bts} (hs : s ≠ []) (h : takeB s = none) : runsOf s = none := by
 rw [runsOf, if_neg hs]; split
 . rfl
 . rename_i q; rw [h] at q; simp at q
theorem Aj1 {s x r : Bts} (h : takeB s = some (x, r)) : runsOf s = (runsOf r).map (x :: ·) := by
 have hs : s ≠ [] := by rintro rfl; simp [takeB] at h
 rw [runsOf, if_neg hs]; split
 . rename_i q; rw [h] at q; simp at q
 . rename_i q; rw [h] at q; cases q; rfl
def chunk32 (s : Bts) : List Bts := if s = [] then [] else s.take 32 :: chunk32 (s.drop 32)
termination_by s.length
decreasing_by
 rename_i h
 have : s.length ≠ 0 := fun q => h (List.eq_nil_of_length_eq_zero q)
 simp only [List.length_drop]; omega
theorem An6 : chunk32 [] = [] := by rw [chunk32]; simp
theorem Ak5 {s : Bts} (h : s ≠ []) : chunk32 s = s.take 32 :: chunk32 (s.drop 32) := by rw [chunk32, if_neg h]
def valOf (s : Bts) : Nat := s.foldl (fun n x => n * 256 + x.toNat) 0
theorem AG8 {s : Bts} {i : Nat} {x : UInt8} (h : s[i]? = some x) : valOf (s.take (i + 1)) = valOf (s.take i) * 256 + x.toNat := by
 unfold valOf
 rw [List.take_add_one, h, List.foldl_append]; rfl
theorem A30 : ∀ s : Bts, valOf s < 256 ^ s.length := by
 intro s
 have key : ∀ (s : Bts) (n k : Nat), n < 256 ^ k -> s.foldl (fun n x => n * 256 + x.toNat) n < 256 ^ (k + s.length) := by
  intro s
  induction s with
  | nil => intro n k h; simpa using h
  | cons x s ih =>
   intro n k h
   have hx := x.toNat_lt
   have := ih (n * 256 + x.toNat) (k + 1) (by rw [Nat.pow_succ]; omega)
   rw [List.foldl_cons, List.length_cons, show k + (s.length + 1) = k + 1 + s.length by omega]; exact this
 have := key s 0 0 (by simp)
 simpa [valOf] using this
def numOf (s : Bts) : Option Nat := if s = [] ∨ s[0]? = some 0 ∨ s.length > 6 ∨ valOf s > 1099511627776 then none else some (valOf s)
def setNum (m : M) (t : Nat) (n : Int) : M := match t with
 | 1 => { m with who := n }
 | 2 => { m with height := n }
 | 3 => { m with round := n }
 | 4 => { m with valid := n }
 | _ => { m with num := n }
def putM (m : M) (t : Nat) (x : Bts) : Except Int M :=
 if x = [] then .error 23
 else if t < 6 then (match numOf x with | none => .error 23 | some n => .ok (setNum m t n))
 else if t = 6 then (if x.length ≠ 32 ∨ x = zero32 then .error 23 else .ok { m with id := x })
 else if t = 7 then .ok { m with data := x }
 else if t = 8 then (if x.length % 32 ≠ 0 then .error 23 else .ok { m with ids := m.ids ++ chunk32 x })
 else (match runsOf x with | none => .error 20 | some l => .ok { m with list := m.list ++ l })
def items (last : Nat) (s : Bts) : List (Nat × Bts) × Int := match s with
 | [] => ([], 0)
 | t :: r => if t.toNat <= last ∨ t.toNat > 9 then ([], 21) else match h : takeB r with
  | none => ([], 20)
  | some (x, r') => ((t.toNat, x) :: (items t.toNat r').1, (items t.toNat r').2)
termination_by s.length
decreasing_by
 all_goals (have := Ad4 h; simp only [List.length_cons]; omega)
theorem Ad5 (last : Nat) : items last [] = ([], 0) := by rw [items]
theorem Aj2 {last : Nat} {t : UInt8} {r : Bts} (h : t.toNat <= last ∨ t.toNat > 9) : items last (t :: r) = ([], 21) := by rw [items, if_pos h]
theorem Af5 {last : Nat} {t : UInt8} {r : Bts} (h : ¬ (t.toNat <= last ∨ t.toNat > 9)) (hr : takeB r = none) : items last (t :: r) = ([], 20) := by
 rw [items, if_neg h]; split
 . rfl
 . rename_i q; rw [hr] at q; simp at q
theorem Ae9 {last : Nat} {t : UInt8} {r x r' : Bts} (h : ¬ (t.toNat <= last ∨ t.toNat > 9)) (hr : takeB r = some (x, r')) : items last (t :: r) = ((t.toNat, x) :: (items t.toNat r').1, (items t.toNat r').2) := by
 rw [items, if_neg h]; split
 . rename_i q; rw [hr] at q; simp at q
 . rename_i q; rw [hr] at q; cases q; rfl
def putAll (m : M) : List (Nat × Bts) -> Except Int M
 | [] => .ok m
 | (t, x) :: l => match putM m t x with
  | .error e => .error e
  | .ok m' => putAll m' l
theorem Aw4 {m m' : M} : ∀ {l r : List (Nat × Bts)}, putAll m l = .ok m' -> putAll m (l ++ r) = putAll m' r
 | [], r, h => by simp [putAll] at h; subst h; rfl
 | (t, x) :: l, r, h => by
  simp only [putAll, List.cons_append] at h ⊢
  split at h
  . simp at h
  . rename_i q; exact Aw4 h
def restM (m : M) (last : Nat) (s : Bts) : Except Int M := match putAll m (items last s).1 with
 | .error e => .error e
 | .ok m' => if (items last s).2 ≠ 0 then .error (items last s).2 else .ok m'
def msg0 (k : Int) : M := ⟨k, 0, 0, 0, 0, 0, zero32, [], [], []⟩
def readM (b : Bts) : Except Int M := match b with
 | [] => .error 20
 | k :: r => if k.toNat < 1 ∨ k.toNat > 31 then .error 21 else match restM (msg0 k.toNat) 0 r with
  | .error e => .error e
  | .ok m => if checkM m ≠ 0 then .error (checkM m) else .ok m
def readMsg (b : Bts) : M := match readM b with | .error _ => msg0 0 | .ok m => m
def readErr (b : Bts) : Int := match readM b with | .error e => e | .ok _ => 0
theorem Ba5 (m : M) (last : Nat) : restM m last [] = .ok m := by simp [restM, Ad5, putAll]
theorem AP5 {m : M} {last : Nat} {t : UInt8} {r : Bts} (h : t.toNat <= last ∨ t.toNat > 9) : restM m last (t :: r) = .error 21 := by simp [restM, Aj2 h, putAll]
theorem AW7 {m : M} {last : Nat} {t : UInt8} {r : Bts} (h : ¬ (t.toNat <= last ∨ t.toNat > 9)) (hr : takeB r = none) : restM m last (t :: r) = .error 20 := by simp [restM, Af5 h hr, putAll]
theorem Ba6 {m : M} {last : Nat} {t : UInt8} {r x r' : Bts} {e : Int} (h : ¬ (t.toNat <= last ∨ t.toNat > 9)) (hr : takeB r = some (x, r')) (hp : putM m t.toNat x = .error e) : restM m last (t :: r) = .error e := by simp [restM, Ae9 h hr, putAll, hp]
theorem A67 {m m' : M} {last : Nat} {t : UInt8} {r x r' : Bts} (h : ¬ (t.toNat <= last ∨ t.toNat > 9)) (hr : takeB r = some (x, r')) (hp : putM m t.toNat x = .ok m') : restM m last (t :: r) = restM m' t.toNat r' := by simp [restM, Ae9 h hr, putAll, hp]
theorem A31 : ∀ (n : Nat) (s : Bts) (last : Nat), s.length <= n -> ∀ f ∈ (items last s).1, last < f.1 /\ f.1 <= 9 := by
 intro n
 induction n with
 | zero =>
  intro s last hs f hf
  have : s = [] := List.eq_nil_of_length_eq_zero (by omega)
  subst this; rw [Ad5] at hf; simp at hf
 | succ n ih =>
  intro s last hs f hf
  match s with
  | [] => rw [Ad5] at hf; simp at hf
  | t :: r =>
   by_cases h : t.toNat <= last ∨ t.toNat > 9
   . rw [Aj2 h] at hf; simp at hf
   . cases hr : takeB r with
     | none => rw [Af5 h hr] at hf; simp at hf
     | some p =>
      obtain ⟨x, r'⟩ := p
      rw [Ae9 h hr] at hf
      rcases List.mem_cons.1 hf with rfl | hf
      . exact ⟨by simp only []; omega, by simp only []; omega⟩
      . have hl := Ad4 hr
        have := ih r' t.toNat (by simp only [List.length_cons] at hs; omega) f hf
        omega
theorem A68 : ∀ (n : Nat) (s : Bts) (last i : Nat) (f g : Nat × Bts), s.length <= n -> (items last s).1[i]? = some f -> (items last s).1[i + 1]? = some g -> f.1 < g.1 := by
 intro n
 induction n with
 | zero =>
  intro s last i f g hs hf
  have : s = [] := List.eq_nil_of_length_eq_zero (by omega)
  subst this; rw [Ad5] at hf; simp at hf
 | succ n ih =>
  intro s last i f g hs hf hg
  match s with
  | [] => rw [Ad5] at hf; simp at hf
  | t :: r =>
   by_cases h : t.toNat <= last ∨ t.toNat > 9
   . rw [Aj2 h] at hf; simp at hf
   . cases hr : takeB r with
     | none => rw [Af5 h hr] at hf; simp at hf
     | some p =>
      obtain ⟨x, r'⟩ := p
      rw [Ae9 h hr] at hf hg
      have hl := Ad4 hr
      simp only [List.length_cons] at hs
      cases i with
      | zero =>
       simp at hf hg; subst hf
       have := A31 n r' t.toNat (by omega) g (List.mem_of_getElem? (by simpa using hg))
       exact this.1
      | succ i => exact ih r' t.toNat i f g (by omega) (by simpa using hf) (by simpa using hg)
theorem AW8 {m m' m'' : M} {l : List (Nat × Bts)} {i : Nat} {f : Nat × Bts} (h : putAll m (l.take i) = .ok m') (hf : l[i]? = some f) (hp : putM m' f.1 f.2 = .ok m'') : putAll m (l.take (i + 1)) = .ok m'' := by
 rw [List.take_add_one, hf, Aw4 h]
 obtain ⟨t, x⟩ := f
 simp only [Option.toList_some, putAll, hp]
theorem A69 {m m' : M} {l : List (Nat × Bts)} {i : Nat} {f : Nat × Bts} {e : Int} (h : putAll m (l.take i) = .ok m') (hf : l[i]? = some f) (hp : putM m' f.1 f.2 = .error e) : putAll m l = .error e := by
 have hi := (List.getElem?_eq_some_iff.1 hf).1
 have e1 : l = l.take i ++ (l.drop i) := (List.take_append_drop i l).symm
 have e2 : l.drop i = f :: l.drop (i + 1) := by
  rw [List.drop_eq_getElem_cons hi]
  congr 1
  exact (List.getElem?_eq_some_iff.1 hf).2
 rw [e1, Aw4 h, e2]
 obtain ⟨t, x⟩ := f
 simp only [putAll, hp]
theorem Ay2 {m m' : M} {last i : Nat} {s : Bts} {f : Nat × Bts} {e : Int} (h : putAll m ((items last s).1.take i) = .ok m') (hf : (items last s).1[i]? = some f) (hp : putM m' f.1 f.2 = .error e) : restM m last s = .error e := by
 unfold restM; rw [A69 h hf hp]
theorem AB7 {m m' : M} {last : Nat} {s : Bts} (h : putAll m (items last s).1 = .ok m') : restM m last s = if (items last s).2 ≠ 0 then .error (items last s).2 else .ok m' := by
 unfold restM; rw [h]
theorem AB8 : ∀ (n : Nat) (s : Bts), s.length = 32 * n -> (chunk32 s).length = n /\ (∀ b ∈ chunk32 s, b.length = 32) /\ (chunk32 s).flatten = s := by
 intro n
 induction n with
 | zero =>
  intro s hs
  have : s = [] := List.eq_nil_of_length_eq_zero (by omega)
  subst this; rw [An6]; simp
 | succ n ih =>
  intro s hs
  have hne : s ≠ [] := by rintro rfl; simp at hs
  rw [Ak5 hne]
  obtain ⟨h1, h2, h3⟩ := ih (s.drop 32) (by rw [List.length_drop]; omega)
  refine ⟨by simp [h1], fun b hb => ?_, by rw [List.flatten_cons, h3, List.take_append_drop]⟩
  rcases List.mem_cons.1 hb with rfl | hb
  . rw [List.length_take]; omega
  . exact h2 b hb
theorem A70 : ∀ (n : Nat) (s : Bts) (l : List Bts), s.length <= n -> runsOf s = some l -> 3 * l.length + lens l = s.length := by
 intro n
 induction n with
 | zero =>
  intro s l hs h
  have : s = [] := List.eq_nil_of_length_eq_zero (by omega)
  subst this; rw [Ag6] at h; cases h; simp [lens, sumOf]
 | succ n ih =>
  intro s l hs h
  by_cases q : s = []
  . subst q; rw [Ag6] at h; cases h; simp [lens, sumOf]
  . cases hr : takeB s with
    | none => rw [An5 q hr] at h; simp at h
    | some p =>
     obtain ⟨x, r⟩ := p
     rw [Aj1 hr] at h
     cases hq : runsOf r with
     | none => rw [hq] at h; simp at h
     | some l' =>
      rw [hq] at h; simp at h; subst h
      have hl := Ad4 hr
      have := ih r l' (by omega) hq
      rw [At3, List.length_cons]; omega
def szM (m : M) : Nat := m.ids.length + m.data.length + m.list.length + lens m.list
theorem Bv4 {m m' : M} {t : Nat} {x : Bts} (h : putM m t x = .ok m') : szM m' <= szM m + x.length := by
 unfold putM at h
 split at h
 . simp at h
 . split at h
   . split at h
     . simp at h
     . simp at h; subst h; unfold szM setNum; split <;> simp
   . split at h
     . split at h
       . simp at h
       . simp at h; subst h; simp [szM]
     . split at h
       . simp at h; subst h; simp only [szM]; omega
       . split at h
         . split at h
           . simp at h
           . rename_i hm
             simp at h; subst h
             obtain ⟨c1, _, _⟩ := AB8 (x.length / 32) x (by omega)
             simp only [szM, List.length_append, c1]; omega
         . split at h
           . simp at h
           . rename_i l hl
             simp at h; subst h
             have := A70 x.length x l (Nat.le_refl _) hl
             simp only [szM, List.length_append, AA5]; omega
def sumF (l : List (Nat × Bts)) : Nat := sumOf (fun f => f.2.length) l
theorem AP6 : ∀ {l : List (Nat × Bts)} {m m' : M}, putAll m l = .ok m' -> szM m' <= szM m + sumF l
 | [], m, m', h => by simp [putAll] at h; subst h; simp [sumF, sumOf]
 | (t, x) :: l, m, m', h => by
  simp only [putAll] at h
  split at h
  . simp at h
  . rename_i m1 h1
    have := Bv4 h1
    have := AP6 h
    simp only [sumF, sumOf] at this ⊢; omega
theorem Ba7 : ∀ (n : Nat) (s : Bts) (last : Nat), s.length <= n -> sumF (items last s).1 <= s.length := by
 intro n
 induction n with
 | zero =>
  intro s last hs
  have : s = [] := List.eq_nil_of_length_eq_zero (by omega)
  subst this; rw [Ad5]; simp [sumF, sumOf]
 | succ n ih =>
  intro s last hs
  match s with
  | [] => rw [Ad5]; simp [sumF, sumOf]
  | t :: r =>
   by_cases h : t.toNat <= last ∨ t.toNat > 9
   . rw [Aj2 h]; simp [sumF, sumOf]
   . cases hr : takeB r with
     | none => rw [Af5 h hr]; simp [sumF, sumOf]
     | some p =>
      obtain ⟨x, r'⟩ := p
      rw [Ae9 h hr]
      have hl := Ad4 hr
      simp only [List.length_cons] at hs ⊢
      have := ih r' t.toNat (by omega)
      simp only [sumF, sumOf] at this ⊢; omega
theorem AL0 {m m' : M} {last : Nat} {s : Bts} (h : restM m last s = .ok m') : szM m' <= szM m + s.length := by
 unfold restM at h
 split at h
 . simp at h
 . rename_i m1 h1
   split at h
   . simp at h
   . simp at h; subst h
     have := AP6 h1
     have := Ba7 s.length s last (Nat.le_refl _)
     omega
theorem Aj3 : ∀ {l : List Bts} {b : Bts}, b ∈ l -> b.length <= lens l
 | x :: l, b, h => by
  rw [At3]
  rcases List.mem_cons.1 h with rfl | h
  . omega
  . have := Aj3 h; omega
end Go.Sv
namespace Go.Sv
open Go
theorem AW9 : ∀ (n : Nat) (s : Bts) (l : List Bts), s.length <= n -> runsOf s = some l -> l.flatMap runB = s := by
 intro n
 induction n with
 | zero =>
  intro s l hs h
  have : s = [] := List.eq_nil_of_length_eq_zero (by omega)
  subst this; rw [Ag6] at h; cases h; rfl
 | succ n ih =>
  intro s l hs h
  by_cases q : s = []
  . subst q; rw [Ag6] at h; cases h; rfl
  . cases hr : takeB s with
    | none => rw [An5 q hr] at h; simp at h
    | some p =>
     obtain ⟨x, r⟩ := p
     rw [Aj1 hr] at h
     cases hq : runsOf r with
     | none => rw [hq] at h; simp at h
     | some l' =>
      rw [hq] at h; simp at h; subst h
      have hl := Ad4 hr
      rw [List.flatMap_cons, ih r l' (by omega) hq, <- A29 hr]
theorem AP7 : ∀ l : List Bts, (∀ b ∈ l, b.length <= 16777215) -> runsOf (l.flatMap runB) = some l
 | [], _ => Ag6
 | x :: l, h => by
  rw [List.flatMap_cons, Aj1 (AP4 (h x (by simp))), AP7 l (fun b hb => h b (by simp [hb]))]; rfl
theorem AG9 : ∀ l : List Bts, (∀ b ∈ l, b.length = 32) -> chunk32 l.flatten = l
 | [], _ => An6
 | x :: l, h => by
  have hx := h x (by simp)
  have hne : (x :: l).flatten ≠ [] := by rw [List.flatten_cons]; intro q; have := congrArg List.length q; simp [hx] at this
  rw [Ak5 hne, List.flatten_cons, List.take_left' hx, List.drop_left' hx, AG9 l (fun b hb => h b (by simp [hb]))]
theorem AP8 (s : Bts) (x : UInt8) : valOf (s ++ [x]) = valOf s * 256 + x.toNat := by
 unfold valOf; rw [List.foldl_append]; rfl
theorem Ay3 : ∀ n, valOf (digits n) = n := by
 intro n
 induction n using Nat.strongRecOn with
 | ind n ih =>
  by_cases q : n = 0
  . subst q; rw [Ac2]; rfl
  . rw [Ae8 q, AP8, ih (n / 256) (by omega), UInt8.toNat_ofNat']; omega
theorem AX0 : ∀ n, n ≠ 0 -> (digits n)[0]? ≠ some 0 /\ digits n ≠ [] := by
 intro n
 induction n using Nat.strongRecOn with
 | ind n ih =>
  intro hn
  refine ⟨?_, fun q => hn (Aq2.1 q)⟩
  rw [Ae8 hn]
  by_cases q : n / 256 = 0
  . rw [q, Ac2]
    simp only [List.nil_append, List.getElem?_cons_zero, ne_eq, Option.some.injEq]
    intro h
    have := congrArg UInt8.toNat h
    rw [UInt8.toNat_ofNat'] at this
    simp at this; omega
  . obtain ⟨h1, h2⟩ := ih (n / 256) (by omega) q
    have hl : 0 < (digits (n / 256)).length := List.length_pos_iff.2 h2
    rw [List.getElem?_append_left hl]; exact h1
theorem AP9 : ∀ (k : Nat) (s : Bts), s.length = k -> s[0]? ≠ some 0 -> digits (valOf s) = s := by
 intro k
 induction k with
 | zero => intro s hs _; rw [List.eq_nil_of_length_eq_zero hs]; exact Ac2
 | succ k ih =>
  intro s hs h0
  have hne : s ≠ [] := by rintro rfl; simp at hs
  obtain ⟨t, x, rfl⟩ : ∃ t x, s = t ++ [x] := ⟨s.dropLast, s.getLast hne, (List.dropLast_concat_getLast hne).symm⟩
  have htl : t.length = k := by simpa using hs
  have hx := x.toNat_lt
  rw [AP8]
  by_cases q : t = []
  . subst q
    simp at h0
    have hx0 : x.toNat ≠ 0 := fun z => h0 (UInt8.toNat_inj.1 (by rw [z]; rfl))
    have e : valOf [] * 256 + x.toNat = x.toNat := by simp [valOf]
    rw [e, Ae8 hx0, show x.toNat / 256 = 0 by omega, Ac2, UInt8.ofNat_toNat]
  . have ht0 : t[0]? ≠ some 0 := by
     rw [List.getElem?_append_left (List.length_pos_iff.2 q)] at h0; exact h0
    have hih := ih t htl ht0
    have hv : valOf t ≠ 0 := fun z => by rw [z, Ac2] at hih; exact q hih.symm
    rw [Ae8 (by omega), show (valOf t * 256 + x.toNat) / 256 = valOf t by omega, hih]
    congr 1
    congr 1
    apply UInt8.toNat_inj.1
    rw [UInt8.toNat_ofNat']; omega
theorem AQ0 {n : Nat} (h0 : n ≠ 0) (h : n <= 1099511627776) : numOf (digits n) = some n := by
 obtain ⟨h1, h2⟩ := AX0 n h0
 have h3 := Aq3 n 6 (by omega)
 unfold numOf
 rw [if_neg, Ay3]
 rw [Ay3]
 rintro (q | q | q | q)
 . exact h2 q
 . exact h1 q
 . omega
 . omega
theorem A71 {s : Bts} {n : Nat} (h : numOf s = some n) : digits n = s /\ n <= 1099511627776 := by
 unfold numOf at h
 split at h
 . simp at h
 . rename_i q
   simp at h; subst h
   exact ⟨AP9 _ s rfl (fun z => q (.inr (.inl z))), by omega⟩
structure Wf (x : M) : Prop where
 id : x.id.length = 32
 ids : ∀ b ∈ x.ids, b.length = 32
theorem wf0 (k : Int) : Wf (msg0 k) := ⟨rfl, by simp [msg0]⟩
theorem AB9 {l : List Bts} (h : ∀ b ∈ l, b.length = 32) (q : l.flatten = []) : l = [] := by
 cases l with
 | nil => rfl
 | cons x l => have h1 := congrArg List.length q; have h2 := h x (by simp); rw [List.flatten_cons, List.length_append, List.length_nil] at h1; omega
theorem flatMap_nil {l : List Bts} (q : l.flatMap runB = []) : l = [] := by
 cases l with
 | nil => rfl
 | cons x l => have := congrArg List.length q; simp [An4] at this
theorem Bv5 {m m' : M} {t : Nat} {x : Bts} (h : putM m t x = .ok m') (hw : Wf m) (h1 : 1 <= t) (h9 : t <= 9) (hn : (P9 m)[t - 1]? = some []) : Wf m' /\ P9 m' = (P9 m).set (t - 1) x /\ x ≠ [] /\ m'.kind = m.kind := by
 have hx : x ≠ [] := by rintro rfl; unfold putM at h; simp at h
 unfold putM at h
 rw [if_neg hx] at h
 have num : t < 6 -> Wf m' /\ P9 m' = (P9 m).set (t - 1) x /\ x ≠ [] /\ m'.kind = m.kind := by
  intro h6
  rw [if_pos h6] at h
  split at h
  . simp at h
  . rename_i n hnum
    simp at h; subst h
    obtain ⟨e1, e2⟩ := A71 hnum
    match t, h1, h6 with
    | 1, _, _ => exact ⟨⟨hw.id, hw.ids⟩, by simp [P9, setNum, e1], hx, rfl⟩
    | 2, _, _ => exact ⟨⟨hw.id, hw.ids⟩, by simp [P9, setNum, e1], hx, rfl⟩
    | 3, _, _ => exact ⟨⟨hw.id, hw.ids⟩, by simp [P9, setNum, e1], hx, rfl⟩
    | 4, _, _ => exact ⟨⟨hw.id, hw.ids⟩, by simp [P9, setNum, e1], hx, rfl⟩
    | 5, _, _ => exact ⟨⟨hw.id, hw.ids⟩, by simp [P9, setNum, e1], hx, rfl⟩
 by_cases h6 : t < 6
 . exact num h6
 rw [if_neg h6] at h
 by_cases h7 : t = 6
 . subst h7
   rw [if_pos rfl] at h
   split at h
   . simp at h
   . rename_i q
     simp at h; subst h
     have q1 : x.length = 32 := Classical.byContradiction fun z => q (.inl z)
     have q2 : x ≠ zero32 := fun z => q (.inr z)
     exact ⟨⟨q1, hw.ids⟩, by simp [P9, q2], hx, rfl⟩
 rw [if_neg h7] at h
 by_cases h8 : t = 7
 . subst h8
   rw [if_pos rfl] at h
   simp at h; subst h
   exact ⟨⟨hw.id, hw.ids⟩, by simp [P9], hx, rfl⟩
 rw [if_neg h8] at h
 by_cases h10 : t = 8
 . subst h10
   rw [if_pos rfl] at h
   split at h
   . simp at h
   . rename_i q
     simp at h; subst h
     have e0 : m.ids = [] := AB9 hw.ids (by simpa [P9] using hn)
     obtain ⟨c1, c2, c3⟩ := AB8 (x.length / 32) x (by omega)
     refine ⟨⟨hw.id, ?_⟩, ?_, hx, rfl⟩
     . rw [e0]; simpa using c2
     . simp [P9, e0, c3]
 . rw [if_neg h10] at h
   have : t = 9 := by omega
   subst this
   split at h
   . simp at h
   . rename_i l hl
     simp at h; subst h
     have e0 : m.list = [] := flatMap_nil (by simpa [P9] using hn)
     have := AW9 x.length x l (Nat.le_refl _) hl
     exact ⟨⟨hw.id, hw.ids⟩, by simp [P9, e0, this], hx, rfl⟩
def Rising : Nat -> List (Nat × Bts) -> Prop
 | _, [] => True
 | last, (t, _) :: l => last < t /\ t <= 9 /\ Rising t l
theorem AQ1 : ∀ (n : Nat) (s : Bts) (last : Nat), s.length <= n -> Rising last (items last s).1 := by
 intro n
 induction n with
 | zero =>
  intro s last hs
  have : s = [] := List.eq_nil_of_length_eq_zero (by omega)
  subst this; rw [Ad5]; trivial
 | succ n ih =>
  intro s last hs
  match s with
  | [] => rw [Ad5]; trivial
  | t :: r =>
   by_cases h : t.toNat <= last ∨ t.toNat > 9
   . rw [Aj2 h]; trivial
   . cases hr : takeB r with
     | none => rw [Af5 h hr]; trivial
     | some p =>
      obtain ⟨x, r'⟩ := p
      rw [Ae9 h hr]
      have hl := Ad4 hr
      exact ⟨by omega, by omega, ih r' t.toNat (by simp only [List.length_cons] at hs; omega)⟩
theorem AX1 : ∀ (n : Nat) (s : Bts) (last : Nat), s.length <= n -> (items last s).2 = 0 -> (items last s).1.flatMap fieldB = s := by
 intro n
 induction n with
 | zero =>
  intro s last hs _
  have : s = [] := List.eq_nil_of_length_eq_zero (by omega)
  subst this; rw [Ad5]; rfl
 | succ n ih =>
  intro s last hs h0
  match s with
  | [] => rw [Ad5]; rfl
  | t :: r =>
   by_cases h : t.toNat <= last ∨ t.toNat > 9
   . rw [Aj2 h] at h0; simp at h0
   . cases hr : takeB r with
     | none => rw [Af5 h hr] at h0; simp at h0
     | some p =>
      obtain ⟨x, r'⟩ := p
      rw [Ae9 h hr] at h0 ⊢
      have hl := Ad4 hr
      rw [List.flatMap_cons, ih r' t.toNat (by simp only [List.length_cons] at hs; omega) h0]
      rw [A29 hr]
      simp [fieldB, UInt8.ofNat_toNat]
theorem As1 : ∀ (l : List Bts) (t : Nat), (∀ b ∈ l, b = []) -> optAll t l = []
 | [], _, _ => rfl
 | b :: l, t, h => by
  have hb : b = [] := h b (by simp)
  rw [optAll, As1 l (t + 1) (fun c hc => h c (by simp [hc])), opt1, if_pos hb]; rfl
theorem At4 : ∀ (l : List (Nat × Bts)) (m m' : M) (last : Nat), putAll m l = .ok m' -> Wf m -> Rising last l -> (∀ j, last <= j -> j < 9 -> (P9 m)[j]? = some []) -> Wf m' /\ fieldList m' = optAll 1 ((P9 m).take last) ++ l /\ m'.kind = m.kind
 | [], m, m', last, h, hw, _, hj => by
  simp [putAll] at h; subst h
  refine ⟨hw, ?_, rfl⟩
  rw [List.append_nil]
  unfold fieldList
  conv => lhs; rw [<- List.take_append_drop last (P9 m)]
  rw [Al8, As1 ((P9 m).drop last) _ ?_, List.append_nil]
  intro b hb
  obtain ⟨i, hi⟩ := List.mem_iff_getElem?.1 hb
  rw [List.getElem?_drop] at hi
  have hlt := (List.getElem?_eq_some_iff.1 hi).1
  have h9 : (P9 m).length = 9 := rfl
  have := hj (last + i) (by omega) (by omega)
  rw [hi] at this; cases this; rfl
 | (t, x) :: l, m, m', last, h, hw, hr, hj => by
  obtain ⟨r1, r2, r3⟩ := hr
  simp only [putAll] at h
  split at h
  . simp at h
  . rename_i m1 h1
    obtain ⟨w1, e1, hx, hk⟩ := Bv5 h1 hw (by omega) r2 (hj (t - 1) (by omega) (by omega))
    have h9 : (P9 m).length = 9 := rfl
    obtain ⟨q1, q2, q3⟩ := At4 l m1 m' t h w1 r3 (fun j a b => by
     rw [e1, List.getElem?_set_ne (by omega)]; exact hj j (by omega) b)
    refine ⟨q1, ?_, q3.trans hk⟩
    rw [q2, e1]
    have hget : ((P9 m).set (t - 1) x)[t - 1]? = some x := by rw [List.getElem?_set_self (by omega)]
    have e2 : ((P9 m).set (t - 1) x).take t = ((P9 m).set (t - 1) x).take (t - 1 + 1) := by rw [show t - 1 + 1 = t by omega]
    rw [e2, AA4 hget, opt1, if_neg hx, List.append_assoc, show 1 + (t - 1) = t by omega]
    congr 1
    rw [List.take_set_of_le (Nat.le_refl _)]
    conv => lhs; rw [<- List.take_append_drop last ((P9 m).take (t - 1))]
    rw [Al8, List.take_take, Nat.min_eq_left (by omega), As1 (((P9 m).take (t - 1)).drop last) _ ?_, List.append_nil]
    intro b hb
    obtain ⟨i, hi⟩ := List.mem_iff_getElem?.1 hb
    rw [List.getElem?_drop] at hi
    have hlt := (List.getElem?_eq_some_iff.1 hi).1
    rw [List.length_take] at hlt
    rw [List.getElem?_take_of_lt (by omega)] at hi
    have := hj (last + i) (by omega) (by omega)
    rw [hi] at this; cases this; rfl
theorem Bv6 (k : Int) : ∀ j, j < 9 -> (P9 (msg0 k))[j]? = some [] := by
 intro j hj
 have e : P9 (msg0 k) = [[], [], [], [], [], [], [], [], []] := by simp [P9, msg0, Ac2]
 rw [e]
 match j, hj with
 | 0, _ => rfl
 | 1, _ => rfl
 | 2, _ => rfl
 | 3, _ => rfl
 | 4, _ => rfl
 | 5, _ => rfl
 | 6, _ => rfl
 | 7, _ => rfl
 | 8, _ => rfl
theorem AH0 {b : Bts} {x : M} (h : readM b = .ok x) : writeB x = b /\ checkM x = 0 /\ Wf x := by
 match b, h with
 | k :: r, h =>
  unfold readM at h
  simp only [] at h
  split at h
  . simp at h
  . rename_i hk
    split at h
    . simp at h
    . rename_i m hm
      split at h
      . simp at h
      . rename_i hc
        simp at h; subst h
        have hc0 : checkM m = 0 := by omega
        unfold restM at hm
        split at hm
        . simp at hm
        . rename_i m1 h1
          split at hm
          . simp at hm
          . rename_i h2
            simp at hm; subst hm
            obtain ⟨q1, q2, q3⟩ := At4 _ _ _ 0 h1 (wf0 _) (AQ1 r.length r 0 (Nat.le_refl _)) (fun j _ hj => Bv6 _ j hj)
            refine ⟨?_, hc0, q1⟩
            unfold writeB
            rw [q2, q3]
            have e3 := AX1 r.length r 0 (Nat.le_refl _) (by omega)
            simp only [List.take_zero, optAll, List.nil_append, e3, msg0, Int.toNat_natCast, UInt8.ofNat_toNat]
theorem Ba8 : ∀ (ps : List Bts) (last : Nat), last + ps.length <= 9 -> (∀ b ∈ ps, b.length <= 16777215) -> items last ((optAll (last + 1) ps).flatMap fieldB) = (optAll (last + 1) ps, 0) := by
 intro ps
 have key : ∀ (ps : List Bts) (last a : Nat), a <= last -> last + ps.length <= 9 -> (∀ b ∈ ps, b.length <= 16777215) -> items a ((optAll (last + 1) ps).flatMap fieldB) = (optAll (last + 1) ps, 0) := by
  intro ps
  induction ps with
  | nil => intro last a _ _ _; exact Ad5 a
  | cons b ps ih =>
   intro last a ha hl hb
   simp only [List.length_cons] at hl
   by_cases q : b = []
   . simp only [optAll, opt1, if_pos q, List.nil_append]
     exact ih (last + 1) a (by omega) (by omega) (fun c hc => hb c (by simp [hc]))
   . simp only [optAll, opt1, if_neg q, List.cons_append, List.nil_append, List.flatMap_cons, fieldB]
     have ht : (UInt8.ofNat (last + 1)).toNat = last + 1 := by rw [UInt8.toNat_ofNat']; omega
     rw [Ae9 (x := b) (r' := (optAll (last + 1 + 1) ps).flatMap fieldB) (by rw [ht]; omega) (AP4 (hb b (by simp))), ht, ih (last + 1) (last + 1) (by omega) (by omega) (fun c hc => hb c (by simp [hc]))]
 intro last h1 h2
 exact key ps last last (Nat.le_refl _) h1 h2
theorem Ab6 {m m1 : M} {t : Nat} {b : Bts} {l : List (Nat × Bts)} (h0 : b = [] -> m1 = m) (h1 : b ≠ [] -> putM m t b = .ok m1) : putAll m (opt1 t b ++ l) = putAll m1 l := by
 by_cases q : b = []
 . rw [opt1, if_pos q, h0 q]; rfl
 . rw [opt1, if_neg q]; simp only [List.cons_append, List.nil_append, putAll, h1 q]
theorem AH1 {x : M} (h : OkM x) (hw : Wf x) : readM (writeB x) = .ok x := by
 have hk := h.kind
 obtain ⟨kd, hkd⟩ := Int.eq_ofNat_of_zero_le (show 0 <= x.kind by omega)
 have hn := h.nums
 simp only [M.nums, List.mem_cons, List.mem_nil_iff, or_false, forall_eq_or_imp, forall_eq] at hn
 obtain ⟨⟨a1, c1⟩, ⟨a2, c2⟩, ⟨a3, c3⟩, ⟨a4, c4⟩, a5, c5⟩ := hn
 have hs := h.size
 have hi := h.ids
 have hl := h.list
 have dl : ∀ n : Int, n <= 1099511627776 -> (digits n.toNat).length <= 16777215 := fun n q => by have := Aq3 n.toNat 6 (by omega); omega
 have hfl := Ak4 x.ids hw.ids
 have hrl := Af4 x.list
 have hid := hw.id
 have hsz : ∀ b ∈ P9 x, b.length <= 16777215 := by
  intro b hb
  simp only [P9, List.mem_cons, List.mem_nil_iff, or_false] at hb
  rcases hb with rfl | rfl | rfl | rfl | rfl | rfl | rfl | rfl | rfl
  . exact dl _ c1
  . exact dl _ c2
  . exact dl _ c3
  . exact dl _ c4
  . exact dl _ c5
  . split
    . simp
    . omega
  . omega
  . omega
  . omega
 have hit := Ba8 (P9 x) 0 (by simp [P9]) hsz
 have hput : putAll (msg0 x.kind) (optAll 1 (P9 x)) = .ok x := by
  have num : ∀ {m : M} {t : Nat} {n : Int}, 1 <= t -> t < 6 -> 0 <= n -> n <= 1099511627776 -> digits n.toNat ≠ [] -> putM m t (digits n.toNat) = .ok (setNum m t n) := by
   intro m t n q1 q2 q3 q4 q5
   obtain ⟨k, rfl⟩ := Int.eq_ofNat_of_zero_le q3
   rw [Int.toNat_natCast] at q5 ⊢
   unfold putM
   rw [if_neg q5, if_pos q2, AQ0 (fun z => q5 (Aq2.2 z)) (by omega)]
  have zn : ∀ {n : Int}, 0 <= n -> digits n.toNat = [] -> n = 0 := fun q z => by rw [Aq2] at z; omega
  simp only [P9, optAll, msg0]
  rw [Ab6 (m1 := ⟨x.kind, x.who, 0, 0, 0, 0, zero32, [], [], []⟩) (fun q => by rw [zn a1 q]) (fun q => num (by decide) (by decide) a1 c1 q)]
  rw [Ab6 (m1 := ⟨x.kind, x.who, x.height, 0, 0, 0, zero32, [], [], []⟩) (fun q => by rw [zn a2 q]) (fun q => num (by decide) (by decide) a2 c2 q)]
  rw [Ab6 (m1 := ⟨x.kind, x.who, x.height, x.round, 0, 0, zero32, [], [], []⟩) (fun q => by rw [zn a3 q]) (fun q => num (by decide) (by decide) a3 c3 q)]
  rw [Ab6 (m1 := ⟨x.kind, x.who, x.height, x.round, x.valid, 0, zero32, [], [], []⟩) (fun q => by rw [zn a4 q]) (fun q => num (by decide) (by decide) a4 c4 q)]
  rw [Ab6 (m1 := ⟨x.kind, x.who, x.height, x.round, x.valid, x.num, zero32, [], [], []⟩) (fun q => by rw [zn a5 q]) (fun q => num (by decide) (by decide) a5 c5 q)]
  rw [Ab6 (m1 := ⟨x.kind, x.who, x.height, x.round, x.valid, x.num, x.id, [], [], []⟩) (fun q => by
   split at q
   . rename_i z; rw [z]
   . rw [q] at hid; simp at hid) (fun q => by
   split at q
   . exact absurd rfl q
   . rename_i z
     rw [if_neg z]
     unfold putM
     rw [if_neg q, if_neg (by decide), if_pos rfl, if_neg]
     rintro (w | w)
     . exact w hid
     . exact z w)]
  rw [Ab6 (m1 := ⟨x.kind, x.who, x.height, x.round, x.valid, x.num, x.id, x.data, [], []⟩) (fun q => by rw [q]) (fun q => by
   unfold putM; rw [if_neg q, if_neg (by decide), if_neg (by decide), if_pos rfl])]
  rw [Ab6 (m1 := ⟨x.kind, x.who, x.height, x.round, x.valid, x.num, x.id, x.data, x.ids, []⟩) (fun q => by rw [AB9 hw.ids q]) (fun q => by
   unfold putM; rw [if_neg q, if_neg (by decide), if_neg (by decide), if_neg (by decide), if_pos rfl, if_neg (by omega), AG9 x.ids hw.ids]; rfl)]
  rw [Ab6 (m1 := ⟨x.kind, x.who, x.height, x.round, x.valid, x.num, x.id, x.data, x.ids, x.list⟩) (fun q => by rw [flatMap_nil q]) (fun q => by
   unfold putM; rw [if_neg q, if_neg (by decide), if_neg (by decide), if_neg (by decide), if_neg (by decide), AP7 x.list (fun b hb => by have := Aj3 hb; omega)]; rfl)]
  rfl
 have hkt : (UInt8.ofNat kd).toNat = kd := by rw [UInt8.toNat_ofNat']; omega
 have hrest : restM (msg0 x.kind) 0 ((fieldList x).flatMap fieldB) = .ok x := by
  have hput' : putAll (msg0 x.kind) (items 0 ((fieldList x).flatMap fieldB)).1 = .ok x := by
   unfold fieldList; rw [hit]; exact hput
  rw [AB7 hput']
  unfold fieldList
  rw [hit]; simp
 unfold writeB readM
 rw [hkd, Int.toNat_natCast]
 simp only [hkt]
 rw [if_neg (by omega), <- hkd, hrest]
 simp only []
 rw [if_neg (by simpa using AW6 h)]
theorem AH2 {b : Bts} : readErr b = 0 ↔ ∃ x, readM b = .ok x := by
 have key : ∀ (l : List (Nat × Bts)) (m : M), putAll m l ≠ .error 0 := by
  intro l
  induction l with
  | nil => intro m; simp [putAll]
  | cons f l ih =>
   intro m
   obtain ⟨t, x⟩ := f
   simp only [putAll]
   split
   . rename_i e hp
     unfold putM at hp
     intro q; simp at q; subst q
     repeat' (split at hp)
     all_goals simp at hp
   . exact ih _
 have hne : readM b ≠ .error 0 := by
  intro h
  match b, h with
  | [], h => simp [readM] at h
  | k :: r, h =>
   unfold readM at h
   simp only [] at h
   split at h
   . simp at h
   . split at h
     . rename_i e he
       simp at h; subst h
       unfold restM at he
       split at he
       . rename_i q; simp at he; subst he; exact key _ _ q
       . split at he
         . rename_i q; simp at he; exact q he
         . simp at he
     . split at h
       . rename_i q; simp at h; exact q h
       . simp at h
 unfold readErr
 cases h : readM b with
 | error e =>
  constructor
  . intro q; simp only [] at q; subst q; exact absurd h hne
  . rintro ⟨x, q⟩; simp at q
 | ok x => exact ⟨fun _ => ⟨x, rfl⟩, fun _ => rfl⟩
end Go.Sv
namespace Go.Sv
open Go
abbrev W32 := BitVec 32
def rot (x : W32) (n : Nat) : W32 := x >>> n ||| x <<< (32 - n)
def shLow (x : W32) : W32 := rot x 7 ^^^ rot x 18 ^^^ x >>> 3
def shHigh (x : W32) : W32 := rot x 17 ^^^ rot x 19 ^^^ x >>> 10
def shK : List W32 := [1116352408, 1899447441, 3049323471, 3921009573, 961987163, 1508970993, 2453635748, 2870763221, 3624381080, 310598401, 607225278, 1426881987, 1925078388, 2162078206, 2614888103, 3248222580, 3835390401, 4022224774, 264347078, 604807628, 770255983, 1249150122, 1555081692, 1996064986, 2554220882, 2821834349, 2952996808, 3210313671, 3336571891, 3584528711, 113926993, 338241895, 666307205, 773529912, 1294757372, 1396182291, 1695183700, 1986661051, 2177026350, 2456956037, 2730485921, 2820302411, 3259730800, 3345764771, 3516065817, 3600352804, 4094571909, 275423344, 430227734, 506948616, 659060556, 883997877, 958139571, 1322822218, 1537002063, 1747873779, 1955562222, 2024104815, 2227730452, 2361852424, 2428436474, 2756734187, 3204031479, 3329325298]
def gw (l : List W32) (i : Nat) : W32 := l.getD i 0
def gb (l : Bts) (i : Nat) : Nat := (l.getD i 0).toNat
def be4 (b : Bts) (i : Nat) : W32 := BitVec.ofNat 32 (((gb b (4 * i) * 256 + gb b (4 * i + 1)) * 256 + gb b (4 * i + 2)) * 256 + gb b (4 * i + 3))
def wl (b : Bts) : Nat -> List W32
 | 0 => []
 | i + 1 => wl b i ++ [if i < 16 then be4 b i else gw (wl b i) (i - 16) + shLow (gw (wl b i) (i - 15)) + gw (wl b i) (i - 7) + shHigh (gw (wl b i) (i - 2))]
theorem Bt3 (b : Bts) : ∀ i, (wl b i).length = i
 | 0 => rfl
 | i + 1 => by rw [wl, List.length_append, Bt3 b i]; rfl
structure S8 where
 a : W32
 b : W32
 c : W32
 d : W32
 e : W32
 f : W32
 g : W32
 h : W32
def s8l (s : S8) : List W32 := [s.a, s.b, s.c, s.d, s.e, s.f, s.g, s.h]
def chs (e f g : W32) : W32 := g ^^^ e &&& (f ^^^ g)
def maj (a b c : W32) : W32 := a &&& b ||| c &&& (a ||| b)
def sg1 (e : W32) : W32 := rot e 6 ^^^ rot e 11 ^^^ rot e 25
def sg0 (a : W32) : W32 := rot a 2 ^^^ rot a 13 ^^^ rot a 22
def one8 (k w : W32) (s : S8) : W32 := s.h + sg1 s.e + chs s.e s.f s.g + k + w
def two8 (s : S8) : W32 := sg0 s.a + maj s.a s.b s.c
def rnd (k w : W32) (s : S8) : S8 := ⟨one8 k w s + two8 s, s.a, s.b, s.c, s.d + one8 k w s, s.e, s.f, s.g⟩
def rl (ws : List W32) (s : S8) : Nat -> S8
 | 0 => s
 | i + 1 => rnd (gw shK i) (gw ws i) (rl ws s i)
def add8 (s v : S8) : S8 := ⟨s.a + v.a, s.b + v.b, s.c + v.c, s.d + v.d, s.e + v.e, s.f + v.f, s.g + v.g, s.h + v.h⟩
def comp (s : S8) (b : Bts) : S8 := add8 s (rl (wl b 64) s 64)
def sha0 : S8 := ⟨1779033703, 3144134277, 1013904242, 2773480762, 1359893119, 2600822924, 528734635, 1541459225⟩
def out8 (s : S8) : Bts := (List.range 32).map fun i => UInt8.ofNat ((gw (s8l s) (i / 4)).toNat >>> (24 - 8 * (i % 4)))
def be8 (n : Nat) : Bts := (List.range 8).map fun i => UInt8.ofNat (n / 256 ^ (7 - i))
def padZ (n : Nat) : Nat := (119 - n % 64) % 64
def padB (l : Bts) : Bts := l ++ [128] ++ List.replicate (padZ l.length) 0 ++ be8 (l.length * 8)
def chunks (l : Bts) : List Bts := (List.range (l.length / 64)).map fun i => (l.drop (64 * i)).take 64
def sha (l : Bts) : Bts := out8 ((chunks (padB l)).foldl comp sha0)
theorem As2 (n : Nat) : (be8 n).length = 8 := by simp [be8]
theorem An7 (s : S8) : (out8 s).length = 32 := by simp [out8]
theorem An8 (l : Bts) : (sha l).length = 32 := An7 _
theorem Aq4 (l : Bts) : (padB l).length = l.length + 1 + padZ l.length + 8 := by
 simp [padB, As2]; omega
theorem Aw5 (l : Bts) : (chunks l).length = l.length / 64 := by simp [chunks]
theorem A72 {l : Bts} {i : Nat} {x : Bts} (h : (chunks l)[i]? = some x) : i < l.length / 64 /\ x = (l.drop (64 * i)).take 64 /\ x.length = 64 := by
 have hi : i < l.length / 64 := by have := (List.getElem?_eq_some_iff.1 h).1; rwa [Aw5] at this
 unfold chunks at h
 rw [List.getElem?_map, List.getElem?_range hi] at h
 cases h
 refine ⟨hi, rfl, ?_⟩
 rw [List.length_take, List.length_drop]
 omega
def wc (k : IntKind) (l : List W32) : List V := l.map fun x => .int k (x.toNat : Int)
theorem Ar2 (k : IntKind) (l : List W32) : (wc k l).length = l.length := by simp [wc]
theorem Bt4 (k : IntKind) (l : List W32) : (wc k l).all V.one = true := by simp [wc, V.one]
theorem BD9 {k : IntKind} {l : List W32} {i : Nat} (h : i < l.length) : (wc k l)[i]? = some (.int k ((gw l i).toNat : Int)) := by
 unfold wc gw
 rw [List.getElem?_map, List.getElem?_eq_getElem h, List.getD_eq_getElem?_getD, List.getElem?_eq_getElem h]; rfl
theorem AQ2 {l : List V} {i : Nat} {x : V} (h : i < l.length) : putAt l i [x] = l.set i x := by
 unfold putAt
 rw [List.set_eq_take_append_cons_drop, if_pos h]; simp
theorem Bt5 {k : IntKind} {l : List W32} {i : Nat} {x : W32} (h : i < l.length) : putAt (wc k l) i [.int k (x.toNat : Int)] = wc k (l.set i x) := by
 rw [AQ2 (by rw [Ar2]; exact h)]
 unfold wc; rw [List.map_set]
theorem BE0 {l l' : List W32} {i : Nat} (h : i < l.length) : gw (l ++ l') i = gw l i := by
 unfold gw; rw [List.getD_eq_getElem?_getD, List.getElem?_append_left h, List.getD_eq_getElem?_getD]
theorem AA6 (n : Int) : IntKind.u32.wrap n = n % 4294967296 := by simp [IntKind.wrap, IntKind.signed, IntKind.bits]
theorem Aq5 (n : Int) : IntKind.u64.wrap n = n % 18446744073709551616 := by simp [IntKind.wrap, IntKind.signed, IntKind.bits]
theorem AL1 (x y : W32) : IntKind.u32.wrap ((x.toNat : Int) + (y.toNat : Int)) = ((x + y).toNat : Int) := by
 rw [BitVec.toNat_add, AA6]; simp
theorem Aw6 {n : Nat} (x : W32) (h : 32 <= n) : BitVec.ofInt n (x.toNat : Int) = x.setWidth n := by
 rw [BitVec.ofInt_natCast]
 apply BitVec.eq_of_toNat_eq
 rw [BitVec.toNat_ofNat, BitVec.toNat_setWidth]
theorem Bv7 {k : IntKind} (hk : k = .u32 ∨ k = .u64) {x : Nat} (h : x < 2 ^ k.bits) : k.wrap (x : Int) = x := by
 rcases hk with rfl | rfl
 . rw [AA6]; have h : x < 4294967296 := h; omega
 . rw [Aq5]; have h : x < 18446744073709551616 := h; omega
theorem b32 {k : IntKind} (hk : k = .u32 ∨ k = .u64) : 32 <= k.bits := by rcases hk with rfl | rfl <;> decide
theorem BE1 {k : IntKind} (hk : k = .u32 ∨ k = .u64) (x y : W32) : evBits .xor k (x.toNat : Int) (y.toNat : Int) = some (.int k ((x ^^^ y).toNat : Int)) := by
 unfold evBits
 simp only [Aw6 _ (b32 hk)]
 have hb := b32 hk
 have e : (x.setWidth k.bits ^^^ y.setWidth k.bits).toNat = (x ^^^ y).toNat := by
  rw [<- BitVec.setWidth_xor, BitVec.toNat_setWidth, Nat.mod_eq_of_lt]
  exact Nat.lt_of_lt_of_le (x ^^^ y).isLt (Nat.pow_le_pow_right (by omega) hb)
 rw [e, Bv7 hk]
 exact Nat.lt_of_lt_of_le (x ^^^ y).isLt (Nat.pow_le_pow_right (by omega) hb)
theorem BE2 {k : IntKind} (hk : k = .u32 ∨ k = .u64) (x y : W32) : evBits .and k (x.toNat : Int) (y.toNat : Int) = some (.int k ((x &&& y).toNat : Int)) := by
 unfold evBits
 simp only [Aw6 _ (b32 hk)]
 have hb := b32 hk
 have e : (x.setWidth k.bits &&& y.setWidth k.bits).toNat = (x &&& y).toNat := by
  rw [<- BitVec.setWidth_and, BitVec.toNat_setWidth, Nat.mod_eq_of_lt]
  exact Nat.lt_of_lt_of_le (x &&& y).isLt (Nat.pow_le_pow_right (by omega) hb)
 rw [e, Bv7 hk]
 exact Nat.lt_of_lt_of_le (x &&& y).isLt (Nat.pow_le_pow_right (by omega) hb)
theorem BO9 {k : IntKind} (hk : k = .u32 ∨ k = .u64) (x y : W32) : evBits .or k (x.toNat : Int) (y.toNat : Int) = some (.int k ((x ||| y).toNat : Int)) := by
 unfold evBits
 simp only [Aw6 _ (b32 hk)]
 have hb := b32 hk
 have e : (x.setWidth k.bits ||| y.setWidth k.bits).toNat = (x ||| y).toNat := by
  rw [<- BitVec.setWidth_or, BitVec.toNat_setWidth, Nat.mod_eq_of_lt]
  exact Nat.lt_of_lt_of_le (x ||| y).isLt (Nat.pow_le_pow_right (by omega) hb)
 rw [e, Bv7 hk]
 exact Nat.lt_of_lt_of_le (x ||| y).isLt (Nat.pow_le_pow_right (by omega) hb)
theorem BE3 {k : IntKind} (hk : k = .u32 ∨ k = .u64) (x : W32) {n : Nat} (h : n <= 32) : evShift .shr k (x.toNat : Int) (n : Int) = some (.int k ((x >>> n).toNat : Int)) := by
 have hb := b32 hk
 rw [At1 x.toNat n (by omega), BitVec.toNat_ushiftRight, Nat.shiftRight_eq_div_pow]
theorem A32 (x : W32) {n : Nat} (h : n <= 32) : evShift .shl .u32 (x.toNat : Int) (n : Int) = some (.int .u32 ((x <<< n).toNat : Int)) := by
 unfold evShift
 rw [if_neg (by omega)]
 have e : min ((n : Int).toNat) IntKind.u32.bits = n := by rw [Int.toNat_natCast]; show min n 32 = n; omega
 simp only [e]
 congr 2
 rw [BitVec.toNat_shiftLeft, Nat.shiftLeft_eq, AA6]
 simp
end Go.Sv
namespace Go.Sv
open Go
theorem At5 {l : Bts} {k : Nat} (h : k < l.length / 64) : (chunks l)[k]? = some ((l.drop (64 * k)).take 64) := by
 unfold chunks; rw [List.getElem?_map, List.getElem?_range h]; rfl
section
variable (L : Bts)
theorem A73 {k : Nat} (h : k < L.length / 64) : (chunks (padB L))[k]? = some ((L.drop (64 * k)).take 64) := by
 rw [At5 (by rw [Aq4]; omega)]
 unfold padB
 rw [List.append_assoc, List.append_assoc, List.drop_append_of_le_length (by omega), List.take_append_of_le_length (by rw [List.length_drop]; omega)]
theorem A33 : (padB L).drop (64 * (L.length / 64)) = L.drop (64 * (L.length / 64)) ++ ([128] ++ List.replicate (padZ L.length) 0 ++ be8 (L.length * 8)) := by
 unfold padB
 rw [List.append_assoc, List.append_assoc, List.drop_append_of_le_length (by omega), List.append_assoc]
theorem Ba9 (h : L.length % 64 < 56) : (chunks (padB L))[L.length / 64]? = some (L.drop (64 * (L.length / 64)) ++ [128] ++ List.replicate (55 - L.length % 64) 0 ++ be8 (L.length * 8)) /\ (chunks (padB L)).length = L.length / 64 + 1 := by
 have hz : padZ L.length = 55 - L.length % 64 := by unfold padZ; omega
 constructor
 . rw [At5 (by rw [Aq4, hz]; omega), A33, List.take_of_length_le (by simp [As2, hz]; omega), hz]
   simp only [List.append_assoc]
 . rw [Aw5, Aq4, hz]; omega
theorem Bb0 (h : 56 <= L.length % 64) : (chunks (padB L))[L.length / 64]? = some (L.drop (64 * (L.length / 64)) ++ [128] ++ List.replicate (63 - L.length % 64) 0) /\ (chunks (padB L))[L.length / 64 + 1]? = some (List.replicate 56 0 ++ be8 (L.length * 8)) /\ (chunks (padB L)).length = L.length / 64 + 2 := by
 have hz : padZ L.length = (63 - L.length % 64) + 56 := by unfold padZ; omega
 have hl : (L.drop (64 * (L.length / 64)) ++ [128] ++ List.replicate (63 - L.length % 64) (0 : UInt8)).length = 64 := by simp; omega
 have e : (padB L).drop (64 * (L.length / 64)) = (L.drop (64 * (L.length / 64)) ++ [128] ++ List.replicate (63 - L.length % 64) 0) ++ (List.replicate 56 0 ++ be8 (L.length * 8)) := by
  rw [A33, hz, <- List.replicate_append_replicate]; simp only [List.append_assoc]
 refine ⟨?_, ?_, ?_⟩
 . rw [At5 (by rw [Aq4, hz]; omega), e, List.take_left' hl]
 . rw [At5 (by rw [Aq4, hz]; omega), show 64 * (L.length / 64 + 1) = 64 * (L.length / 64) + 64 by omega, <- List.drop_drop, e, List.drop_left' hl, List.take_of_length_le (by simp [As2])]
 . rw [Aw5, Aq4, hz]; omega
end
def Blk64 (p w : Bts) : Prop := w.length = 64 /\ w.take (p.length % 64) = p.drop (64 * (p.length / 64))
theorem take_set {α : Type} (w : List α) {n : Nat} {x : α} (h : n < w.length) : (w.set n x).take (n + 1) = w.take n ++ [x] := by
 rw [List.take_set, List.take_add_one, List.getElem?_eq_getElem h]
 rw [List.set_append, if_neg (by rw [List.length_take]; omega)]
 rw [show n - (w.take n).length = 0 by rw [List.length_take]; omega]; rfl
theorem Blk64.step {p w : Bts} (h : Blk64 p w) (x : UInt8) : ((p.length + 1) % 64 ≠ 0 -> Blk64 (p ++ [x]) (w.set (p.length % 64) x)) /\ ((p.length + 1) % 64 = 0 -> w.set (p.length % 64) x = ((p ++ [x]).drop (64 * (p.length / 64))).take 64 /\ Blk64 (p ++ [x]) (w.set (p.length % 64) x) /\ (p ++ [x]).length / 64 = p.length / 64 + 1) := by
 have e1 : (w.set (p.length % 64) x).take (p.length % 64 + 1) = (p ++ [x]).drop (64 * (p.length / 64)) := by
  rw [take_set _ (by rw [h.1]; omega), h.2, List.drop_append_of_le_length (by omega)]
 refine ⟨fun q => ⟨by rw [List.length_set]; exact h.1, ?_⟩, fun q => ⟨?_, ⟨by rw [List.length_set]; exact h.1, ?_⟩, ?_⟩⟩
 . rw [List.length_append, List.length_singleton, show (p.length + 1) % 64 = p.length % 64 + 1 by omega, show (p.length + 1) / 64 = p.length / 64 by omega]
   exact e1
 . have hl : (w.set (p.length % 64) x).length = 64 := by rw [List.length_set]; exact h.1
   have e2 : (w.set (p.length % 64) x).take (p.length % 64 + 1) = w.set (p.length % 64) x := List.take_of_length_le (by omega)
   rw [<- e1, e2, List.take_of_length_le (by omega)]
 . rw [List.length_append, List.length_singleton, q, List.take_zero, List.drop_of_length_le (by rw [List.length_append, List.length_singleton]; omega)]
 . rw [List.length_append, List.length_singleton]; omega
theorem Bb1 {w : Bts} {i : Nat} {x : UInt8} (h : i < w.length) : putAt (bc w) i [.int .u8 (x.toNat : Int)] = bc (w.set i x) := by
 rw [AQ2 (by rw [Aa5]; exact h)]
 unfold bc; rw [List.map_set]
def cntB (q : Bts) (n i : Nat) : Bts := q ++ List.replicate (8 - i) 0 ++ (be8 n).drop (8 - i)
theorem Bb2 {q : Bts} {n i : Nat} (hq : q.length = 56) (hi : i < 8) : (cntB q n i).set (63 - i) (UInt8.ofNat (n / 256 ^ i)) = cntB q n (i + 1) := by
 unfold cntB
 have hr : List.replicate (8 - i) (0 : UInt8) = List.replicate (7 - i) 0 ++ [0] := by
  rw [show 8 - i = (7 - i) + 1 by omega, List.replicate_succ']
 have hd : (be8 n).drop (8 - (i + 1)) = UInt8.ofNat (n / 256 ^ i) :: (be8 n).drop (8 - i) := by
  rw [show 8 - i = (8 - (i + 1)) + 1 by omega]
  rw [List.drop_eq_getElem_cons (by rw [As2]; omega)]
  congr 1
  unfold be8
  rw [List.getElem_map, List.getElem_range]
  rw [show 7 - (8 - (i + 1)) = i by omega]
 rw [hd, hr, List.append_assoc, List.append_assoc, List.set_append, if_neg (by omega), hq, show 63 - i - 56 = 7 - i by omega, List.set_append, if_neg (by simp), List.length_replicate, Nat.sub_self, show 8 - (i + 1) = 7 - i by omega]
 simp
theorem AQ3 {q : Bts} {n : Nat} : cntB q n 0 = q ++ List.replicate 8 0 := by
 unfold cntB; rw [List.drop_of_length_le (by rw [As2]; omega)]; simp
theorem Bk1 {q : Bts} {n : Nat} : cntB q n 8 = q ++ be8 n := by unfold cntB; simp
theorem Bk2 {q : Bts} {n i : Nat} (hq : q.length = 56) (hi : i <= 8) : (cntB q n i).length = 64 := by
 unfold cntB; simp only [List.length_append, List.length_replicate, List.length_drop, As2, hq]; omega
theorem Bk3 {P : Program} {A : AS} {t e : TypeId} {b b' o' n n' : Nat} {cells cs : List V} (hu : P.underlying t = some (.slice e)) (hs : szT P e = some 1) (hb : A.blk[b]? = some ⟨cells, .var⟩) (hr : A.range b' o' n' = some cs) (hl : cs.length = n') (h1 : cs.all V.one = true) (hn : n' <= n) (hc : n' <= cells.length) :
 ∃ A', evCopy P t (.sl b 0 n 1) (.sl b' o' n' 1) A = some (.int .i64 (n' : Int), A') /\ Fr (· = .row b) A A' /\ A'.blk[b]? = some ⟨cs ++ cells.drop n', .var⟩ := by
 have ho : 0 + cs.length <= cells.length := by omega
 refine ⟨A.setBlk b (putAt cells 0 cs), ?_, Fr.setBlk hb (Ad7 ho), ?_⟩
 . unfold evCopy
   simp only [hu, hs]
   rw [if_pos ⟨trivial, trivial⟩, Nat.min_eq_left hn, Nat.mul_one, hr]
   simp only []
   unfold AS.put
   rw [hb]
   simp only []
   rw [if_pos ⟨ho, h1⟩]; rfl
 . rw [Aj0, hb]
   simp [putAt, hl]
theorem BE4 {P : Program} {A : AS} {t e : TypeId} {n b o z j : Nat} {k : Blk} {kd : IntKind} (hu : P.underlying t = some (.array n e)) (hs : szT P e = some (z + 1)) (hb : A.blk[b]? = some k) (hl : o + n * (z + 1) <= k.cells.length) (hj : j <= n) :
 evSlice P t (.ptr b o) none (some (.int kd (j : Int))) none A = some (.sl b o j (z + 1)) := by
 unfold evSlice
 have e2 : (j : Int) <= n := by omega
 simp only [hu, hs, boundV]
 unfold AS.range
 rw [hb]; simp [hl, e2]
end Go.Sv
namespace Go.Sv
open Go
def leafH (b : Bts) : Bts := sha (0 :: b)
def nodeH (a b : Bts) : Bts := sha (1 :: (a ++ b))
theorem AC0 (b : Bts) : (leafH b).length = 32 := An8 _
theorem Al9 (a b : Bts) : (nodeH a b).length = 32 := An8 _
def halfF : Nat -> Nat -> Nat -> Nat
 | 0, _, k => k
 | f + 1, n, k => if k * 2 < n then halfF f n (k * 2) else k
def half (n : Nat) : Nat := halfF n n 1
theorem AQ4 : ∀ (f : Nat) {n a : Nat}, 2 ^ a < n -> n <= 2 ^ a * 2 ^ f -> ∃ c, halfF f n (2 ^ a) = 2 ^ c /\ 2 ^ c < n /\ n <= 2 ^ (c + 1)
 | 0, n, a, h1, h2 => by rw [Nat.pow_zero, Nat.mul_one] at h2; omega
 | f + 1, n, a, h1, h2 => by
  unfold halfF
  split
  . rename_i q
    rw [<- Nat.pow_succ] at q ⊢
    exact AQ4 f q (by rw [Nat.pow_succ 2 f, Nat.mul_comm (2 ^ f), <- Nat.mul_assoc, <- Nat.pow_succ] at h2; exact h2)
  . rename_i q
    exact ⟨a, rfl, h1, by rw [Nat.pow_succ]; omega⟩
theorem AL2 {n : Nat} (h : 2 <= n) : ∃ c, half n = 2 ^ c /\ 2 ^ c < n /\ n <= 2 ^ (c + 1) := by
 have := AQ4 n (n := n) (a := 0) (by simp; omega) (by
  have : n < 2 ^ n := Nat.lt_two_pow_self
  simp; omega)
 exact this
theorem AC1 {n c : Nat} (h1 : 2 ^ c < n) (h2 : n <= 2 ^ (c + 1)) : half n = 2 ^ c := by
 have hp : 0 < 2 ^ c := Nat.pow_pos (by decide)
 obtain ⟨d, e1, e2, e3⟩ := AL2 (n := n) (by omega)
 rw [e1]
 have a1 : d < c + 1 := (Nat.pow_lt_pow_iff_right (a := 2) (by decide)).1 (Nat.lt_of_lt_of_le e2 h2)
 have a2 : c < d + 1 := (Nat.pow_lt_pow_iff_right (a := 2) (by decide)).1 (Nat.lt_of_lt_of_le h1 e3)
 rw [show d = c by omega]
theorem AX2 {n : Nat} (h : 2 <= n) : 0 < half n /\ half n < n := by
 obtain ⟨c, e1, e2, _⟩ := AL2 h
 rw [e1]; exact ⟨Nat.pow_pos (by decide), e2⟩
def rootF : Nat -> List Bts -> Bts
 | 0, _ => []
 | f + 1, l => if l.length = 0 then sha [] else if l.length = 1 then l.headD [] else nodeH (rootF f (l.take (half l.length))) (rootF f (l.drop (half l.length)))
theorem Ak6 : ∀ (f g : Nat) (l : List Bts), l.length < f -> l.length < g -> rootF f l = rootF g l
 | 0, g, l, h, _ => by omega
 | f + 1, 0, l, _, h => by omega
 | f + 1, g + 1, l, h1, h2 => by
  unfold rootF
  split
  . rfl
  split
  . rfl
  . rename_i a b
    obtain ⟨x, y⟩ := AX2 (n := l.length) (by omega)
    rw [Ak6 f g (l.take (half l.length)) (by rw [List.length_take]; omega) (by rw [List.length_take]; omega), Ak6 f g (l.drop (half l.length)) (by rw [List.length_drop]; omega) (by rw [List.length_drop]; omega)]
def rootR (l : List Bts) : Bts := rootF (l.length + 1) l
theorem Bb3 : rootR [] = sha [] := rfl
theorem Ai6 {l : List Bts} (h : 2 <= l.length) : rootR l = nodeH (rootR (l.take (half l.length))) (rootR (l.drop (half l.length))) := by
 obtain ⟨x, y⟩ := AX2 h
 unfold rootR
 rw [rootF, if_neg (by omega), if_neg (by omega)]
 rw [Ak6 l.length ((l.take (half l.length)).length + 1) _ (by rw [List.length_take]; omega) (by omega), Ak6 l.length ((l.drop (half l.length)).length + 1) _ (by rw [List.length_drop]; omega) (by omega)]
theorem Ad6 {l : List Bts} (h : ∀ x ∈ l, x.length = 32) : (rootR l).length = 32 := by
 match l, h with
 | [], _ => exact An8 _
 | [x], h => exact h x (by simp)
 | x :: y :: r, _ => rw [Ai6 (by simp)]; exact Al9 _ _
abbrev Peaks := List (Nat × List Bts)
def Pk.cat (L : Peaks) : List Bts := L.flatMap (·.2)
def Pk.ok (L : Peaks) : Prop := (∀ p ∈ L, p.2.length = 2 ^ p.1) /\ L.Pairwise (fun p q => q.1 < p.1)
def Pk.tops (L : Peaks) : List Bts := L.map fun p => rootR p.2
theorem Pk.cat_cons (p : Nat × List Bts) (L : Peaks) : Pk.cat (p :: L) = p.2 ++ Pk.cat L := rfl
theorem Pk.cat_app (L M : Peaks) : Pk.cat (L ++ M) = Pk.cat L ++ Pk.cat M := by unfold Pk.cat; rw [List.flatMap_append]
theorem Pk.lt : ∀ {L : Peaks} {k : Nat}, Pk.ok L -> (∀ p ∈ L, p.1 < k) -> (Pk.cat L).length < 2 ^ k
 | [], k, _, _ => by show 0 < 2 ^ k; exact Nat.pow_pos (by decide)
 | p :: L, k, h, hk => by
  have h1 := List.pairwise_cons.1 h.2
  have h2 := Pk.lt (L := L) (k := p.1) ⟨fun q hq => h.1 q (by simp [hq]), h1.2⟩ h1.1
  have h3 := hk p (by simp)
  rw [Pk.cat_cons, List.length_append, h.1 p (by simp)]
  have : 2 ^ (p.1 + 1) <= 2 ^ k := Nat.pow_le_pow_right (by decide) h3
  rw [Nat.pow_succ] at this; omega
def Pk.root : Peaks -> Bts
 | [] => sha []
 | [p] => rootR p.2
 | p :: q :: L => nodeH (rootR p.2) (Pk.root (q :: L))
theorem Pk.root_eq : ∀ {L : Peaks}, Pk.ok L -> Pk.root L = rootR (Pk.cat L)
 | [], _ => rfl
 | [p], _ => by simp [Pk.root, Pk.cat]
 | p :: q :: L, h => by
  have h1 := List.pairwise_cons.1 h.2
  have hok : Pk.ok (q :: L) := ⟨fun x hx => h.1 x (List.mem_cons_of_mem _ hx), h1.2⟩
  have ih := Pk.root_eq hok
  have hlt := Pk.lt hok h1.1
  have hp := h.1 p (by simp)
  have hq := h.1 q (by simp)
  have hq0 : 0 < 2 ^ q.1 := Nat.pow_pos (by decide)
  have hge : 0 < (Pk.cat (q :: L)).length := by rw [Pk.cat_cons, List.length_append, hq]; omega
  have hpp : 0 < 2 ^ p.1 := Nat.pow_pos (by decide)
  have hl : (Pk.cat (p :: q :: L)).length = 2 ^ p.1 + (Pk.cat (q :: L)).length := by rw [Pk.cat_cons, List.length_append, hp]
  have hh : half (Pk.cat (p :: q :: L)).length = 2 ^ p.1 := AC1 (by omega) (by rw [Nat.pow_succ]; omega)
  rw [Ai6 (by omega), hh, Pk.cat_cons, <- hp, List.take_left, List.drop_left, <- ih]
  rfl
theorem AH3 {k : Nat} {a b : List Bts} (ha : a.length = 2 ^ k) (hb : b.length = 2 ^ k) : rootR (a ++ b) = nodeH (rootR a) (rootR b) := by
 have hpp : 0 < 2 ^ k := Nat.pow_pos (by decide)
 have hl : (a ++ b).length = 2 ^ k + 2 ^ k := by rw [List.length_append, ha, hb]
 have hh : half (a ++ b).length = 2 ^ k := AC1 (by omega) (by rw [Nat.pow_succ]; omega)
 rw [Ai6 (by omega), hh, <- ha, List.take_left, List.drop_left]
theorem Pk.odd {L : Peaks} {j : Nat} (h : Pk.ok L) (hj : ∀ p ∈ L, j <= p.1) : ((Pk.cat L).length / 2 ^ j % 2 = 1 ↔ ∃ c M, L = M ++ [(j, c)]) /\ (Pk.cat L).length % 2 ^ j = 0 := by
 have hpj : 0 < 2 ^ j := Nat.pow_pos (by decide)
 have dv : ∀ {L : Peaks} {i : Nat}, (∀ p ∈ L, p.2.length = 2 ^ p.1) -> (∀ p ∈ L, i <= p.1) -> 2 ^ i ∣ (Pk.cat L).length := by
  intro L
  induction L with
  | nil => intro i _ _; exact ⟨0, rfl⟩
  | cons p L ih =>
   intro i h1 h2
   rw [Pk.cat_cons, List.length_append, h1 p (by simp)]
   exact Nat.dvd_add (Nat.pow_dvd_pow 2 (h2 p (by simp))) (ih (fun q hq => h1 q (by simp [hq])) fun q hq => h2 q (by simp [hq]))
 refine ⟨⟨fun q => ?_, fun ⟨c, M, e⟩ => ?_⟩, Nat.mod_eq_zero_of_dvd (dv h.1 hj)⟩
 . rcases List.eq_nil_or_concat L with e | ⟨M, p, e⟩
   . rw [e] at q; simp [Pk.cat] at q
   . rw [List.concat_eq_append] at e
     by_cases w : p.1 = j
     . exact ⟨p.2, M, by rw [e, <- w]⟩
     . exfalso
       have hM : ∀ x ∈ L, j + 1 <= x.1 := by
        intro x hx
        rw [e] at hx
        have hpj := hj p (by rw [e]; simp)
        rcases List.mem_append.1 hx with hx | hx
        . have hpw := h.2
          rw [e, List.pairwise_append] at hpw
          have := hpw.2.2 x hx p (by simp)
          omega
        . rw [List.mem_singleton.1 hx]; omega
       obtain ⟨t, ht⟩ := dv h.1 hM
       rw [ht, Nat.pow_succ, Nat.mul_assoc, Nat.mul_div_cancel_left _ hpj] at q
       omega
 . have hM : ∀ x ∈ M, j + 1 <= x.1 := fun x hx => by
    have hpw := h.2
    rw [e, List.pairwise_append] at hpw
    have := hpw.2.2 x hx (j, c) (by simp)
    have this : j < x.1 := this
    omega
   have hMl : ∀ p ∈ M, p.2.length = 2 ^ p.1 := fun p hp => h.1 p (by rw [e]; simp [hp])
   have hcl : c.length = 2 ^ j := h.1 (j, c) (by rw [e]; simp)
   obtain ⟨t, ht⟩ := dv hMl hM
   have : (Pk.cat L).length = 2 ^ j * (2 * t + 1) := by
    rw [e, Pk.cat_app, List.length_append, ht]
    show 2 ^ (j + 1) * t + (c ++ []).length = _
    rw [List.append_nil, hcl, Nat.pow_succ, Nat.mul_assoc, Nat.mul_add, Nat.mul_one]
   rw [this, Nat.mul_div_cancel_left _ hpj]; omega
theorem Pk.pop {M : Peaks} {j : Nat} {c : List Bts} (h : Pk.ok (M ++ [(j, c)])) : Pk.ok M /\ (∀ p ∈ M, j + 1 <= p.1) /\ c.length = 2 ^ j := by
 have hpw := h.2
 rw [List.pairwise_append] at hpw
 exact ⟨⟨fun p hp => h.1 p (by simp [hp]), hpw.1⟩, fun p hp => by have : j < p.1 := hpw.2.2 p hp (j, c) (by simp); omega, h.1 (j, c) (by simp)⟩
theorem Pk.push {M : Peaks} {j : Nat} {c : List Bts} (h : Pk.ok M) (hj : ∀ p ∈ M, j <= p.1) (hc : c.length = 2 ^ j) (hn : ¬ ∃ c' M', M = M' ++ [(j, c')]) : Pk.ok (M ++ [(j, c)]) := by
 refine ⟨fun p hp => ?_, ?_⟩
 . rcases List.mem_append.1 hp with hp | hp
   . exact h.1 p hp
   . rw [List.mem_singleton.1 hp]; exact hc
 . rw [List.pairwise_append]
   refine ⟨h.2, by simp, fun a ha b hb => ?_⟩
   rw [List.mem_singleton.1 hb]
   show j < a.1
   have h1 := hj a ha
   rcases Nat.lt_or_ge j a.1 with q | q
   . exact q
   . exfalso
     obtain ⟨M1, M2, e⟩ := List.append_of_mem ha
     cases M2 with
     | nil => exact hn ⟨a.2, M1, by rw [e, show j = a.1 by omega]⟩
     | cons b M2 =>
      have hpw := h.2
      rw [e, List.pairwise_append] at hpw
      have h2 := (List.pairwise_cons.1 hpw.2.1).1 b (by simp)
      have h3 := hj b (by rw [e]; simp)
      omega
end Go.Sv
