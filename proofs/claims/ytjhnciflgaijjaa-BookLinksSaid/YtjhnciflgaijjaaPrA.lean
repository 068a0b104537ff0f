/- Ways from leaves to roots, without the program. -/
import Derived.Test.YtjhnciflgaijjaaAu0
import Derived.Test.YtjhnciflgaijjaaAuC
import Derived.Test.YtjhnciflgaijjaaBkB
import Derived.Test.YtjhnciflgaijjaaBpA
import Derived.Test.YtjhnciflgaijjaaBpB
set_option linter.unusedSimpArgs false
set_option linter.unusedVariables false
open Nat renaming reduceLT → Q0, reduceBEq → Q1, reduceEqDiff → Q2, reduceAdd → Q3
open Int renaming reduceEq → Q4, reduceLT → Q5, reduceLE → Q6, reduceGT → Q7, reduceGE → Q8
namespace Go.Sv
open Go
def skip (node last : Nat) : Nat × Nat := if h : node % 2 = 0 /\ node ≠ 0 then skip (node / 2) (last / 2) else (node, last)
termination_by node
decreasing_by omega
theorem Ah2 {node last : Nat} (h : node % 2 = 1 ∨ node = 0) : skip node last = (node, last) := by
 rw [skip, dif_neg (by omega)]
theorem AD2 {node last : Nat} (h : node % 2 = 0) (h0 : node ≠ 0) : skip node last = skip (node / 2) (last / 2) := by
 rw [skip, dif_pos ⟨h, h0⟩]
def ones (n : Nat) : Nat := if h : n % 2 = 1 then ones (n / 2) + 1 else 0
termination_by n
decreasing_by omega
theorem Au0 {n : Nat} (h : n % 2 = 1) : ones n = ones (n / 2) + 1 := by rw [ones, dif_pos h]
theorem Am1 {n : Nat} (h : n % 2 = 0) : ones n = 0 := by rw [ones, dif_neg (by omega)]
def runC : List Bts -> Nat -> Nat -> Bts -> Bts -> Option (Nat × Bts × Bts)
 | [], node, last, a, b => some (last, a, b)
 | p :: ps, node, last, a, b => if last = 0 then none else if node % 2 = 1 ∨ node = last then runC ps ((skip node last).1 / 2) ((skip node last).2 / 2) (nodeH p a) (nodeH p b) else runC ps (node / 2) (last / 2) a (nodeH b p)
theorem AS2 {P : List Bts} {node : Nat} {a b : Bts} {y : Bts × Bts} (h : runC P node 0 a b = some (0, y)) : P = [] /\ (a, b) = y := by
 cases P with
 | nil => exact ⟨rfl, by simpa [runC] using h⟩
 | cons p ps => simp [runC] at h
theorem AS3 {P : List Bts} {node last : Nat} {a b : Bts} {y : Bts × Bts} (h : runC P node last a b = some (0, y)) (h0 : last ≠ 0) : ∃ p ps, P = p :: ps := by
 cases P with
 | nil => simp [runC] at h; exact absurd h.1 h0
 | cons p ps => exact ⟨p, ps, rfl⟩
theorem Au1 : ∀ (j : Nat) {P : List Bts} {node last : Nat} {a b r : Bts} {y : Bts × Bts}, node < 2 ^ j -> 2 ^ j <= last -> last < 2 ^ (j + 1) -> runC P node (2 ^ j - 1) a b = some (0, y) -> runC (P ++ [r]) node last a b = some (0, y.1, nodeH y.2 r)
 | 0, P, node, last, a, b, r, y, h1, h2, h3, h => by
  have hn : node = 0 := by simp at h1; exact h1
  have hl : last = 1 := by simp at h2 h3; omega
  subst hn hl
  obtain ⟨rfl, rfl⟩ := AS2 h
  simp [runC]
 | j + 1, P, node, last, a, b, r, y, h1, h2, h3, h => by
  have e1 : 2 ^ (j + 1) = 2 * 2 ^ j := by rw [Nat.pow_succ]; omega
  have e2 : 2 ^ (j + 1 + 1) = 2 * (2 * 2 ^ j) := by rw [Nat.pow_succ, e1]; omega
  have hp : 0 < 2 ^ j := Nat.pow_pos (by decide)
  obtain ⟨p, ps, rfl⟩ := AS3 h (by omega)
  have e3 : (2 ^ (j + 1) - 1) / 2 = 2 ^ j - 1 := by omega
  unfold runC at h
  rw [if_neg (by omega)] at h
  rw [List.cons_append]
  unfold runC
  rw [if_neg (by omega)]
  by_cases q : node % 2 = 1
  . rw [if_pos (.inl q)] at h ⊢
    rw [Ah2 (.inl q)] at h ⊢
    simp only [e3] at h ⊢
    exact Au1 j (by omega) (by omega) (by omega) h
  . rw [if_neg (by omega), e3] at h
    rw [if_neg (by omega)]
    exact Au1 j (by omega) (by omega) (by omega) h
theorem A42 : ∀ (j : Nat) {node last : Nat}, 0 < node -> node < 2 ^ j -> node <= last -> last < 2 ^ j -> ∃ i, i < j /\ (skip node last).1 / 2 < 2 ^ i /\ (skip node last).2 / 2 < 2 ^ i /\ (skip node last).1 / 2 <= (skip node last).2 / 2 /\ (skip (node + 2 ^ j) (last + 2 ^ j)).1 / 2 = (skip node last).1 / 2 + 2 ^ i /\ (skip (node + 2 ^ j) (last + 2 ^ j)).2 / 2 = (skip node last).2 / 2 + 2 ^ i
 | 0, node, last, h0, h1, _, _ => by simp at h1; omega
 | j + 1, node, last, h0, h1, h2, h3 => by
  have e1 : 2 ^ (j + 1) = 2 * 2 ^ j := by rw [Nat.pow_succ]; omega
  by_cases q : node % 2 = 1
  . rw [Ah2 (.inl q), Ah2 (.inl (by omega))]
    refine ⟨j, by omega, ?_, ?_, ?_, ?_, ?_⟩ <;> (try dsimp only) <;> omega
  . rw [AD2 (by omega) (by omega), AD2 (node := node + 2 ^ (j + 1)) (by omega) (by omega)]
    have a1 : (node + 2 ^ (j + 1)) / 2 = node / 2 + 2 ^ j := by omega
    have a2 : (last + 2 ^ (j + 1)) / 2 = last / 2 + 2 ^ j := by omega
    rw [a1, a2]
    obtain ⟨i, q1, q2⟩ := A42 j (node := node / 2) (last := last / 2) (by omega) (by omega) (by omega) (by omega)
    exact ⟨i, by omega, q2⟩
theorem A43 : ∀ j : Nat, skip (2 ^ j) (2 ^ j) = (1, 1)
 | 0 => by rw [Ah2 (.inl rfl)]
 | j + 1 => by
  have e1 : 2 ^ (j + 1) = 2 * 2 ^ j := by rw [Nat.pow_succ]; omega
  have hp : 0 < 2 ^ j := Nat.pow_pos (by decide)
  rw [AD2 (by omega) (by omega), show 2 ^ (j + 1) / 2 = 2 ^ j by omega]
  exact A43 j
theorem AI6 : ∀ (j : Nat) {P : List Bts} {node last : Nat} {a b r : Bts} {y : Bts × Bts}, node <= last -> last < 2 ^ j -> runC P node last a b = some (0, y) -> runC (P ++ [r]) (node + 2 ^ j) (last + 2 ^ j) a b = some (0, nodeH r y.1, nodeH r y.2) := by
 intro j
 induction j using Nat.strongRecOn with
 | ind j ih =>
  intro P node last a b r y h1 h2 h
  have hp : 0 < 2 ^ j := Nat.pow_pos (by decide)
  by_cases hl : last = 0
  . subst hl
    have hn : node = 0 := by omega
    subst hn
    obtain ⟨rfl, rfl⟩ := AS2 h
    rw [Nat.zero_add, List.nil_append]
    unfold runC
    rw [if_neg (by omega), if_pos (.inr rfl), A43]
    simp [runC]
  . obtain ⟨p, ps, rfl⟩ := AS3 h hl
    obtain ⟨k, rfl⟩ : ∃ k, j = k + 1 := by
     cases j with
     | zero => simp at h2; omega
     | succ k => exact ⟨k, rfl⟩
    have e1 : 2 ^ (k + 1) = 2 * 2 ^ k := by rw [Nat.pow_succ]; omega
    unfold runC at h
    rw [if_neg hl] at h
    rw [List.cons_append]
    unfold runC
    rw [if_neg (by omega)]
    by_cases q : node % 2 = 1 ∨ node = last
    . rw [if_pos q] at h
      rw [if_pos (by omega)]
      obtain ⟨i, q1, q2, q3, q4, q5, q6⟩ := A42 (k + 1) (node := node) (last := last) (by omega) (by omega) h1 h2
      rw [q5, q6]
      exact ih i q1 q4 q3 h
    . rw [if_neg q] at h
      rw [if_neg (by omega), show (node + 2 ^ (k + 1)) / 2 = node / 2 + 2 ^ k by omega, show (last + 2 ^ (k + 1)) / 2 = last / 2 + 2 ^ k by omega]
      exact ih k (by omega) (by omega) (by omega) h
def subF : Nat -> List Bts -> Nat -> Bool -> List Bts × Bts × Bool
 | 0, l, m, wh => ([], rootR l, wh)
 | f + 1, l, m, wh => if l.length <= m then ([], rootR l, wh) else
  if m <= half l.length then ((subF f (l.take (half l.length)) m wh).1 ++ [rootR (l.drop (half l.length))], (subF f (l.take (half l.length)) m wh).2)
  else ((subF f (l.drop (half l.length)) (m - half l.length) false).1 ++ [rootR (l.take (half l.length))], (subF f (l.drop (half l.length)) (m - half l.length) false).2)
theorem AZ0 : ∀ (j : Nat) {n : Nat}, n < 2 ^ j -> ones n <= j
 | 0, n, h => by
  have : n = 0 := by simp at h; exact h
  subst this; rw [Am1 rfl]; exact Nat.le_refl _
 | j + 1, n, h => by
  have e1 : 2 ^ (j + 1) = 2 * 2 ^ j := by rw [Nat.pow_succ]; omega
  by_cases q : n % 2 = 1
  . rw [Au0 q]; have := AZ0 j (n := n / 2) (by omega); omega
  . rw [Am1 (by omega)]; omega
theorem AL9 : ∀ (j : Nat) {n : Nat}, n + 1 < 2 ^ j -> ones (n + 2 ^ j) = ones n /\ ones n < j
 | 0, n, h => by simp at h
 | j + 1, n, h => by
  have e1 : 2 ^ (j + 1) = 2 * 2 ^ j := by rw [Nat.pow_succ]; omega
  by_cases q : n % 2 = 1
  . rw [Au0 q, Au0 (n := n + 2 ^ (j + 1)) (by omega), show (n + 2 ^ (j + 1)) / 2 = n / 2 + 2 ^ j by omega]
    have := AL9 j (n := n / 2) (by omega)
    exact ⟨by rw [this.1], by omega⟩
  . rw [Am1 (by omega), Am1 (by omega)]; exact ⟨rfl, by omega⟩
theorem AS4 : ∀ j : Nat, ones (2 ^ j - 1) = j
 | 0 => Am1 rfl
 | j + 1 => by
  have e1 : 2 ^ (j + 1) = 2 * 2 ^ j := by rw [Nat.pow_succ]; omega
  have hp : 0 < 2 ^ j := Nat.pow_pos (by decide)
  rw [Au0 (by omega), show (2 ^ (j + 1) - 1) / 2 = 2 ^ j - 1 by omega, AS4 j]
theorem Ap3 {j t : Nat} (h : t <= j) : 2 ^ j = 2 ^ t * 2 ^ (j - t) := by rw [<- Nat.pow_add]; congr 1; omega
theorem A44 {j t : Nat} (h : t <= j) : (2 ^ j - 1) / 2 ^ t = 2 ^ (j - t) - 1 := by
 have hp : 0 < 2 ^ t := Nat.pow_pos (by decide)
 have hq : 0 < 2 ^ (j - t) := Nat.pow_pos (by decide)
 rw [Ap3 h]
 obtain ⟨x, hx⟩ : ∃ x, 2 ^ (j - t) = x + 1 := ⟨2 ^ (j - t) - 1, by omega⟩
 rw [hx, show x + 1 - 1 = x by omega]
 rw [Nat.div_eq_iff hp]
 constructor
 . rw [Nat.mul_add, Nat.mul_comm x]; omega
 . rw [Nat.mul_add, Nat.mul_comm x]; omega
theorem AI7 {n j t : Nat} (h : t <= j) (h1 : 2 ^ j <= n) (h2 : n < 2 ^ (j + 1)) : 2 ^ (j - t) <= n / 2 ^ t /\ n / 2 ^ t < 2 ^ (j - t + 1) := by
 have hp : 0 < 2 ^ t := Nat.pow_pos (by decide)
 refine ⟨(Nat.le_div_iff_mul_le hp).2 (by rw [Nat.mul_comm, <- Ap3 h]; exact h1), (Nat.div_lt_iff_lt_mul hp).2 ?_⟩
 rw [Nat.mul_comm, show j - t + 1 = j + 1 - t by omega, <- Ap3 (by omega)]; exact h2
theorem AM0 {n j t : Nat} (h : t <= j) : (n + 2 ^ j) / 2 ^ t = n / 2 ^ t + 2 ^ (j - t) := by
 have hp : 0 < 2 ^ t := Nat.pow_pos (by decide)
 rw [Ap3 h, Nat.add_mul_div_left _ _ hp]
theorem A45 {n j t : Nat} (h : t <= j) (hn : n < 2 ^ j) : n / 2 ^ t < 2 ^ (j - t) := by
 have hp : 0 < 2 ^ t := Nat.pow_pos (by decide)
 exact (Nat.div_lt_iff_lt_mul hp).2 (by rw [Nat.mul_comm, <- Ap3 h]; exact hn)
theorem Bd8 {j : Nat} : half (2 ^ (j + 1)) = 2 ^ j := AC1 (by rw [Nat.pow_succ]; have : 0 < 2 ^ j := Nat.pow_pos (by decide); omega) (Nat.le_refl _)
structure LeadsTo (l : List Bts) (m : Nat) (s : List Bts × Bts × Bool) (wh : Bool) : Prop where
 run : runC s.1 ((m - 1) / 2 ^ ones (m - 1)) ((l.length - 1) / 2 ^ ones (m - 1)) s.2.1 s.2.1 = some (0, rootR (l.take m), rootR l)
 all : s.2.2 = true -> (m - 1) / 2 ^ ones (m - 1) = 0 /\ s.2.1 = rootR (l.take m)
 some' : s.2.2 = false -> wh = true -> 0 < (m - 1) / 2 ^ ones (m - 1)
 wh' : wh = false -> s.2.2 = false
theorem Au2 {l : List Bts} {m : Nat} {c : Nat} (hm : m <= 2 ^ c) : (l.take (2 ^ c)).take m = l.take m := by rw [List.take_take, Nat.min_eq_left hm]
theorem AI8 {l : List Bts} {m c : Nat} (h1 : 2 ^ c < m) (h2 : m <= 2 ^ (c + 1)) (h3 : m <= l.length) : rootR (l.take m) = nodeH (rootR (l.take (2 ^ c))) (rootR ((l.drop (2 ^ c)).take (m - 2 ^ c))) := by
 have hp : 0 < 2 ^ c := Nat.pow_pos (by decide)
 have hl : (l.take m).length = m := by rw [List.length_take]; omega
 rw [Ai6 (by omega), hl, AC1 h1 h2, List.take_take, Nat.min_eq_left (by omega), List.drop_take]
theorem Ax0 : ∀ (j f : Nat) {l : List Bts} {m : Nat} (wh : Bool), l.length = 2 ^ j -> 1 <= m -> m <= 2 ^ j -> l.length <= f -> LeadsTo l m (subF f l m wh) wh
 | j, 0, l, m, wh, hl, _, _, hf => by have : 0 < 2 ^ j := Nat.pow_pos (by decide); omega
 | j, f + 1, l, m, wh, hl, h1, h2, hf => by
  by_cases hm : l.length <= m
  . have e : subF (f + 1) l m wh = ([], rootR l, wh) := by unfold subF; rw [if_pos hm]
    have em : m = 2 ^ j := by omega
    have et : l.take m = l := List.take_of_length_le hm
    have eo : ones (m - 1) = j := by rw [em, AS4]
    have hp : 0 < 2 ^ j := Nat.pow_pos (by decide)
    have ed : (m - 1) / 2 ^ j = 0 := by rw [em]; exact Nat.div_eq_of_lt (by omega)
    refine ⟨?_, ?_, ?_, ?_⟩
    . have ed2 : (2 ^ j - 1) / 2 ^ j = 0 := Nat.div_eq_of_lt (by omega)
      rw [e, et, eo, hl, ed, ed2]; rfl
    . rw [e, et, eo, ed]; exact fun _ => ⟨rfl, rfl⟩
    . rw [e]; intro q1 q2; simp only at q1; rw [q1] at q2; cases q2
    . rw [e]; exact fun q => q
  . obtain ⟨k, rfl⟩ : ∃ k, j = k + 1 := by
     cases j with
     | zero => simp at hl h2; omega
     | succ k => exact ⟨k, rfl⟩
    have e1 : 2 ^ (k + 1) = 2 * 2 ^ k := by rw [Nat.pow_succ]; omega
    have hp : 0 < 2 ^ k := Nat.pow_pos (by decide)
    have hh : half l.length = 2 ^ k := by rw [hl, Bd8]
    have hroot : rootR l = nodeH (rootR (l.take (2 ^ k))) (rootR (l.drop (2 ^ k))) := by rw [Ai6 (by omega), hh]
    by_cases hk : m <= 2 ^ k
    . have e : subF (f + 1) l m wh = ((subF f (l.take (2 ^ k)) m wh).1 ++ [rootR (l.drop (2 ^ k))], (subF f (l.take (2 ^ k)) m wh).2) := by
       conv => lhs; unfold subF
       rw [if_neg hm, hh, if_pos hk]
      have ih := Ax0 k f (l := l.take (2 ^ k)) (m := m) wh (by rw [List.length_take]; omega) h1 hk (by rw [List.length_take]; omega)
      obtain ⟨r1, r2, r3, r4⟩ := ih
      have hlt : (l.take (2 ^ k)).length = 2 ^ k := by rw [List.length_take]; omega
      have ho := AZ0 k (n := m - 1) (by omega)
      rw [hlt, A44 ho, Au2 hk] at r1
      rw [Au2 hk] at r2
      refine ⟨?_, ?_, ?_, ?_⟩
      . rw [e, hl]
        have hb := AI7 (n := 2 ^ (k + 1) - 1) ho (by omega) (by omega)
        have := Au1 (k - ones (m - 1)) (r := rootR (l.drop (2 ^ k))) (A45 ho (by omega)) hb.1 hb.2 r1
        rw [<- hroot] at this
        exact this
      . rw [e]; exact r2
      . rw [e]; exact r3
      . rw [e]; exact r4
    . have e : subF (f + 1) l m wh = ((subF f (l.drop (2 ^ k)) (m - 2 ^ k) false).1 ++ [rootR (l.take (2 ^ k))], (subF f (l.drop (2 ^ k)) (m - 2 ^ k) false).2) := by
       conv => lhs; unfold subF
       rw [if_neg hm, hh, if_neg hk]
      have ih := Ax0 k f (l := l.drop (2 ^ k)) (m := m - 2 ^ k) false (by rw [List.length_drop]; omega) (by omega) (by omega) (by rw [List.length_drop]; omega)
      obtain ⟨r1, r2, r3, r4⟩ := ih
      have hld : (l.drop (2 ^ k)).length = 2 ^ k := by rw [List.length_drop]; omega
      obtain ⟨o1, o2⟩ := AL9 k (n := m - 2 ^ k - 1) (by omega)
      have em : m - 2 ^ k - 1 + 2 ^ k = m - 1 := by omega
      rw [em] at o1
      rw [hld, <- o1] at r1
      have hdm := AM0 (n := m - 2 ^ k - 1) (j := k) (t := ones (m - 1)) (by omega)
      have hdl := AM0 (n := 2 ^ k - 1) (j := k) (t := ones (m - 1)) (by omega)
      rw [em] at hdm
      rw [show 2 ^ k - 1 + 2 ^ k = 2 ^ (k + 1) - 1 by omega] at hdl
      have hq : 0 < 2 ^ (k - ones (m - 1)) := Nat.pow_pos (by decide)
      refine ⟨?_, ?_, ?_, ?_⟩
      . rw [e, hl, hdm, hdl]
        have := AI6 (k - ones (m - 1)) (r := rootR (l.take (2 ^ k))) (Nat.div_le_div_right (by omega)) (A45 (by omega) (by omega)) r1
        rw [<- hroot, <- AI8 (by omega) (by omega) (by omega)] at this
        exact this
      . rw [e]; intro q; rw [r4 rfl] at q; cases q
      . rw [e, hdm]; intro _ _; exact Nat.add_pos_right _ hq
      . rw [e]; exact fun _ => r4 rfl
theorem A46 : ∀ (f : Nat) {l : List Bts} {m : Nat} (wh : Bool), 1 <= m -> m < l.length -> l.length <= f -> LeadsTo l m (subF f l m wh) wh
 | 0, l, m, wh, _, _, hf => by omega
 | f + 1, l, m, wh, h1, h2, hf => by
  obtain ⟨c, hh, c1, c2⟩ := AL2 (n := l.length) (by omega)
  have e1 : 2 ^ (c + 1) = 2 * 2 ^ c := by rw [Nat.pow_succ]; omega
  have hp : 0 < 2 ^ c := Nat.pow_pos (by decide)
  have hroot : rootR l = nodeH (rootR (l.take (2 ^ c))) (rootR (l.drop (2 ^ c))) := by rw [Ai6 (by omega), hh]
  have hm : ¬ l.length <= m := by omega
  by_cases hk : m <= 2 ^ c
  . have e : subF (f + 1) l m wh = ((subF f (l.take (2 ^ c)) m wh).1 ++ [rootR (l.drop (2 ^ c))], (subF f (l.take (2 ^ c)) m wh).2) := by
     conv => lhs; unfold subF
     rw [if_neg hm, hh, if_pos hk]
    obtain ⟨r1, r2, r3, r4⟩ := Ax0 c f (l := l.take (2 ^ c)) (m := m) wh (by rw [List.length_take]; omega) h1 hk (by rw [List.length_take]; omega)
    have hlt : (l.take (2 ^ c)).length = 2 ^ c := by rw [List.length_take]; omega
    have ho := AZ0 c (n := m - 1) (by omega)
    rw [hlt, A44 ho, Au2 hk] at r1
    rw [Au2 hk] at r2
    refine ⟨?_, ?_, ?_, ?_⟩
    . rw [e]
      have hb := AI7 (n := l.length - 1) ho (by omega) (by omega)
      have := Au1 (c - ones (m - 1)) (r := rootR (l.drop (2 ^ c))) (A45 ho (by omega)) hb.1 hb.2 r1
      rw [<- hroot] at this
      exact this
    . rw [e]; exact r2
    . rw [e]; exact r3
    . rw [e]; exact r4
  . have e : subF (f + 1) l m wh = ((subF f (l.drop (2 ^ c)) (m - 2 ^ c) false).1 ++ [rootR (l.take (2 ^ c))], (subF f (l.drop (2 ^ c)) (m - 2 ^ c) false).2) := by
     conv => lhs; unfold subF
     rw [if_neg hm, hh, if_neg hk]
    obtain ⟨r1, r2, r3, r4⟩ := A46 f (l := l.drop (2 ^ c)) (m := m - 2 ^ c) false (by omega) (by rw [List.length_drop]; omega) (by rw [List.length_drop]; omega)
    have hld : (l.drop (2 ^ c)).length = l.length - 2 ^ c := by rw [List.length_drop]
    obtain ⟨o1, o2⟩ := AL9 c (n := m - 2 ^ c - 1) (by omega)
    have em : m - 2 ^ c - 1 + 2 ^ c = m - 1 := by omega
    rw [em] at o1
    rw [hld, <- o1] at r1
    have hdm := AM0 (n := m - 2 ^ c - 1) (j := c) (t := ones (m - 1)) (by omega)
    have hdl := AM0 (n := l.length - 2 ^ c - 1) (j := c) (t := ones (m - 1)) (by omega)
    rw [em] at hdm
    rw [show l.length - 2 ^ c - 1 + 2 ^ c = l.length - 1 by omega] at hdl
    have hq : 0 < 2 ^ (c - ones (m - 1)) := Nat.pow_pos (by decide)
    refine ⟨?_, ?_, ?_, ?_⟩
    . rw [e, hdm, hdl]
      have := AI6 (c - ones (m - 1)) (r := rootR (l.take (2 ^ c))) (Nat.div_le_div_right (by omega)) (A45 (by omega) (by omega)) r1
      rw [<- hroot, <- AI8 (by omega) (by omega) (by omega)] at this
      exact this
    . rw [e]; intro q; rw [r4 rfl] at q; cases q
    . rw [e, hdm]; intro _ _; exact Nat.add_pos_right _ hq
    . rw [e]; exact fun _ => r4 rfl
def consP (l : List Bts) (m : Nat) : List Bts := (if (subF l.length l m true).2.2 then [] else [(subF l.length l m true).2.1]) ++ (subF l.length l m true).1
end Go.Sv
namespace Go.Sv
open Go
theorem Bd9 {τ : Type} {l : List τ} {k : Nat} {x : τ} (hx : l[k]? = some x) : (l.drop k).reverse = (l.drop (k + 1)).reverse ++ [x] := by
 have h := List.getElem?_eq_some_iff.1 hx
 rw [List.drop_eq_getElem_cons h.1, h.2, List.reverse_cons]
end Go.Sv
namespace Go.Sv.Try
open Go Go.Proofs
section
variable {A B C : AS} {m : Hp}
theorem Be0 {n : Nat} (h2 : 2 <= n) (hn : n <= 1000000000000) : EvF Try.prog HH 82 [.int .i64 (n : Int)] A (.int .i64 ((half n : Nat) : Int)) A := by
 suffices h : ∃ w A', EvF Try.prog HH 82 [.int .i64 (n : Int)] A w A' /\ A' = A /\ w = .int .i64 ((half n : Nat) : Int) by
  obtain ⟨w, A', h, rfl, rfl⟩ := h; exact h
 refine Aa6 rfl Try.func82 (by unfold Try.f82; rfl) Try.ntmps82 (by unfold Try.f82; rfl) (by simp) ?_
 simp only [RT, Q0, Q1, Q2, Q3, Q4, Q5, Q6, Q7, Q8]
 refine Aa2 (fun z e B => ∃ a p : Nat, p = 2 ^ a /\ z = n - p /\ p < n /\ e.get 3 = .int .i64 (p : Int) /\ e.get 0 = .int .i64 (n : Int) /\ B = A)
  (fun z e B => Is z (.exit 0) /\ e.get 3 = .int .i64 ((half n : Nat) : Int) /\ B = A)
  ⟨_, 0, 1, rfl, rfl, by omega, rfl, rfl, rfl⟩ ?_ ?_
 . rintro z e B ⟨a, p, hp, rfl, ha, h3, h0, hB⟩
   have hp1 : 2 ^ (a + 1) = p * 2 := by rw [Nat.pow_succ, <- hp]
   have hp0 : 0 < p := by rw [hp]; exact Nat.pow_pos (by decide)
   have w1 : IntKind.i64.wrap (2 * (p : Int)) = ((p * 2 : Nat) : Int) := by rw [Ac6 (by omega) (by omega)]; omega
   have w2 : IntKind.i64.wrap ((p : Int) * 2) = ((p * 2 : Nat) : Int) := by rw [Ac6 (by omega) (by omega)]; omega
   simp only [RT, Q0, Q1, Q2, Q3, Q4, Q5, Q6, Q7, Q8, h3, h0, w1]
   refine Aa1 (fun q1 => ?_) (fun q1 => ?_)
   . simp only [RT, Q0, Q1, Q2, Q3, Q4, Q5, Q6, Q7, Q8, h3, w2]
     exact ⟨n - p * 2, by omega, a + 1, p * 2, hp1.symm, rfl, by omega, rfl, h0, hB⟩
   . simp only [RT, Q0, Q1, Q2, Q3, Q4, Q5, Q6, Q7, Q8]
     refine ⟨rfl, ?_, hB⟩
     rw [h3, AC1 (n := n) (c := a) (by omega) (by omega), hp]
 . rintro z e B hz ⟨rfl, h3, rfl⟩
   simp only [RT, Q0, Q1, Q2, Q3, Q4, Q5, Q6, Q7, Q8, h3]
def WayIs (l : List Bts) (k f : Nat) (cur : List Bts) (mm : Nat) (wh : Bool) (up : List Bts) : Prop :=
 subF l.length l k true = ((subF f cur mm wh).1 ++ up.reverse, (subF f cur mm wh).2)
theorem Bm4 {l cur up : List Bts} {k f mm : Nat} {wh : Bool} (h : WayIs l k (f + 1) cur mm wh up) (h1 : mm < cur.length) (h2 : mm <= half cur.length) : WayIs l k f (cur.take (half cur.length)) mm wh (up ++ [rootR (cur.drop (half cur.length))]) := by
 unfold WayIs at h ⊢
 conv at h => rhs; unfold subF
 rw [if_neg (by omega), if_pos h2] at h
 rw [h, List.reverse_append]; simp
theorem Be1 {l cur up : List Bts} {k f mm : Nat} {wh : Bool} (h : WayIs l k (f + 1) cur mm wh up) (h1 : mm < cur.length) (h2 : ¬ mm <= half cur.length) : WayIs l k f (cur.drop (half cur.length)) (mm - half cur.length) false (up ++ [rootR (cur.take (half cur.length))]) := by
 unfold WayIs at h ⊢
 conv at h => rhs; unfold subF
 rw [if_neg (by omega), if_neg h2] at h
 rw [h, List.reverse_append]; simp
theorem Bw9 {l cur up : List Bts} {k f mm : Nat} {wh : Bool} (h : WayIs l k f cur mm wh up) (h1 : ¬ mm < cur.length) : consP l k = (if wh then [] else [rootR cur]) ++ up.reverse := by
 unfold WayIs at h
 have e : subF f cur mm wh = ([], rootR cur, wh) := by
  cases f with
  | zero => rfl
  | succ f => unfold subF; rw [if_pos (by omega)]
 rw [e] at h
 unfold consP
 rw [h]; rfl
set_option maxRecDepth 10000 in
set_option maxHeartbeats 32000000 in
theorem Be2 {v : V} {ls : List Bts} {k : Nat} (hw : WF A) (hm : m.on A) (hs : Slc eI m v ls) (hn : ls.length <= 1000000000) (hk : 1 <= k) (hk2 : k <= ls.length) :
 ∃ w A', EvF Try.prog HH 54 [v, .int .i64 (k : Int)] A w A' /\ Fr S0 A A' /\ ∃ c fo, w = .tup [c, .int .i64 0] /\ Lst eI Hp.emp A' c (consP ls k) fo /\ ∀ f, fo = some f -> A.blk.length <= f := by
 refine Aa6 rfl Try.func54 (by unfold Try.f54; rfl) Try.ntmps54 (by unfold Try.f54; rfl) (by simp) ?_
 have hlen0 := fun B => hs.len (P := Try.prog) Try.underlying36 B
 simp only [RT, Q0, Q1, Q2, Q3, Q4, Q5, Q6, Q7, Q8, decide_eq_false (show ¬ ((k : Int) < 1) by omega), hlen0, decide_eq_false (show ¬ ((k : Int) > ls.length) by omega)]
 refine Aa2 (fun z e B => ∃ (f : Nat) (cur : List Bts) (mm : Nat) (wh : Bool) (up : List Bts) (va w : V) (fo : Option Nat), z = cur.length /\ cur.length <= f /\ 1 <= mm /\ mm <= cur.length /\ up.length + cur.length <= 1000000000 /\ WayIs ls k f cur mm wh up /\ Slc eI m va cur /\ e.get 0 = va /\ e.get 1 = .int .i64 (mm : Int) /\ e.get 6 = w /\ e.get 7 = .bool wh /\ Fr S0 A B /\ Lst eI Hp.emp B w up fo /\ ∀ f, fo = some f -> A.blk.length <= f)
  (fun z e B => Is z (.exit 0) /\ ∃ (cur : List Bts) (wh : Bool) (up : List Bts) (va w : V) (fo : Option Nat), up.length + cur.length <= 1000000000 /\ consP ls k = (if wh then [] else [rootR cur]) ++ up.reverse /\ Slc eI m va cur /\ e.get 0 = va /\ e.get 6 = w /\ e.get 7 = .bool wh /\ Fr S0 A B /\ Lst eI Hp.emp B w up fo /\ ∀ f, fo = some f -> A.blk.length <= f)
  ⟨_, ls.length, ls, k, true, [], v, .snil, none, rfl, Nat.le_refl _, hk, hk2, by simpa using hn, by unfold WayIs; simp, hs, rfl, rfl, rfl, rfl, .refl _ _, .nil, fun f q => by cases q⟩ ?_ ?_
 . rintro z e B ⟨f, cur, mm, wh, up, va, w, fo, rfl, hf1, hm1, hm2, hul, hway, hcs, h0, h1, h6, h7, hf, hL, hfo⟩
   have hlen := fun B => hcs.len (P := Try.prog) Try.underlying36 B
   simp only [RT, Q0, Q1, Q2, Q3, Q4, Q5, Q6, Q7, Q8, h0, h1, hlen]
   refine Aa1 (fun q1 => ?_) (fun q1 => ?_)
   rotate_left
   . simp only [RT, Q0, Q1, Q2, Q3, Q4, Q5, Q6, Q7, Q8]
     refine ⟨rfl, cur, wh, up, va, w, fo, hul, Bw9 hway (by omega), hcs, ?_⟩
     and_intros <;> first | rfl | assumption
   have hl2 : 2 <= cur.length := by omega
   obtain ⟨hp, hh⟩ := AX2 hl2
   obtain ⟨f, rfl⟩ : ∃ g, f = g + 1 := ⟨f - 1, by omega⟩
   have h32 := A76 hcs
   obtain ⟨c, hc⟩ : ∃ c, c = half cur.length := ⟨_, rfl⟩
   have hhs := Be0 (A := B) hl2 (by omega)
   rw [<- hc] at hhs hp hh
   have hra : (rootR (cur.take c)).length = 32 := Ad6 fun x hx => h32 x (List.mem_of_mem_take hx)
   have hrb : (rootR (cur.drop c)).length = 32 := Ad6 fun x hx => h32 x (List.mem_of_mem_drop hx)
   have wB := hf.wf hw
   obtain ⟨va1, s1, s2⟩ := hcs.subTo (P := Try.prog) (t := 36) (e := 32) (hi := c) (kh := .i64) Try.underlying36 As0 (by omega) B
   obtain ⟨va2, s3, s4⟩ := hcs.subFrom (P := Try.prog) (t := 36) (e := 32) (lo := c) (kl := .i64) Try.underlying36 As0 (by omega) B
   by_cases q2 : mm <= c
   . obtain ⟨_, C, k1, f1, rfl⟩ := Ao0 wB (hm.fr0 hf) s4 (by rw [List.length_drop]; omega)
     obtain ⟨v4, D, fo', p1, p2, p3, p4⟩ := (hL.fr0 f1).push (P := Try.prog) (t := 36) (tx := 36) (n := 32) rfl Bv2 Try.underlying36 (f1.wf wB) (y := rootR (cur.drop c)) (cs' := bc (rootR (cur.drop c))) ⟨rfl, hrb⟩ (by omega) (by omega)
     obtain ⟨va3, s5, s6⟩ := hcs.subTo (P := Try.prog) (t := 36) (e := 32) (hi := c) (kh := .i64) Try.underlying36 As0 (by omega) D
     have hfC := hf.then0 f1
     have hfD : Fr S0 A D := hfC.newFam hw p3 hfo
     have hfo' : ∀ f, fo' = some f -> A.blk.length <= f := fun f q => by
      rcases p4.or q with y | y
      . exact hfo f y
      . have := hfC.len; omega
     have hwy := Bm4 hway (by omega) (by omega)
     rw [<- hc] at hwy
     simp only [RT, Q0, Q1, Q2, Q3, Q4, Q5, Q6, Q7, Q8, h0, hlen]
     refine Aa0 hhs ?_
     simp only [RT, Q0, Q1, Q2, Q3, Q4, Q5, Q6, Q7, Q8, h1, decide_eq_true (show ((mm : Int) <= c) by omega), h6, h0, s3]
     refine Aa0 k1 ?_
     simp only [RT, Q0, Q1, Q2, Q3, Q4, Q5, Q6, Q7, Q8, A77 hrb, p1, h0, s5]
     refine ⟨(cur.take c).length, by rw [List.length_take]; omega, f, cur.take c, mm, wh, _, va3, v4, fo', rfl, by rw [List.length_take]; omega, hm1, by rw [List.length_take]; omega, ?_, hwy, s6, ?_⟩
     . rw [List.length_append, List.length_take, List.length_singleton]; omega
     . and_intros <;> first | rfl | assumption
   . obtain ⟨_, C, k1, f1, rfl⟩ := Ao0 wB (hm.fr0 hf) s2 (by rw [List.length_take]; omega)
     obtain ⟨v4, D, fo', p1, p2, p3, p4⟩ := (hL.fr0 f1).push (P := Try.prog) (t := 36) (tx := 36) (n := 32) rfl Bv2 Try.underlying36 (f1.wf wB) (y := rootR (cur.take c)) (cs' := bc (rootR (cur.take c))) ⟨rfl, hra⟩ (by omega) (by omega)
     obtain ⟨va3, s5, s6⟩ := hcs.subFrom (P := Try.prog) (t := 36) (e := 32) (lo := c) (kl := .i64) Try.underlying36 As0 (by omega) D
     have hfC := hf.then0 f1
     have hfD : Fr S0 A D := hfC.newFam hw p3 hfo
     have hfo' : ∀ f, fo' = some f -> A.blk.length <= f := fun f q => by
      rcases p4.or q with y | y
      . exact hfo f y
      . have := hfC.len; omega
     have hwy := Be1 hway (by omega) (by omega)
     rw [<- hc] at hwy
     have wi : IntKind.i64.wrap ((mm : Int) - (c : Int)) = ((mm - c : Nat) : Int) := by rw [Ac6 (by omega) (by omega)]; omega
     simp only [RT, Q0, Q1, Q2, Q3, Q4, Q5, Q6, Q7, Q8, h0, hlen]
     refine Aa0 hhs ?_
     simp only [RT, Q0, Q1, Q2, Q3, Q4, Q5, Q6, Q7, Q8, h1, decide_eq_false (show ¬ ((mm : Int) <= c) by omega), h6, h0, s1]
     refine Aa0 k1 ?_
     simp only [RT, Q0, Q1, Q2, Q3, Q4, Q5, Q6, Q7, Q8, A77 hra, p1, h0, s5, h1, wi]
     refine ⟨(cur.drop c).length, by rw [List.length_drop]; omega, f, cur.drop c, mm - c, false, _, va3, v4, fo', rfl, by rw [List.length_drop]; omega, by omega, by rw [List.length_drop]; omega, ?_, hwy, s6, ?_⟩
     . rw [List.length_append, List.length_drop, List.length_singleton]; omega
     . and_intros <;> first | rfl | assumption
 rintro z e B hz ⟨rfl, cur, wh, up, va, w, fo, hul, hcons, hcs, h0, h6, h7, hf, hL, hfo⟩
 have h32 := A76 hcs
 have hr : (rootR cur).length = 32 := Ad6 h32
 have wB := hf.wf hw
 simp only [RT, Q0, Q1, Q2, Q3, Q4, Q5, Q6, Q7, Q8, h7, Bu7]
 refine Aq1 (fun z e D => Is z .normal /\ e.get 6 = w /\ ∃ (wo : V) (base : List Bts) (fo2 : Option Nat), e.get 9 = wo /\ Fr S0 B D /\ Lst eI Hp.emp D wo base fo2 /\ (∀ f, fo2 = some f -> B.blk.length <= f) /\ base.length <= 1 /\ consP ls k = base ++ up.reverse) ?_ ?_
 . cases wh
   . have hlen := hcs
     obtain ⟨_, C, k1, f1, rfl⟩ := Ao0 wB (hm.fr0 hf) hcs (by omega)
     obtain ⟨v4, D, fo', p1, p2, p3, p4⟩ := (Lst.nil (E := eI) (m := Hp.emp) (A := C)).push (P := Try.prog) (t := 36) (tx := 36) (n := 32) rfl Bv2 Try.underlying36 (f1.wf wB) (y := rootR cur) (cs' := bc (rootR cur)) ⟨rfl, hr⟩ (by simp) (by simp)
     have hfD : Fr S0 B D := f1.newFam wB p3 (fun f q => by cases q)
     have hfo' : ∀ f, fo' = some f -> B.blk.length <= f := fun f q => by
      rcases p4.or q with y | y
      . cases y
      . have := f1.len; omega
     simp only [RT, Q0, Q1, Q2, Q3, Q4, Q5, Q6, Q7, Q8, h0]
     refine Aa0 k1 ?_
     simp only [RT, Q0, Q1, Q2, Q3, Q4, Q5, Q6, Q7, Q8, A77 hr, p1]
     exact ⟨rfl, h6, _, _, _, rfl, hfD, p2, hfo', by simp, hcons⟩
   . simp only [RT, Q0, Q1, Q2, Q3, Q4, Q5, Q6, Q7, Q8]
     exact ⟨rfl, h6, _, _, _, rfl, .refl _ _, .nil, (fun f q => by cases q), by simp, hcons⟩
 rintro z e D ⟨rfl, h6, wo, base, fo2, h9, hfD, hLb, hfo2, hb1, hcons⟩
 have hup := hL.slcArr (fun _ _ q => by cases q)
 have hlu := fun B => hup.len (P := Try.prog) Try.underlying36 B
 have wl : IntKind.i64.wrap ((up.length : Int) - 1) = (up.length : Int) - 1 := Ac6 (by omega) (by omega)
 simp only [RT, Q0, Q1, Q2, Q3, Q4, Q5, Q6, Q7, Q8, h6, hlu, wl]
 refine Aa2 (fun z e F => ∃ (w2 : V) (fo3 : Option Nat), z <= up.length /\ e.get 10 = .int .i64 ((z : Int) - 1) /\ e.get 6 = w /\ e.get 9 = w2 /\ Fr S0 B F /\ Lst eI Hp.emp F w2 (base ++ (up.drop z).reverse) fo3 /\ ∀ f, fo3 = some f -> B.blk.length <= f)
  (fun z e F => Is z (.exit 2) /\ ∃ (w2 : V) (fo3 : Option Nat), e.get 9 = w2 /\ Fr S0 B F /\ Lst eI Hp.emp F w2 (base ++ up.reverse) fo3 /\ ∀ f, fo3 = some f -> B.blk.length <= f)
  ⟨up.length, wo, fo2, Nat.le_refl _, rfl, h6, h9, hfD, by rw [List.drop_length]; simpa using hLb, hfo2⟩ ?_ ?_
 . rintro z e F ⟨w2, fo3, hz, h10, h6, h9, hfF, hLF, hfo3⟩
   simp only [RT, Q0, Q1, Q2, Q3, Q4, Q5, Q6, Q7, Q8, h10]
   refine Aa1 (fun q1 => ?_) (fun q1 => ?_)
   rotate_left
   . have : z = 0 := by omega
     subst this
     simp only [RT, Q0, Q1, Q2, Q3, Q4, Q5, Q6, Q7, Q8]
     refine ⟨rfl, w2, fo3, h9, hfF, by simpa using hLF, hfo3⟩
   obtain ⟨i, rfl⟩ : ∃ i, z = i + 1 := ⟨z - 1, by omega⟩
   obtain ⟨x, hx⟩ := Ad0 (l := up) (i := i) (by omega)
   have ei : (((i + 1 : Nat) : Int) - 1) = (i : Int) := by omega
   rw [ei] at h10
   obtain ⟨b, o, c, g3, g4, g5⟩ := hup.at (P := Try.prog) (k := .i64) ((Af0 B).fr0 hfF) Try.underlying36 As0 AW4 hx
   obtain ⟨rfl, hx32⟩ := Bt8.1 g5
   have hbl : (base ++ (up.drop (i + 1)).reverse).length <= 1000000001 := by rw [List.length_append, List.length_reverse, List.length_drop]; omega
   obtain ⟨v4, G, fo4, p1, p2, p3, p4⟩ := hLF.push (P := Try.prog) (t := 36) (tx := 36) (n := 32) rfl Bv2 Try.underlying36 (hfF.wf wB) (y := x) (cs' := bc x) ⟨rfl, hx32⟩ (by omega) (by omega)
   have hfG : Fr S0 B G := hfF.newFam wB p3 hfo3
   have hfo' : ∀ f, fo4 = some f -> B.blk.length <= f := fun f q => by
    rcases p4.or q with y | y
    . exact hfo3 f y
    . have := hfF.len; omega
   have wi : IntKind.i64.wrap ((i : Int) - 1) = (i : Int) - 1 := Ac6 (by omega) (by omega)
   rw [List.append_assoc, <- Bd9 hx] at p2
   simp only [RT, Q0, Q1, Q2, Q3, Q4, Q5, Q6, Q7, Q8, h9, h6, h10, g3, g4, A77 hx32, p1, wi]
   refine ⟨i, by omega, v4, fo4, by omega, ?_⟩
   and_intros <;> first | rfl | assumption
 . rintro z e F hz ⟨rfl, w2, fo3, h9, hfF, hLF, hfo3⟩
   simp only [RT, Q0, Q1, Q2, Q3, Q4, Q5, Q6, Q7, Q8, h9]
   exact ⟨hf.then0 hfF, w2, fo3, rfl, by rw [hcons]; exact hLF, fun f q => by have := hfo3 f q; have := hf.len; omega⟩
end
end Go.Sv.Try
namespace Go.Sv
open Go
theorem Be3 : ∀ (n : Nat) {node last : Nat}, node <= n -> (skip node last).1 <= node /\ (skip node last).2 <= last
 | 0, node, last, h => by
  rw [Ah2 (.inr (by omega))]; exact ⟨Nat.le_refl _, Nat.le_refl _⟩
 | n + 1, node, last, h => by
  by_cases q : node % 2 = 1 ∨ node = 0
  . rw [Ah2 q]; exact ⟨Nat.le_refl _, Nat.le_refl _⟩
  . rw [AD2 (by omega) (by omega)]
    have := Be3 n (node := node / 2) (last := last / 2) (by omega)
    exact ⟨by omega, by omega⟩
theorem Bm5 {n : Nat} (h : n % 2 = 1) (x : Nat) : x / 2 ^ ones n = x / 2 / 2 ^ ones (n / 2) := by
 rw [Au0 h, Nat.pow_succ, Nat.mul_comm, Nat.div_div_eq_div_mul]
theorem AM1 : ∀ (f : Nat) {l : List Bts} {m : Nat} {wh : Bool}, (subF f l m wh).1.length <= f
 | 0, l, m, wh => Nat.le_refl _
 | f + 1, l, m, wh => by
  unfold subF
  split
  . exact Nat.zero_le _
  . split
    . have := AM1 f (l := l.take (half l.length)) (m := m) (wh := wh)
      simp only [List.length_append, List.length_singleton]; omega
    . have := AM1 f (l := l.drop (half l.length)) (m := m - half l.length) (wh := false)
      simp only [List.length_append, List.length_singleton]; omega
end Go.Sv
namespace Go.Sv.Try
open Go Go.Proofs
section
variable {A B C : AS} {m : Hp}
structure CkB (A B : AS) (b7 b8 bx by_ : Nat) (one two a b : Bts) : Prop where
 fr : Fr S0 A B
 r7 : B.blk[b7]? = some ⟨bc one, .var⟩
 r8 : B.blk[b8]? = some ⟨bc two, .var⟩
 rx : B.blk[bx]? = some ⟨bc a, .var⟩
 ry : B.blk[by_]? = some ⟨bc b, .var⟩
 nx : A.blk.length <= bx
 ny : A.blk.length <= by_
 n1 : b7 ≠ bx
 n2 : b7 ≠ by_
 n3 : b8 ≠ bx
 n4 : b8 ≠ by_
 n5 : bx ≠ by_
 l1 : one.length = 32
 l2 : two.length = 32
 la : a.length = 32
 lb : b.length = 32
theorem CkB.fr0 {b7 b8 bx by_ : Nat} {one two a b : Bts} (h : CkB A B b7 b8 bx by_ one two a b) (hf : Fr S0 B C) : CkB A C b7 b8 bx by_ one two a b :=
 { h with fr := h.fr.then0 hf, r7 := hf.row0 h.r7, r8 := hf.row0 h.r8, rx := hf.row0 h.rx, ry := hf.row0 h.ry }
theorem CkB.setX {b7 b8 bx by_ : Nat} {one two a b x : Bts} (h : CkB A B b7 b8 bx by_ one two a b) (hx : x.length = 32) :
 ∃ C, evStore Try.prog 32 (.ptr bx 0) (.agg (bc x)) B = some C /\ Fr (· = .row bx) B C /\ CkB A C b7 b8 bx by_ one two x b := by
 obtain ⟨C, s1, s2, s3⟩ := Bk0 h.rx h.la hx
 exact ⟨C, s1, s2, { h with fr := h.fr.row_ s2 h.nx, r7 := s2.row _ _ h.r7 (fun q => by cases q; exact h.n1 rfl), r8 := s2.row _ _ h.r8 (fun q => by cases q; exact h.n3 rfl), rx := s3, ry := s2.row _ _ h.ry (fun q => by cases q; exact h.n5 rfl), la := hx }⟩
theorem CkB.setY {b7 b8 bx by_ : Nat} {one two a b x : Bts} (h : CkB A B b7 b8 bx by_ one two a b) (hx : x.length = 32) :
 ∃ C, evStore Try.prog 32 (.ptr by_ 0) (.agg (bc x)) B = some C /\ Fr (· = .row by_) B C /\ CkB A C b7 b8 bx by_ one two a x := by
 obtain ⟨C, s1, s2, s3⟩ := Bk0 h.ry h.lb hx
 exact ⟨C, s1, s2, { h with fr := h.fr.row_ s2 h.ny, r7 := s2.row _ _ h.r7 (fun q => by cases q; exact h.n2 rfl), r8 := s2.row _ _ h.r8 (fun q => by cases q; exact h.n4 rfl), ry := s3, rx := s2.row _ _ h.rx (fun q => by cases q; exact h.n5 rfl), lb := hx }⟩
theorem BS2 (n : Nat) : evShift .shr .i64 (n : Int) 1 = some (.int .i64 ((n / 2 : Nat) : Int)) := by
 have := At1 (k := .i64) n 1 (by decide)
 exact this
set_option maxRecDepth 10000 in
set_option maxHeartbeats 32000000 in
theorem AZ1 {v : V} {ls : List Bts} {k : Nat} (hw : WF A) (hm : m.on A) (h32 : ∀ x ∈ ls, x.length = 32) (hs : Slc eI m v (consP ls k)) (hn : ls.length <= 1000000000) (hk : 1 <= k) (hk2 : k <= ls.length) :
 ∃ w A', EvF Try.prog HH 55 [.int .i64 (k : Int), .int .i64 (ls.length : Int), .agg (bc (rootR (ls.take k))), .agg (bc (rootR ls)), v] A w A' /\ Fr S0 A A' /\ w = .int .i64 0 := by
 have l1 : (rootR (ls.take k)).length = 32 := Ad6 fun x hx => h32 x (List.mem_of_mem_take hx)
 have l2 : (rootR ls).length = 32 := Ad6 h32
 have hlen0 := fun B => hs.len (P := Try.prog) Try.underlying36 B
 refine Aa6 rfl Try.func55 (by unfold Try.f55; rfl) Try.ntmps55 (by unfold Try.f55; rfl) (by simp) ?_
 obtain ⟨A1, e1, f1, r1, n1⟩ := Aa9 A (bc (rootR (ls.take k)))
 obtain ⟨b7, hb7⟩ : ∃ b, b = A.blk.length := ⟨_, rfl⟩
 obtain ⟨A2, e2, f2, r2, n2⟩ := Aa9 A1 (bc (rootR ls))
 obtain ⟨b8, hb8⟩ : ∃ b, b = A1.blk.length := ⟨_, rfl⟩
 rw [<- hb7] at r1 n1
 rw [<- hb8] at r2 n2
 have r1 := f2.row0 r1
 have f12 := f1.then0 f2
 obtain ⟨one, hone⟩ : ∃ x, x = rootR (ls.take k) := ⟨_, rfl⟩
 obtain ⟨two, htwo⟩ : ∃ x, x = rootR ls := ⟨_, rfl⟩
 rw [<- hone] at l1 r1 e1
 rw [<- htwo] at l2 r2 e2
 rw [<- hone, <- htwo]
 by_cases q0 : k = ls.length
 . have hc : consP ls k = [] := by
    have e : subF ls.length ls k true = ([], rootR ls, true) := by
     rw [q0]
     cases ls with
     | nil => rfl
     | cons x l => show subF (l.length + 1) _ _ _ = _; unfold subF; rw [if_pos (by simp)]
    unfold consP; rw [e]; rfl
   have h12 : one = two := by rw [hone, htwo, q0, List.take_length]
   rw [hc] at hlen0
   simp only [RT, Q0, Q1, Q2, Q3, Q4, Q5, Q6, Q7, Q8, <- e1, <- hb7, <- e2, <- hb8, decide_eq_false (show ¬ ((k : Int) < 1) by omega), decide_eq_false (show ¬ ((k : Int) > ls.length) by omega), decide_eq_false (show ¬ ((ls.length : Int) > 1099511627776) by omega), decide_eq_true (show ((k : Int) = ls.length) by omega), hlen0, List.length_nil, decide_eq_false (show ¬ (((0 : Nat) : Int) > 0) by omega), ldI r1 l1, ldI r2 l2, eqI l1 l2, decide_eq_true h12]
   exact f12
 have w1 : IntKind.i64.wrap ((k : Int) - 1) = ((k - 1 : Nat) : Int) := by rw [Ac6 (by omega) (by omega)]; omega
 have w2 : IntKind.i64.wrap ((ls.length : Int) - 1) = ((ls.length - 1 : Nat) : Int) := by rw [Ac6 (by omega) (by omega)]; omega
 obtain ⟨N0, hN0⟩ : ∃ n, n = (k - 1) / 2 ^ ones (k - 1) := ⟨_, rfl⟩
 obtain ⟨L0, hL0⟩ : ∃ n, n = (ls.length - 1) / 2 ^ ones (k - 1) := ⟨_, rfl⟩
 have hLd := A46 ls.length (l := ls) (m := k) true hk (by omega) (Nat.le_refl _)
 obtain ⟨s, hsd⟩ : ∃ s, s = subF ls.length ls k true := ⟨_, rfl⟩
 obtain ⟨q1, q2, q3, _⟩ := hLd
 rw [<- hsd, <- hN0] at q1 q2 q3
 rw [<- hL0, <- hone, <- htwo] at q1
 rw [<- hone] at q2
 have hcp : consP ls k = (if s.2.2 then [] else [s.2.1]) ++ s.1 := by unfold consP; rw [<- hsd]
 have hbN : N0 <= k - 1 := by rw [hN0]; exact Nat.div_le_self _ _
 have hbL : L0 <= ls.length - 1 := by rw [hL0]; exact Nat.div_le_self _ _
 simp only [RT, Q0, Q1, Q2, Q3, Q4, Q5, Q6, Q7, Q8, <- e1, <- hb7, <- e2, <- hb8, decide_eq_false (show ¬ ((k : Int) < 1) by omega), decide_eq_false (show ¬ ((k : Int) > ls.length) by omega), decide_eq_false (show ¬ ((ls.length : Int) > 1099511627776) by omega), decide_eq_false (show ¬ ((k : Int) = ls.length) by omega), w1, w2]
 refine Aa2 (fun z e B => B = A2 /\ ∃ node last : Nat, z = node /\ node <= 1000000000 /\ last <= 1000000000 /\ node / 2 ^ ones node = N0 /\ last / 2 ^ ones node = L0 /\ e.get 12 = .int .i64 (node : Int) /\ e.get 13 = .int .i64 (last : Int) /\ e.get 11 = v /\ e.get 7 = .ptr b7 0 /\ e.get 8 = .ptr b8 0)
  (fun z e B => B = A2 /\ Is z (.exit 0) /\ e.get 12 = .int .i64 (N0 : Int) /\ e.get 13 = .int .i64 (L0 : Int) /\ e.get 11 = v /\ e.get 7 = .ptr b7 0 /\ e.get 8 = .ptr b8 0)
  ⟨_, rfl, k - 1, ls.length - 1, rfl, by omega, by omega, hN0.symm, hL0.symm, rfl, rfl, rfl, rfl, rfl⟩ ?_ ?_
 . rintro z e B ⟨rfl, node, last, rfl, g1, g2, g3, g4, h12, h13, h11, h7, h8⟩
   simp only [RT, Q0, Q1, Q2, Q3, Q4, Q5, Q6, Q7, Q8, h12, Az8, BO6 (n := z) (by omega)]
   refine Aa1 (fun q1 => ?_) (fun q1 => ?_)
   . have q : z % 2 = 1 := by omega
     simp only [RT, Q0, Q1, Q2, Q3, Q4, Q5, Q6, Q7, Q8, h12, h13, Ar9, BS2]
     rw [Bm5 q] at g3 g4
     refine ⟨z / 2, by omega, z / 2, last / 2, rfl, by omega, by omega, g3, g4, ?_⟩
     and_intros <;> first | rfl | assumption
   . have q : z % 2 = 0 := by omega
     rw [Am1 q] at g3 g4
     simp only [Nat.pow_zero, Nat.div_one] at g3 g4
     subst g3 g4
     simp only [RT, Q0, Q1, Q2, Q3, Q4, Q5, Q6, Q7, Q8]
     and_intros <;> first | rfl | assumption
 rintro z e B hz ⟨rfl, rfl, h12, h13, h11, h7, h8⟩
 obtain ⟨C1, c1, y1, x1, m1⟩ := Aa9 B (bc z32s)
 obtain ⟨b14, hb14⟩ : ∃ b, b = B.blk.length := ⟨_, rfl⟩
 obtain ⟨C2, c2, y2, x2, m2⟩ := Aa9 C1 (bc z32s)
 obtain ⟨b15, hb15⟩ : ∃ b, b = C1.blk.length := ⟨_, rfl⟩
 rw [<- hb14] at x1 m1
 rw [<- hb15] at x2 m2
 have hz32 : z32s.length = 32 := rfl
 have hC2 : CkB A C2 b7 b8 b14 b15 one two z32s z32s := {
  fr := (f12.then0 y1).then0 y2, r7 := y2.row0 (y1.row0 r1), r8 := y2.row0 (y1.row0 r2), rx := y2.row0 x1, ry := x2
  nx := by have := f12.len; omega, ny := by have := f12.len; omega
  n1 := by omega, n2 := by omega, n3 := by omega, n4 := by omega, n5 := by omega, l1 := l1, l2 := l2, la := hz32, lb := hz32 }
 obtain ⟨C3, t1, t2, hC3⟩ := hC2.setX l1
 obtain ⟨C4, t3, t4, hC4⟩ := hC3.setY l1
 simp only [RT, Q0, Q1, Q2, Q3, Q4, Q5, Q6, Q7, Q8, Br5, Aa4, h7, ldI r1 l1, Bc6, <- hb14, <- c1, <- hb15, <- c2, t1]
 refine ⟨Aa3 (ha := h7) rfl (ldI hC3.r7 l1) rfl Aa4, ?_⟩
 simp only [RT, Q0, Q1, Q2, Q3, Q4, Q5, Q6, Q7, Q8, t3, h12, Aa4]
 refine Aq1 (fun z e D => Is z .normal /\ e.get 12 = .int .i64 (N0 : Int) /\ e.get 13 = .int .i64 (L0 : Int) /\ e.get 7 = .ptr b7 0 /\ e.get 8 = .ptr b8 0 /\ e.get 14 = .ptr b14 0 /\ e.get 15 = .ptr b15 0 /\ CkB A D b7 b8 b14 b15 one two s.2.1 s.2.1 /\ ∃ vr, e.get 11 = vr /\ Slc eI m vr s.1) ?_ ?_
 . refine Aa1 (fun q => ?_) (fun q => ?_)
   . have hfl : s.2.2 = false := by
      cases h : s.2.2 with
      | false => rfl
      | true => have := (q2 h).1; omega
     rw [hfl] at hcp
     have hcp : consP ls k = s.2.1 :: s.1 := hcp
     rw [hcp] at hs
     have la := A76 hs s.2.1 (by simp)
     have hlen := fun B => hs.len (P := Try.prog) Try.underlying36 B
     obtain ⟨b, o, c, g3, g4, g5⟩ := hs.at (P := Try.prog) (k := .i64) (i := 0) (hm.fr0 hC4.fr) Try.underlying36 As0 AW4 rfl
     obtain ⟨rfl, _⟩ := Bt8.1 g5
     have g3 : evIndexAddr Try.prog 36 v (.int .i64 0) = some (.ptr b o) := g3
     obtain ⟨vr, s3, s4⟩ := hs.subFrom (P := Try.prog) (t := 36) (e := 32) (lo := 1) (kl := .i64) Try.underlying36 As0 (by simp) C4
     have s3 : evSlice Try.prog 36 v (some (.int .i64 1)) none none C4 = some vr := s3
     obtain ⟨C5, u1, u2, hC5⟩ := hC4.setX la
     obtain ⟨C6, u3, u4, hC6⟩ := hC5.setY la
     obtain ⟨b', o', c', g3', g4', g5'⟩ := hs.at (P := Try.prog) (k := .i64) (i := 0) (hm.fr0 hC5.fr) Try.underlying36 As0 AW4 rfl
     obtain ⟨rfl, _⟩ := Bt8.1 g5'
     have g3' : evIndexAddr Try.prog 36 v (.int .i64 0) = some (.ptr b' o') := g3'
     rw [g3] at g3'
     cases g3'
     simp only [RT, Q0, Q1, Q2, Q3, Q4, Q5, Q6, Q7, Q8, h11, hlen, List.length_cons, decide_eq_false (show ¬ (((s.1.length + 1 : Nat) : Int) = 0) by omega)]
     simp only [RT, Q0, Q1, Q2, Q3, Q4, Q5, Q6, Q7, Q8, Br6, Aa4, h11, g3, g4, s3, u1]
     refine ⟨Aa3 (ha := rfl) rfl g4' rfl Aa4, ?_⟩
     simp only [RT, Q0, Q1, Q2, Q3, Q4, Q5, Q6, Q7, Q8, u3, Aa4]
     refine ⟨rfl, ?_⟩
     and_intros <;> first | rfl | assumption | exact ⟨_, rfl, s4⟩
   . have hfl : s.2.2 = true := by
      cases h : s.2.2 with
      | true => rfl
      | false => have := q3 h rfl; omega
     have ha := (q2 hfl).2
     rw [hfl] at hcp
     have hcp : consP ls k = s.1 := hcp
     rw [hcp] at hs
     simp only [RT, Q0, Q1, Q2, Q3, Q4, Q5, Q6, Q7, Q8]
     rw [ha]
     refine ⟨rfl, ?_⟩
     and_intros <;> first | rfl | assumption | exact ⟨_, h11, hs⟩
 clear h12 h13 h11 h7 h8
 rintro z e D ⟨rfl, h12, h13, h7, h8, h14, h15, hD, vr, h11, hr⟩
 have hlen := fun B => hr.len (P := Try.prog) Try.underlying36 B
 simp only [RT, Q0, Q1, Q2, Q3, Q4, Q5, Q6, Q7, Q8, h11, hlen]
 have hs1 : s.1.length <= 1000000000 := by have := AM1 ls.length (l := ls) (m := k) (wh := true); rw [<- hsd] at this; omega
 refine Aa2 (fun z e F => ∃ (i node last : Nat) (a b : Bts), z = s.1.length - i /\ i <= s.1.length /\ node <= 1000000000 /\ last <= 1000000000 /\ runC (s.1.drop i) node last a b = some (0, one, two) /\ e.get 12 = .int .i64 (node : Int) /\ e.get 13 = .int .i64 (last : Int) /\ e.get 7 = .ptr b7 0 /\ e.get 8 = .ptr b8 0 /\ e.get 14 = .ptr b14 0 /\ e.get 15 = .ptr b15 0 /\ e.get 67 = vr /\ e.get 68 = .int .i64 s.1.length /\ e.get 69 = .int .i64 (i : Int) /\ CkB A F b7 b8 b14 b15 one two a b)
  (fun z e F => Is z (.exit 2) /\ e.get 13 = .int .i64 (0 : Int) /\ e.get 7 = .ptr b7 0 /\ e.get 8 = .ptr b8 0 /\ e.get 14 = .ptr b14 0 /\ e.get 15 = .ptr b15 0 /\ CkB A F b7 b8 b14 b15 one two one two)
  ⟨_, 0, N0, L0, s.2.1, s.2.1, rfl, by omega, by omega, by omega, by simpa using q1, h12, h13, h7, h8, h14, h15, rfl, rfl, rfl, hD⟩ ?_ ?_
 rotate_left
 . rintro z e F hz ⟨rfl, h13, h7, h8, h14, h15, hF⟩
   simp only [RT, Q0, Q1, Q2, Q3, Q4, Q5, Q6, Q7, Q8, h13, decide_eq_false (show ¬ ¬ ((0 : Int) = 0) from fun q => q rfl), h7, h8, h14, h15, ldI hF.r7 l1, ldI hF.r8 l2, ldI hF.rx l1, ldI hF.ry l2, eqI l1 l1, eqI l2 l2, decide_eq_false (show ¬ ¬ one = one from fun q => q rfl), decide_eq_false (show ¬ ¬ two = two from fun q => q rfl)]
   exact hF.fr
 clear h12 h13 h7 h8 h14 h15 h11 hD
 rintro z e F ⟨i, node, last, a, b, rfl, hi, g1, g2, hrun, h12, h13, h7, h8, h14, h15, h67, h68, h69, hF⟩
 simp only [RT, Q0, Q1, Q2, Q3, Q4, Q5, Q6, Q7, Q8, h69, h68]
 refine Aa1 (fun q1 => ?_) (fun q1 => ?_)
 rotate_left
 . have : i = s.1.length := by omega
   subst this
   rw [List.drop_length] at hrun
   simp only [runC, Option.some.injEq, Prod.mk.injEq] at hrun
   obtain ⟨rfl, rfl, rfl⟩ := hrun
   simp only [RT, Q0, Q1, Q2, Q3, Q4, Q5, Q6, Q7, Q8]
   and_intros <;> first | rfl | assumption
 obtain ⟨p, hp⟩ := Ad0 (l := s.1) (i := i) (by omega)
 have hdr : s.1.drop i = p :: s.1.drop (i + 1) := by
  rw [List.drop_eq_getElem_cons (by omega), (List.getElem?_eq_some_iff.1 hp).2]
 rw [hdr] at hrun
 unfold runC at hrun
 have hl0 : last ≠ 0 := fun q => by rw [if_pos q] at hrun; cases hrun
 rw [if_neg hl0] at hrun
 obtain ⟨bp, op, cp, g3, g4, g5⟩ := hr.at (P := Try.prog) (k := .i64) (hm.fr0 hF.fr) Try.underlying36 As0 AW4 hp
 obtain ⟨rfl, hp32⟩ := Bt8.1 g5
 obtain ⟨F1, u1, u2, u3⟩ := BQ1 (A := F) p hp32
 obtain ⟨b17, hb17⟩ : ∃ b, b = F.blk.length := ⟨_, rfl⟩
 rw [<- hb17] at u1 u3
 have hF1 := hF.fr0 u2
 have wF1 := hF1.fr.wf hw
 have wi : IntKind.i64.wrap ((i : Int) + 1) = ((i + 1 : Nat) : Int) := by rw [Af3 (by omega)]
 simp only [RT, Q0, Q1, Q2, Q3, Q4, Q5, Q6, Q7, Q8, h67, h69, g3, g4, Bc6, <- hb17, u1, h13, decide_eq_false (show ¬ ((last : Int) = 0) by omega), h12, Az8, BO6 (n := node) (by omega)]
 refine Bd7 rfl rfl rfl rfl (fun z e G => Is z .normal /\ G = F1 /\ e.get 82 = .bool (decide (node % 2 = 1 ∨ node = last)) /\ e.get 12 = .int .i64 (node : Int) /\ e.get 13 = .int .i64 (last : Int) /\ e.get 7 = .ptr b7 0 /\ e.get 8 = .ptr b8 0 /\ e.get 14 = .ptr b14 0 /\ e.get 15 = .ptr b15 0 /\ e.get 17 = .ptr b17 0 /\ e.get 67 = vr /\ e.get 68 = .int .i64 s.1.length /\ e.get 69 = .int .i64 (i : Int)) ?_ ?_
 . by_cases q : node % 2 = 1
   . simp only [RT, Q0, Q1, Q2, Q3, Q4, Q5, Q6, Q7, Q8, decide_eq_true (show ((node % 2 : Nat) : Int) = 1 by omega), decide_eq_true (show node % 2 = 1 ∨ node = last from .inl q)]
     and_intros <;> first | rfl | assumption
   . by_cases q' : node = last
     . simp only [RT, Q0, Q1, Q2, Q3, Q4, Q5, Q6, Q7, Q8, decide_eq_false (show ¬ ((node % 2 : Nat) : Int) = 1 by omega), h12, h13, decide_eq_true (show (node : Int) = last by omega), decide_eq_true (show node % 2 = 1 ∨ node = last from .inr q')]
       and_intros <;> first | rfl | assumption
     . simp only [RT, Q0, Q1, Q2, Q3, Q4, Q5, Q6, Q7, Q8, decide_eq_false (show ¬ ((node % 2 : Nat) : Int) = 1 by omega), h12, h13, decide_eq_false (show ¬ (node : Int) = last by omega), decide_eq_false (show ¬ (node % 2 = 1 ∨ node = last) by omega)]
       and_intros <;> first | rfl | assumption
 clear h12 h13 h7 h8 h14 h15 h67 h68 h69
 rintro z e F1 ⟨rfl, rfl, h82, h12, h13, h7, h8, h14, h15, h17, h67, h68, h69⟩
 simp only [RT, Q0, Q1, Q2, Q3, Q4, Q5, Q6, Q7, Q8, h82]
 refine Aq1 (fun z e G => Is z .normal /\ ∃ (node' last' : Nat) (a' b' : Bts), node' <= 1000000000 /\ last' <= 1000000000 /\ runC (s.1.drop (i + 1)) (node' / 2) (last' / 2) a' b' = some (0, one, two) /\ e.get 12 = .int .i64 (node' : Int) /\ e.get 13 = .int .i64 (last' : Int) /\ e.get 7 = .ptr b7 0 /\ e.get 8 = .ptr b8 0 /\ e.get 14 = .ptr b14 0 /\ e.get 15 = .ptr b15 0 /\ e.get 67 = vr /\ e.get 68 = .int .i64 s.1.length /\ e.get 69 = .int .i64 (i : Int) /\ CkB A G b7 b8 b14 b15 one two a' b') ?_ ?_
 rotate_left
 . clear h12 h13 h7 h8 h14 h15 h17 h67 h68 h69
   rintro z e G ⟨rfl, node', last', a', b', g1, g2, g3, h12, h13, h7, h8, h14, h15, h67, h68, h69, hG⟩
   simp only [RT, Q0, Q1, Q2, Q3, Q4, Q5, Q6, Q7, Q8, h12, h13, Ar9, BS2, h69, wi]
   refine ⟨s.1.length - (i + 1), by omega, i + 1, node' / 2, last' / 2, a', b', rfl, by omega, by omega, by omega, g3, ?_⟩
   and_intros <;> first | rfl | assumption
 refine Aa1 (fun q => ?_) (fun q => ?_)
 rotate_left
 . rw [if_neg q] at hrun
   obtain ⟨_, G, k1, f3, rfl⟩ := Ap1 (A := F1) wF1 hF.lb hp32
   obtain ⟨G1, t1, t2, hG1⟩ := (hF1.fr0 f3).setY (Al9 b p)
   simp only [RT, Q0, Q1, Q2, Q3, Q4, Q5, Q6, Q7, Q8, h15, h17, ldI hF1.ry hF.lb, ldI u3 hp32]
   refine Aa0 k1 ?_
   simp only [RT, Q0, Q1, Q2, Q3, Q4, Q5, Q6, Q7, Q8, h15, t1]
   refine ⟨rfl, node, last, a, nodeH b p, g1, g2, hrun, ?_⟩
   and_intros <;> first | rfl | assumption
 rw [if_pos q] at hrun
 obtain ⟨_, G, k1, f3, rfl⟩ := Ap1 (A := F1) wF1 hp32 hF.la
 have hG := hF1.fr0 f3
 obtain ⟨_, G1, k2, f4, rfl⟩ := Ap1 (A := G) (hG.fr.wf hw) hp32 hF.lb
 obtain ⟨G2, t1, t2, hG2⟩ := (hG.fr0 f4).setX (Al9 p a)
 obtain ⟨G3, t3, t4, hG3⟩ := hG2.setY (Al9 p b)
 simp only [RT, Q0, Q1, Q2, Q3, Q4, Q5, Q6, Q7, Q8, Br7, Aa4, h17, h14, h15, ldI hF1.rx hF.la, ldI hF1.ry hF.lb, ldI u3 hp32]
 refine Aa0 k1 ?_
 simp only [RT, Q0, Q1, Q2, Q3, Q4, Q5, Q6, Q7, Q8, Aa4]
 refine ⟨Aa3 (ha := h17) rfl (ldI (f3.row0 u3) hp32) rfl (Aa3 (ha := h15) rfl (ldI hG.ry hF.lb) rfl Aa4), ?_⟩
 refine Aa0 k2 ?_
 simp only [RT, Q0, Q1, Q2, Q3, Q4, Q5, Q6, Q7, Q8, Aa4, h14, t1, h15, t3]
 have hsk := Be3 node (node := node) (last := last) (Nat.le_refl _)
 refine Aa2 (fun z e B => B = G3 /\ ∃ node' last' : Nat, z = node' /\ node' <= 1000000000 /\ last' <= 1000000000 /\ skip node' last' = skip node last /\ e.get 12 = .int .i64 (node' : Int) /\ e.get 13 = .int .i64 (last' : Int) /\ e.get 7 = .ptr b7 0 /\ e.get 8 = .ptr b8 0 /\ e.get 14 = .ptr b14 0 /\ e.get 15 = .ptr b15 0 /\ e.get 67 = vr /\ e.get 68 = .int .i64 s.1.length /\ e.get 69 = .int .i64 (i : Int))
  (fun z e B => B = G3 /\ Is z (.exit 4) /\ e.get 12 = .int .i64 ((skip node last).1 : Int) /\ e.get 13 = .int .i64 ((skip node last).2 : Int) /\ e.get 7 = .ptr b7 0 /\ e.get 8 = .ptr b8 0 /\ e.get 14 = .ptr b14 0 /\ e.get 15 = .ptr b15 0 /\ e.get 67 = vr /\ e.get 68 = .int .i64 s.1.length /\ e.get 69 = .int .i64 (i : Int))
  ⟨_, rfl, node, last, rfl, g1, g2, rfl, h12, h13, h7, h8, h14, h15, h67, h68, h69⟩ ?_ ?_
 rotate_left
 . clear h12 h13 h7 h8 h14 h15 h67 h68 h69
   rintro z e B hz ⟨rfl, rfl, h12, h13, h7, h8, h14, h15, h67, h68, h69⟩
   simp only [RT, Q0, Q1, Q2, Q3, Q4, Q5, Q6, Q7, Q8]
   refine ⟨rfl, _, _, _, _, by omega, by omega, hrun, ?_⟩
   and_intros <;> first | rfl | assumption
 clear h12 h13 h7 h8 h14 h15 h67 h68 h69
 rintro z e B ⟨rfl, node', last', rfl, y1, y2, y3, h12, h13, h7, h8, h14, h15, h67, h68, h69⟩
 simp only [RT, Q0, Q1, Q2, Q3, Q4, Q5, Q6, Q7, Q8, h12, Az8, BO6 (n := z) (by omega)]
 by_cases c1 : z % 2 = 1
 . rw [Ah2 (.inl c1)] at y3
   simp only [RT, Q0, Q1, Q2, Q3, Q4, Q5, Q6, Q7, Q8, decide_eq_false (show ¬ ((z % 2 : Nat) : Int) = 0 by omega)]
   rw [<- y3]
   and_intros <;> first | rfl | assumption
 by_cases c2 : z = 0
 . rw [Ah2 (.inr c2)] at y3
   simp only [RT, Q0, Q1, Q2, Q3, Q4, Q5, Q6, Q7, Q8, decide_eq_true (show ((z % 2 : Nat) : Int) = 0 by omega), h12, decide_eq_false (show ¬ ¬ (z : Int) = 0 by omega)]
   rw [<- y3]
   and_intros <;> first | rfl | assumption
 rw [AD2 (by omega) c2] at y3
 simp only [RT, Q0, Q1, Q2, Q3, Q4, Q5, Q6, Q7, Q8, decide_eq_true (show ((z % 2 : Nat) : Int) = 0 by omega), h12, decide_eq_true (show ¬ (z : Int) = 0 by omega), h13, Ar9, BS2]
 refine ⟨z / 2, by omega, z / 2, last' / 2, rfl, by omega, by omega, y3, ?_⟩
 and_intros <;> first | rfl | assumption
end
end Go.Sv.Try
namespace Go.Sv.Try
open Go Go.Proofs
def prevH (Hs : List HdP) (k : Nat) : HdP := if k = 0 then hd0 else (Hs[k - 1]?).getD hd0
structure Grows (L : List Bts) (Hs : List HdP) : Prop where
 up : ∀ (k : Nat) x, Hs[k]? = some x -> (prevH Hs k).2.1 <= x.2.1
 last : (prevH Hs Hs.length).2.1 = (L.length : Int)
theorem Grows.app {L : List Bts} {Hs : List HdP} (h : Grows L Hs) (b : Bts) : Grows (applyB L b) (Hs ++ [hdOf Hs (applyB L b)]) := by
 have key : ∀ k, k <= Hs.length -> prevH (Hs ++ [hdOf Hs (applyB L b)]) k = prevH Hs k := fun k hk => by
  unfold prevH
  split
  . rfl
  . rw [List.getElem?_append_left (by omega)]
 refine ⟨fun k x hx => ?_, ?_⟩
 . by_cases q : k < Hs.length
   . rw [List.getElem?_append_left q] at hx
     rw [key k (by omega)]; exact h.up k x hx
   . have hk : k = Hs.length := by
      have := (List.getElem?_eq_some_iff.1 hx).1
      rw [List.length_append, List.length_singleton] at this; omega
     subst hk
     rw [List.getElem?_append_right (Nat.le_refl _), Nat.sub_self] at hx
     cases hx
     rw [key _ (Nat.le_refl _), h.last]
     obtain ⟨t, ht⟩ := AR8 L b
     show (L.length : Int) <= ((applyB L b).length : Int)
     rw [ht, List.length_append]; omega
 . unfold prevH
   rw [List.length_append, List.length_singleton, if_neg (by omega), Nat.add_sub_cancel, List.getElem?_append_right (Nat.le_refl _), Nat.sub_self]
   rfl
theorem HdOk.prev {L : List Bts} {Hs : List HdP} (h : HdOk L Hs) (k : Nat) : (prevH Hs k).2.2.length = 32 := by
 unfold prevH
 split
 . rfl
 . cases q : Hs[k - 1]? with
   | none => rfl
   | some x => exact (h x (List.mem_of_getElem? q)).2
structure LkB (A B : AS) (bp tp r : Nat) (L : List Bts) (Hs : List HdP) (fl ft fh : Option Nat) : Prop where
 fr : Fr S0 A B
 bk : IsBk (fun _ => False) B bp tp r L Hs fl ft fh
 lf : ∀ f, bkF fl ft fh f -> A.blk.length <= f
 l1 : A.blk.length <= bp
 l2 : A.blk.length <= tp
 l3 : A.maps.length <= r
 ok : HdOk L Hs
 gr : Grows L Hs
section
variable {A B C : AS} {m : Hp} {bp tp r : Nat} {L : List Bts} {Hs : List HdP} {fl ft fh : Option Nat}
theorem LkB.fr0 (h : LkB A B bp tp r L Hs fl ft fh) (hf : Fr S0 B C) : LkB A C bp tp r L Hs fl ft fh :=
 { h with fr := h.fr.then0 hf, bk := h.bk.fr0 hf }
theorem LkB.app (h : LkB A B bp tp r L Hs fl ft fh) (hw : WF A) (hm : m.on B) {v : V} {b : Bts} (hv : Slc eU8 m v b) (hb : b.length <= 1000000000) (hH : Hs.length <= 1000) :
 ∃ w E fl' ft' fh', EvF Try.prog HH 44 [.ptr bp 0, v] B w E /\ LkB A E bp tp r (applyB L b) (Hs ++ [hdOf Hs (applyB L b)]) fl' ft' fh' := by
 have hwB := h.fr.wf hw
 obtain ⟨_, E, k2, rfl, f3, fl', ft', fh', kE, e1, e2, e3⟩ := Am0 hwB (fun f q => q.elim) h.bk hm hv (by omega) (by omega)
 have hAB := h.fr.len
 refine ⟨_, E, fl', ft', fh', k2, { fr := ?_, bk := kE, lf := fun f q => ?_, l1 := h.l1, l2 := h.l2, l3 := h.l3, ok := h.ok.apply b, gr := h.gr.app b }⟩
 . exact h.fr.trans f3 fun z y => .inr (AD1 hw h.fr h.l1 h.l2 h.l3 (fun f q => h.lf f (.inl q)) (fun f q => h.lf f (.inr (.inl q))) (fun f q => h.lf f (.inr (.inr q))) z y)
 . rcases q with q | q | q
   . rcases e1.or q with z | z
     . exact h.lf f (.inl z)
     . omega
   . rcases e2.or q with z | z
     . exact h.lf f (.inr (.inl z))
     . omega
   . rcases e3.or q with z | z
     . exact h.lf f (.inr (.inr z))
     . omega
theorem LkB.head (h : LkB A B bp tp r L Hs fl ft fh) {k : Nat} {x : HdP} (hx : Hs[k]? = some x) : ∃ n : Nat, x.2.1 = (n : Int) /\ n <= L.length /\ x.2.2 = rootR ((L.map leafH).take n) /\ x.2.2.length = 32 := by
 obtain ⟨⟨q1, q2, q3⟩, q4⟩ := h.ok x (List.mem_of_getElem? hx)
 exact ⟨x.2.1.toNat, by omega, by omega, q3.symm, q4⟩
set_option maxRecDepth 10000 in
set_option maxHeartbeats 32000000 in
theorem bookLinks_spec {v : V} {xs : List Bts} (hw : WF A) (hm : m.on A) (hl : Slc (eSl eU8) m v xs) :
 ∃ w A', EvF Try.prog HH 12 [v] A w A' /\ w = .bool true := by
 refine Aa6 rfl Try.func12 (by unfold Try.f12; rfl) Try.ntmps12 (by unfold Try.f12; rfl) (by simp) ?_
 have hlen := fun B => hl.len (P := Try.prog) Try.underlying22 B
 obtain ⟨_, A1, k1, rfl, f1⟩ := AF8 hw
 have w1 := f1.wf hw
 simp only [RT, Q0, Q1, Q2, Q3, Q4, Q5, Q6, Q7, Q8]
 refine Aa0 k1 ?_
 by_cases c1 : (xs.length : Int) > 8
 . simp only [RT, Q0, Q1, Q2, Q3, Q4, Q5, Q6, Q7, Q8, A21, hlen, decide_eq_true c1]
 obtain ⟨_, A2, k2, f2, bp, tp, r, fta, rfl, hA, hfa, g1, g2, g3⟩ := Ay8 (Z := fun _ => False) w1
 have w2 := f2.wf w1
 simp only [RT, Q0, Q1, Q2, Q3, Q4, Q5, Q6, Q7, Q8, A21, hlen, decide_eq_false c1]
 refine Aa0 k2 ?_
 have l1 := f1.len
 have l1' := f1.mlen
 have hT : LkB A A2 bp tp r [] [] none fta none := {
  fr := f1.then0 f2
  bk := hA
  lf := fun f q => by
   rcases q with q | q | q
   . cases q
   . have := hfa f q; omega
   . cases q
  l1 := by omega
  l2 := by omega
  l3 := by omega
  ok := fun x q => by cases q
  gr := ⟨fun k x q => by simp at q, rfl⟩ }
 simp only [RT, Q0, Q1, Q2, Q3, Q4, Q5, Q6, Q7, Q8, BX5, hlen]
 refine Aa2 (fun z e B => ∃ (i : Nat) (L : List Bts) (Hs : List HdP) (fl ft fh : Option Nat), z = xs.length - i /\ i <= xs.length /\ Hs.length = i /\ e.get 24 = .int .i64 i /\ e.get 3 = .ptr bp 0 /\ e.get 22 = v /\ e.get 23 = .int .i64 xs.length /\ LkB A B bp tp r L Hs fl ft fh)
  (fun z e B => (Is z .ret /\ e.get 2 = .bool true) ∨ (Is z (.exit 0) /\ ∃ (L : List Bts) (Hs : List HdP) (fl ft fh : Option Nat), Hs.length <= 8 /\ e.get 3 = .ptr bp 0 /\ LkB A B bp tp r L Hs fl ft fh))
  ⟨_, 0, [], [], _, _, _, rfl, by omega, rfl, rfl, rfl, rfl, rfl, hT⟩ ?_ ?_
 . clear hT
   rintro z e B ⟨i, L, Hs, fl, ft, fh, rfl, hi, hHs, h24, h3, h22, h23, hT⟩
   simp only [RT, Q0, Q1, Q2, Q3, Q4, Q5, Q6, Q7, Q8, h23, h24]
   refine Aa1 (fun q1 => ?_) (fun q1 => ?_)
   rotate_left
   . simp only [RT, Q0, Q1, Q2, Q3, Q4, Q5, Q6, Q7, Q8]
     exact .inr ⟨rfl, L, Hs, fl, ft, fh, by omega, h3, hT⟩
   obtain ⟨x, hx⟩ := Ad0 (l := xs) (i := i) (by omega)
   have hmB := hm.fr0 hT.fr
   obtain ⟨b, o, c, y3, y4, y5⟩ := hl.at (P := Try.prog) (k := .i64) hmB Try.underlying22 A28 A66 hx
   rw [AV4] at y5
   have hcl := fun B => y5.len (P := Try.prog) Try.underlying44 B
   by_cases d1 : (x.length : Int) > 3000
   . simp only [RT, Q0, Q1, Q2, Q3, Q4, Q5, Q6, Q7, Q8, h22, h24, y3, y4, hcl, decide_eq_true d1]
     exact .inl rfl
   obtain ⟨w, C, fl2, ft2, fh2, p1, hT1⟩ := hT.app hw hmB y5 (by omega) (by omega)
   have wi : IntKind.i64.wrap ((i : Int) + 1) = ((i + 1 : Nat) : Int) := by rw [Af3 (by omega)]
   simp only [RT, Q0, Q1, Q2, Q3, Q4, Q5, Q6, Q7, Q8, h22, h24, y3, y4, hcl, decide_eq_false d1, h3]
   refine Aa0 p1 ?_
   simp only [RT, Q0, Q1, Q2, Q3, Q4, Q5, Q6, Q7, Q8, h24, wi]
   refine ⟨xs.length - (i + 1), by omega, i + 1, applyB L x, Hs ++ [hdOf Hs (applyB L x)], fl2, ft2, fh2, rfl, by omega, by rw [List.length_append, List.length_singleton, hHs], ?_⟩
   and_intros <;> first | rfl | assumption
 clear hT
 rintro z e B hz (⟨rfl, h2⟩ | ⟨rfl, L, Hs, fl, ft, fh, hH8, h3, hT⟩)
 . simp only [RT, Q0, Q1, Q2, Q3, Q4, Q5, Q6, Q7, Q8, h2]
 have hw1000 := hT.bk.len
 have wB := hT.fr.wf hw
 have hell : ∀ x ∈ L, x.length <= 1000000000 := fun x q => by have := AY6 (hT.bk.ent x q); omega
 have k3 := Ag3 hT.bk.raw
 obtain ⟨_, C, k4, f4, hlv⟩ := AD0 wB hT.bk.raw hell (by omega) (L.length : Int)
 rcases hlv with ⟨q, _⟩ | ⟨n, lv, fo, hn, hn2, rfl, hLv, hfo⟩
 . omega
 obtain rfl : n = L.length := by omega
 have hLv : Lst eI Hp.emp C lv (L.map leafH) fo := by
  rw [List.take_of_length_le (Nat.le_refl _)] at hLv; exact hLv
 have hlvs := hLv.slcArr (fun _ _ q => by cases q)
 have hC := hT.fr0 f4
 obtain ⟨D, e5, f5, r5, n5⟩ := Aa9 C (hdC hd0)
 obtain ⟨b8, hb8⟩ : ∃ b, b = C.blk.length := ⟨_, rfl⟩
 rw [<- hb8] at r5 n5
 have hD := hC.fr0 f5
 simp only [RT, Q0, Q1, Q2, Q3, Q4, Q5, Q6, Q7, Q8, h3]
 refine Aa0 k3 ?_
 simp only [RT, Q0, Q1, Q2, Q3, Q4, Q5, Q6, Q7, Q8]
 refine Aa0 k4 ?_
 simp only [RT, Q0, Q1, Q2, Q3, Q4, Q5, Q6, Q7, Q8, Bv9, <- hb8, <- e5]
 refine Aa2 (fun z e B => ∃ k : Nat, z = Hs.length - k /\ k <= Hs.length /\ e.get 9 = .int .i64 ((k + 1 : Nat) : Int) /\ e.get 3 = .ptr bp 0 /\ e.get 6 = lv /\ e.get 8 = .ptr b8 0 /\ Fr S0 C B /\ B.blk[b8]? = some ⟨hdC (prevH Hs k), .var⟩)
  (fun z e B => Is z (.exit 2) /\ e.get 3 = .ptr bp 0 /\ e.get 8 = .ptr b8 0 /\ Fr S0 C B /\ B.blk[b8]? = some ⟨hdC (prevH Hs Hs.length), .var⟩)
  ⟨_, 0, rfl, by omega, rfl, h3, rfl, rfl, f5, r5⟩ ?_ ?_
 rotate_left
 . rintro z e B hz ⟨rfl, h3, h8, hf, hb⟩
   have ld := Bu1 hb (hT.ok.prev Hs.length)
   rw [hT.gr.last] at ld
   have fa := BO7 b8
   have k6 := Ag3 (hC.fr0 hf).bk.raw
   simp only [RT, Q0, Q1, Q2, Q3, Q4, Q5, Q6, Q7, Q8, Br0, Aa4, h8, fa, ld, h3]
   refine Aa0 k6 ?_
   simp only [RT, Q0, Q1, Q2, Q3, Q4, Q5, Q6, Q7, Q8, Aa4]
   exact Aa3 (ha := rfl) rfl ld.2.1 rfl Aa4
 clear h3
 rintro z e B ⟨k, rfl, hk, h9, h3, h6, h8, hf, hb⟩
 have hTB := hC.fr0 hf
 have wB := hTB.fr.wf hw
 simp only [RT, Q0, Q1, Q2, Q3, Q4, Q5, Q6, Q7, Q8, h9, h3]
 refine Aa0 (Ap2 hTB.bk.raw) ?_
 simp only [RT, Q0, Q1, Q2, Q3, Q4, Q5, Q6, Q7, Q8]
 refine Aa1 (fun q1 => ?_) (fun q1 => ?_)
 rotate_left
 . have : k = Hs.length := by omega
   subst this
   simp only [RT, Q0, Q1, Q2, Q3, Q4, Q5, Q6, Q7, Q8]
   exact ⟨rfl, h3, h8, hf, hb⟩
 obtain ⟨x, hx⟩ := Ad0 (l := Hs) (i := k) (by omega)
 have k7 := At8 wB hTB.bk.raw (by omega) ((k + 1 : Nat) : Int)
 have hat : headAt Hs ((k + 1 : Nat) : Int) = some x := by
  unfold headAt
  rw [if_neg (by omega), show ((((k + 1 : Nat) : Int) - 1).toNat) = k by omega]; exact hx
 rw [hat] at k7
 obtain ⟨_, E, k7, f7, rfl, hx32⟩ := k7
 obtain ⟨F, u1, u2, u3⟩ := BF8 (A := E) hx32
 obtain ⟨b10, hb10⟩ : ∃ b, b = E.blk.length := ⟨_, rfl⟩
 rw [<- hb10] at u1 u3
 have f7F := f7.then0 u2
 have hbF := f7F.row0 hb
 have fCF := hf.then0 f7F
 have hTF := hC.fr0 fCF
 have wF := hTF.fr.wf hw
 obtain ⟨xs, e1, hxs, e2, _⟩ := hTF.head hx
 have hp32 := hT.ok.prev k
 have hgr := hT.gr.up k x hx
 obtain ⟨y, hy⟩ : ∃ y, y = prevH Hs k := ⟨_, rfl⟩
 rw [<- hy] at hbF hp32 hgr
 have fa8 := BO7 b8
 have fa10 := BO7 b10
 have ld8 := Bu1 hbF hp32
 have ld10 := Bu1 u3 hx32
 have wi : IntKind.i64.wrap (((k + 1 : Nat) : Int) + 1) = ((k + 1 + 1 : Nat) : Int) := by rw [Af3 (by omega)]
 simp only [RT, Q0, Q1, Q2, Q3, Q4, Q5, Q6, Q7, Q8, h3, h9]
 refine Aa0 k7 ?_
 simp only [RT, Q0, Q1, Q2, Q3, Q4, Q5, Q6, Q7, Q8, Bv9, <- hb10, u1, fa8, fa10, h8, ld8, ld10, decide_eq_false (show ¬ x.2.1 < y.2.1 by omega)]
 refine Aq1 (fun z e G => Is z .normal /\ Fr S0 F G /\ e.get 3 = .ptr bp 0 /\ e.get 6 = lv /\ e.get 8 = .ptr b8 0 /\ e.get 9 = .int .i64 ((k + 1 : Nat) : Int) /\ e.get 10 = .ptr b10 0) ?_ ?_
 rotate_left
 . clear h3 h6 h8 h9
   rintro z e G ⟨rfl, hG, h3, h6, h8, h9, h10⟩
   have u3 := hG.row0 u3
   have hbG := hG.row0 hbF
   obtain ⟨K, t1, t2, t3⟩ := BG5 hbG hp32 hx32
   have l1 := hC.fr.len
   simp only [RT, Q0, Q1, Q2, Q3, Q4, Q5, Q6, Q7, Q8, h10, (Bu1 u3 hx32).2.2.2, h8, t1, h9, wi]
   have hpx : prevH Hs (k + 1) = x := by unfold prevH; rw [if_neg (by omega), Nat.add_sub_cancel, hx]; rfl
   have z1 : Fr S0 C K := (fCF.then0 hG).row_ t2 (by omega)
   rw [<- hpx] at t3
   refine ⟨Hs.length - (k + 1), by omega, k + 1, rfl, by omega, ?_⟩
   and_intros <;> first | rfl | assumption
 refine Aa1 (fun q => ?_) (fun q => ?_)
 rotate_left
 . simp only [RT, Q0, Q1, Q2, Q3, Q4, Q5, Q6, Q7, Q8]
   and_intros <;> first | rfl | assumption | exact .refl _ _
 have hk0 : k ≠ 0 := fun w => by
  rw [w] at hy
  have : y = hd0 := hy
  rw [this] at q; exact absurd q (by decide)
 obtain ⟨y', hy'⟩ := Ad0 (l := Hs) (i := k - 1) (by omega)
 have hyy : y = y' := by rw [hy]; unfold prevH; rw [if_neg hk0, hy']; rfl
 rw [<- hyy] at hy'
 obtain ⟨ys, ey1, hys, ey2, _⟩ := hTF.head hy'
 have hlm : (L.map leafH).length = L.length := List.length_map _
 have htt : ((L.map leafH).take xs).take ys = (L.map leafH).take ys := by rw [List.take_take, Nat.min_eq_left (by omega)]
 have htl : ((L.map leafH).take xs).length = xs := by rw [List.length_take, hlm]; omega
 rw [<- htt] at ey2
 obtain ⟨va, s1, s2⟩ := hlvs.subTo (P := Try.prog) (t := 36) (e := 32) (hi := xs) (kh := .i64) Try.underlying36 As0 (by omega) F
 have hmF := (Af0 C).fr0 fCF
 obtain ⟨_, G, k8, f8, pv, pfo, rfl, p1, p2⟩ := Be2 (k := ys) wF hmF s2 (by omega) (by omega) (by omega)
 have hTG := hTF.fr0 f8
 have p1 := p1.slcArr (fun _ _ q => by cases q)
 obtain ⟨_, G', k9, f9, rfl⟩ := AZ1 (k := ys) (hTG.fr.wf hw) (Af0 G) (A76 s2) p1 (by omega) (by omega) (by omega)
 rw [htl, <- ey2, <- e2] at k9
 have ldG8 := Bu1 (f8.row0 hbF) hp32
 have ldG10 := Bu1 (f8.row0 u3) hx32
 rw [ey1] at ld8 ldG8
 rw [e1] at ld10 ldG10
 simp only [RT, Q0, Q1, Q2, Q3, Q4, Q5, Q6, Q7, Q8]
 rw [Bq9, Aa8 (by rfl)]
 simp only [RT, Q0, Q1, Q2, Q3, Q4, Q5, Q6, Q7, Q8, h6, fa10, ld10, s1, h8, fa8, ld8]
 refine Aa0 k8 ?_
 simp only [RT, Q0, Q1, Q2, Q3, Q4, Q5, Q6, Q7, Q8, h8, fa8, ldG8, fa10, ldG10]
 refine Aa0 k9 ?_
 simp only [RT, Q0, Q1, Q2, Q3, Q4, Q5, Q6, Q7, Q8]
 have z1 := f8.then0 f9
 and_intros <;> first | rfl | assumption
end
end Go.Sv.Try
