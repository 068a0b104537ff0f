/- Messages as plain data, and how they are written. -/
import Derived.Test.YtnogkphkjkbbhaaSv4
import Derived.Test.YtnogkphkjkbbhaaSvBase
namespace Go.Sv
open Go
set_option linter.unusedVariables false
structure M where
  kind : Int
  who : Int
  height : Int
  round : Int
  valid : Int
  num : Int
  id : Bts
  data : Bts
  ids : List Bts
  list : List Bts
def M.nums (x : M) : List Int := [x.who, x.height, x.round, x.valid, x.num]
def M.heads (x : M) : List Int := [x.kind, x.who, x.height, x.round, x.valid, x.num]
def mc (x : M) (dv iv lv : V) : List V := .int .i64 x.kind :: .int .i64 x.who :: .int .i64 x.height :: .int .i64 x.round :: .int .i64 x.valid :: .int .i64 x.num :: (bc x.id ++ [dv, iv, lv])
theorem mc_len {x : M} {dv iv lv : V} (h : x.id.length = 32) : (mc x dv iv lv).length = 41 := by simp [mc, bc_len, h]
structure MsgIn (m : Hp) (x : M) (dv iv lv : V) : Prop where
  id : x.id.length = 32
  data : Slc eU8 m dv x.data
  ids : Slc eId m iv x.ids
  list : Slc (eSl eU8) m lv x.list
theorem MsgIn.mono {m m' : Hp} {x : M} {dv iv lv : V} (hm : m.le m') (h : MsgIn m x dv iv lv) : MsgIn m' x dv iv lv := ⟨h.id, h.data.mono hm, h.ids.mono hm, h.list.mono hm⟩
theorem one_int {k : IntKind} {n : Int} : V.one (.int k n) = true := rfl
theorem mc_one {m : Hp} {x : M} {dv iv lv : V} (h : MsgIn m x dv iv lv) : (mc x dv iv lv).all V.one = true := by
  simp only [mc, List.all_cons, List.all_append, bc_one, h.data.one, h.ids.one, h.list.one, one_int, List.all_nil, Bool.and_self]
def eMsg : Enc M := ⟨41, true, fun m cs x => ∃ dv iv lv, cs = mc x dv iv lv ∧ MsgIn m x dv iv lv, fun ⟨_, _, _, h, q⟩ => by rw [h, mc_len q.id], fun h => by simp at h, fun ⟨_, _, _, h, q⟩ => by rw [h]; exact mc_one q, fun hm ⟨a, b, c, h, q⟩ => ⟨a, b, c, h, q.mono hm⟩⟩
def numBad (n : Int) : Bool := decide (n < 0) || decide (n > 1099511627776)
def lens (l : List Bts) : Nat := sumOf List.length l
def checkM (x : M) : Int :=
  if x.kind < 1 ∨ x.kind > 31 then 21
  else if x.nums.any numBad = true then 1
  else if x.ids.length > 64 ∨ x.list.length > 64 ∨ x.data.length + lens x.list > 131072 then 2
  else 0
def digits (n : Nat) : Bts := if h : n = 0 then [] else digits (n / 256) ++ [UInt8.ofNat n]
termination_by n
theorem digits_zero : digits 0 = [] := by unfold digits; rfl
theorem digits_pos {n : Nat} (h : n ≠ 0) : digits n = digits (n / 256) ++ [UInt8.ofNat n] := by rw [digits]; simp [h]
theorem digits_nil {n : Nat} : digits n = [] ↔ n = 0 := by
  constructor
  · intro h
    by_cases q : n = 0
    · exact q
    · rw [digits_pos q] at h; simp at h
  · rintro rfl; exact digits_zero
theorem digits_len : ∀ n k : Nat, n < 256 ^ k → (digits n).length ≤ k := by
  intro n
  induction n using Nat.strongRecOn with
  | ind n ih =>
    intro k hk
    by_cases q : n = 0
    · subst q; rw [digits_zero]; simp
    · cases k with
      | zero => simp at hk; omega
      | succ k =>
        rw [digits_pos q, List.length_append]
        have := ih (n / 256) (by omega) k (by rw [Nat.pow_succ] at hk; omega)
        simp; omega
def runB (b : Bts) : Bts := UInt8.ofNat (b.length / 65536) :: UInt8.ofNat (b.length / 256) :: UInt8.ofNat b.length :: b
theorem runB_len (b : Bts) : (runB b).length = b.length + 3 := by simp [runB]
def zero32 : Bts := List.replicate 32 0
def P9 (x : M) : List Bts := [digits x.who.toNat, digits x.height.toNat, digits x.round.toNat, digits x.valid.toNat, digits x.num.toNat, if x.id = zero32 then [] else x.id, x.data, x.ids.flatten, x.list.flatMap runB]
def opt1 (t : Nat) (b : Bts) : List (Nat × Bts) := if b = [] then [] else [(t, b)]
def optAll : Nat → List Bts → List (Nat × Bts)
  | _, [] => []
  | t, b :: r => opt1 t b ++ optAll (t + 1) r
def fieldList (x : M) : List (Nat × Bts) := optAll 1 (P9 x)
def fieldB (f : Nat × Bts) : Bts := UInt8.ofNat f.1 :: runB f.2
def writeB (x : M) : Bts := UInt8.ofNat x.kind.toNat :: (fieldList x).flatMap fieldB
theorem optAll_app : ∀ (t : Nat) (a b : List Bts), optAll t (a ++ b) = optAll t a ++ optAll (t + a.length) b
  | t, [], b => by simp [optAll]
  | t, x :: a, b => by simp only [List.cons_append, optAll, optAll_app (t + 1) a b, List.append_assoc, List.length_cons]; congr 3; omega
theorem opt_succ {l : List Bts} {i : Nat} {b : Bts} (h : l[i]? = some b) (t : Nat) : optAll t (l.take (i + 1)) = optAll t (l.take i) ++ opt1 (t + i) b := by
  have hi := (List.getElem?_eq_some_iff.1 h).1
  rw [List.take_add_one, h, optAll_app, List.length_take, Nat.min_eq_left (by omega)]
  simp [optAll]
theorem opt_at {l : List Bts} {i : Nat} {b : Bts} (h : l[i]? = some b) (hb : b ≠ []) (t : Nat) : (optAll t l)[(optAll t (l.take i)).length]? = some (t + i, b) := by
  have e : optAll t l = optAll t (l.take (i + 1)) ++ optAll (t + (l.take (i + 1)).length) (l.drop (i + 1)) := by rw [← optAll_app, List.take_append_drop]
  rw [e, opt_succ h, opt1, if_neg hb]
  simp
theorem opt_all {l : List Bts} {t : Nat} (n : Nat) (h : l.length ≤ n) : optAll t (l.take n) = optAll t l := by rw [List.take_of_length_le h]
theorem lens_cons (b : Bts) (l : List Bts) : lens (b :: l) = b.length + lens l := rfl
theorem lens_app : ∀ a b : List Bts, lens (a ++ b) = lens a + lens b
  | [], b => by simp [lens, sumOf]
  | x :: a, b => by have := lens_app a b; simp only [List.cons_append, lens_cons, this]; omega
theorem lens_take_le (l : List Bts) (i : Nat) : lens (l.take i) ≤ lens l := by
  have := lens_app (l.take i) (l.drop i); rw [List.take_append_drop] at this; omega
theorem lens_succ {l : List Bts} {i : Nat} {b : Bts} (h : l[i]? = some b) : lens (l.take (i + 1)) = lens (l.take i) + b.length := by
  rw [List.take_add_one, h, lens_app]; simp [lens, sumOf]
theorem flat_succ {l : List Bts} {i : Nat} {b : Bts} (h : l[i]? = some b) : (l.take (i + 1)).flatten = (l.take i).flatten ++ b := by
  rw [List.take_add_one, h]; simp
theorem flatMap_succ {α : Type} {l : List α} {i : Nat} {b : α} {f : α → Bts} (h : l[i]? = some b) : (l.take (i + 1)).flatMap f = (l.take i).flatMap f ++ f b := by
  rw [List.take_add_one, h]; simp
theorem flatMap_runB_len : ∀ l : List Bts, (l.flatMap runB).length = lens l + 3 * l.length
  | [] => by simp [lens, sumOf]
  | x :: l => by rw [List.flatMap_cons, List.length_append, runB_len, flatMap_runB_len l, lens_cons, List.length_cons]; omega
theorem flatten_len {n : Nat} : ∀ l : List Bts, (∀ x ∈ l, x.length = n) → l.flatten.length = l.length * n
  | [], _ => by simp
  | x :: l, h => by
    rw [List.flatten_cons, List.length_append, flatten_len l (fun y hy => h y (by simp [hy])), h x (by simp), List.length_cons, Nat.succ_mul]; omega
structure OkM (x : M) : Prop where
  kind : 1 ≤ x.kind ∧ x.kind ≤ 31
  nums : ∀ n ∈ x.nums, 0 ≤ n ∧ n ≤ 1099511627776
  ids : x.ids.length ≤ 64
  list : x.list.length ≤ 64
  size : x.data.length + lens x.list ≤ 131072
theorem okM_of {x : M} (h : checkM x = 0) : OkM x := by
  unfold checkM at h
  split at h
  · simp at h
  · rename_i h1
    split at h
    · simp at h
    · rename_i h2
      split at h
      · simp at h
      · rename_i h3
        refine ⟨by omega, fun n hn => ?_, by omega, by omega, by omega⟩
        have h4 : numBad n = false := by
          cases q : numBad n with
          | false => rfl
          | true => exact absurd (List.any_eq_true.2 ⟨n, hn, q⟩) h2
        simp only [numBad, Bool.or_eq_false_iff, decide_eq_false_iff_not] at h4
        omega
end Go.Sv
namespace Go.Sv.Try
open Go Go.Proofs
set_option linter.unusedVariables false
set_option linter.unusedSimpArgs false
theorem faM (b : Nat) : evFieldAddr Try.prog 41 (.ptr b 0) 0 = some (.ptr b 0) ∧ evFieldAddr Try.prog 41 (.ptr b 0) 1 = some (.ptr b 1) ∧ evFieldAddr Try.prog 41 (.ptr b 0) 2 = some (.ptr b 2) ∧ evFieldAddr Try.prog 41 (.ptr b 0) 3 = some (.ptr b 3) ∧ evFieldAddr Try.prog 41 (.ptr b 0) 4 = some (.ptr b 4)
    ∧ evFieldAddr Try.prog 41 (.ptr b 0) 5 = some (.ptr b 5) ∧ evFieldAddr Try.prog 41 (.ptr b 0) 6 = some (.ptr b 6) ∧ evFieldAddr Try.prog 41 (.ptr b 0) 7 = some (.ptr b 38) ∧ evFieldAddr Try.prog 41 (.ptr b 0) 8 = some (.ptr b 39) ∧ evFieldAddr Try.prog 41 (.ptr b 0) 9 = some (.ptr b 40) :=
  ⟨by kernel_rfl, by kernel_rfl, by kernel_rfl, by kernel_rfl, by kernel_rfl, by kernel_rfl, by kernel_rfl, by kernel_rfl, by kernel_rfl, by kernel_rfl⟩
theorem mc_at {x : M} {dv iv lv : V} (h : x.id.length = 32) : (mc x dv iv lv)[38]? = some dv ∧ (mc x dv iv lv)[39]? = some iv ∧ (mc x dv iv lv)[40]? = some lv := by
  have e : (bc x.id).length = 32 := by rw [bc_len, h]
  have key : ∀ j, (mc x dv iv lv)[38 + j]? = [dv, iv, lv][j]? := fun j => by
    have : 38 + j = (32 + j) + 6 := by omega
    rw [this]
    show (bc x.id ++ [dv, iv, lv])[32 + j]? = _
    rw [List.getElem?_append_right (by omega), e]; congr 1; omega
  exact ⟨key 0, key 1, key 2⟩
theorem ldM {x : M} {dv iv lv : V} {A : AS} {b : Nat} {k : BK} (hb : A.blk[b]? = some ⟨mc x dv iv lv, k⟩) (h : x.id.length = 32) :
    evLoad Try.prog 3 (.ptr b 0) A = some (.int .i64 x.kind) ∧ evLoad Try.prog 3 (.ptr b 1) A = some (.int .i64 x.who) ∧ evLoad Try.prog 3 (.ptr b 2) A = some (.int .i64 x.height) ∧ evLoad Try.prog 3 (.ptr b 3) A = some (.int .i64 x.round)
    ∧ evLoad Try.prog 3 (.ptr b 4) A = some (.int .i64 x.valid) ∧ evLoad Try.prog 3 (.ptr b 5) A = some (.int .i64 x.num) ∧ evLoad Try.prog 37 (.ptr b 6) A = some (.agg (bc x.id)) ∧ evLoad Try.prog 38 (.ptr b 38) A = some dv
    ∧ evLoad Try.prog 39 (.ptr b 39) A = some iv ∧ evLoad Try.prog 33 (.ptr b 40) A = some lv ∧ evLoad Try.prog 41 (.ptr b 0) A = some (.agg (mc x dv iv lv)) := by
  have hl := mc_len (dv := dv) (iv := iv) (lv := lv) h
  obtain ⟨e1, e2, e3⟩ := mc_at (dv := dv) (iv := iv) (lv := lv) h
  refine ⟨?_, ?_, ?_, ?_, ?_, ?_, ?_, ?_, ?_, ?_, ?_⟩
  · rw [load_at ag3 hb]; rfl
  · rw [load_at ag3 hb]; rfl
  · rw [load_at ag3 hb]; rfl
  · rw [load_at ag3 hb]; rfl
  · rw [load_at ag3 hb]; rfl
  · rw [load_at ag3 hb]; rfl
  · rw [load_agg ag37 sz37]
    unfold AS.range
    rw [hb]
    simp only [hl]
    rw [if_pos (by decide)]
    have : (List.drop 6 (mc x dv iv lv)).take 32 = bc x.id := by
      show (bc x.id ++ [dv, iv, lv]).take 32 = _
      rw [List.take_left' (by rw [bc_len, h])]
    rw [this]; rfl
  · rw [load_at ag38 hb, e1]
  · rw [load_at ag39 hb, e2]
  · rw [load_at ag33 hb, e3]
  · rw [load_agg ag41 sz41]
    unfold AS.range
    rw [hb]
    simp only [hl]
    rw [if_pos (by decide)]
    rw [List.drop_zero, List.take_of_length_le (by rw [hl]; decide)]; rfl
theorem bld5 (a b c d e : Int) : evBuild Try.prog 162 [(0, .int .i64 a), (1, .int .i64 b), (2, .int .i64 c), (3, .int .i64 d), (4, .int .i64 e)] = some (.agg [.int .i64 a, .int .i64 b, .int .i64 c, .int .i64 d, .int .i64 e]) := by kernel_rfl
theorem bsl5 (a b c d e : Int) : bsl Try.prog 166 5 (some [(0, .int .i64 a), (1, .int .i64 b), (2, .int .i64 c), (3, .int .i64 d), (4, .int .i64 e)]) = some (.newSl [.int .i64 a, .int .i64 b, .int .i64 c, .int .i64 d, .int .i64 e] 5 1) := by kernel_rfl
theorem bsl1 (a : Int) : bsl Try.prog 38 1 (some [(0, .int .u8 a)]) = some (.newSl [.int .u8 a] 1 1) := by kernel_rfl
theorem bsl3 (a b c : Int) : bsl Try.prog 38 3 (some [(0, .int .u8 a), (1, .int .u8 b), (2, .int .u8 c)]) = some (.newSl [.int .u8 a, .int .u8 b, .int .u8 c] 3 1) := by kernel_rfl
theorem cnv8 (n : Int) (A : AS) : cnv Try.prog 3 5 (some (.int .i64 n)) A = some (.val (.int .u8 (IntKind.u8.wrap n))) := cnv_int (by decide) Try.underlying3 Try.underlying5
theorem cells5 (x : M) : x.nums.map (.int .i64 ·) = [V.int .i64 x.who, .int .i64 x.height, .int .i64 x.round, .int .i64 x.valid, .int .i64 x.num] := rfl
set_option maxRecDepth 10000 in
set_option maxHeartbeats 8000000 in
theorem check_spec {m : Hp} {A : AS} {x : M} {dv iv lv : V} (hm : m.on A) (h : MsgIn m x dv iv lv) (hl : x.ids.length ≤ 9223372036854775807) (hd : x.data.length ≤ 9223372036854775807) (hll : x.list.length ≤ 9223372036854775807) (hb : ∀ b ∈ x.list, b.length ≤ 9223372036854775807) :
    ∃ w A', EvF Try.prog HH 55 [.agg (mc x dv iv lv)] A w A' ∧ w = .int .i64 (checkM x) ∧ Fr S0 A A' := by
  refine run_fn2 rfl Try.func55 (by unfold Try.f55; rfl) Try.ntmps55 (by unfold Try.f55; rfl) (by simp) ?_
  simp only [RS, xs_some, Option.bind_some, Option.map_some, if_true, if_false, decide_true, decide_false, true_and, and_true, Bool.not_true, Bool.not_false, Bool.false_eq_true, not_false_eq_true, not_true_eq_false, Nat.reduceLT, Nat.reduceBEq, Nat.reduceEqDiff, Nat.reduceAdd, Int.reduceEq, Int.reduceLT, Int.reduceLE, Int.reduceGT, Int.reduceGE, beq_self_eq_true, List.getElem?_toArray, List.getElem?_cons_zero, List.getElem?_cons_succ, List.append_nil, List.nil_append, List.cons_append, List.append_eq]
  obtain ⟨A1, e1, f1, r1, n1⟩ := new_var A (mc x dv iv lv)
  rw [← e1]
  have ld := ldM r1 h.id
  have fa := faM A.blk.length
  have hm1 := hm.fr0 f1
  have dlen := fun B => h.data.len (P := Try.prog) Try.underlying38 B
  have ilen := fun B => h.ids.len (P := Try.prog) Try.underlying39 B
  have llen := fun B => h.list.len (P := Try.prog) Try.underlying33 B
  simp only [RS, xs_some, Option.bind_some, Option.map_some, if_true, if_false, decide_true, decide_false, true_and, and_true, Bool.not_true, Bool.not_false, Bool.false_eq_true, not_false_eq_true, not_true_eq_false, Nat.reduceLT, Nat.reduceBEq, Nat.reduceEqDiff, Nat.reduceAdd, Int.reduceEq, Int.reduceLT, Int.reduceLE, Int.reduceGT, Int.reduceGE, beq_self_eq_true, List.getElem?_toArray, List.getElem?_cons_zero, List.getElem?_cons_succ, List.append_nil, List.nil_append, List.cons_append, List.append_eq, ld, fa]
  refine contG_of (fun g1 => ?_) (fun g1 => ?_)
  · simp only [RS, xs_some, Option.bind_some, Option.map_some, if_true, if_false, decide_true, decide_false, true_and, and_true, Bool.not_true, Bool.not_false, Bool.false_eq_true, not_false_eq_true, not_true_eq_false, Nat.reduceLT, Nat.reduceBEq, Nat.reduceEqDiff, Nat.reduceAdd, Int.reduceEq, Int.reduceLT, Int.reduceLE, Int.reduceGT, Int.reduceGE, beq_self_eq_true, List.getElem?_toArray, List.getElem?_cons_zero, List.getElem?_cons_succ, List.append_nil, List.nil_append, List.cons_append, List.append_eq, g1]
    exact ⟨by unfold checkM; rw [if_pos (.inl g1)], f1⟩
  simp only [RS, xs_some, Option.bind_some, Option.map_some, if_true, if_false, decide_true, decide_false, true_and, and_true, Bool.not_true, Bool.not_false, Bool.false_eq_true, not_false_eq_true, not_true_eq_false, Nat.reduceLT, Nat.reduceBEq, Nat.reduceEqDiff, Nat.reduceAdd, Int.reduceEq, Int.reduceLT, Int.reduceLE, Int.reduceGT, Int.reduceGE, beq_self_eq_true, List.getElem?_toArray, List.getElem?_cons_zero, List.getElem?_cons_succ, List.append_nil, List.nil_append, List.cons_append, List.append_eq, ld, fa, g1]
  refine condK_of (fun g2 => ?_) (fun g2 => ?_)
  · simp only [RS, xs_some, Option.bind_some, Option.map_some, if_true, if_false, decide_true, decide_false, true_and, and_true, Bool.not_true, Bool.not_false, Bool.false_eq_true, not_false_eq_true, not_true_eq_false, Nat.reduceLT, Nat.reduceBEq, Nat.reduceEqDiff, Nat.reduceAdd, Int.reduceEq, Int.reduceLT, Int.reduceLE, Int.reduceGT, Int.reduceGE, beq_self_eq_true, List.getElem?_toArray, List.getElem?_cons_zero, List.getElem?_cons_succ, List.append_nil, List.nil_append, List.cons_append, List.append_eq]
    exact ⟨by unfold checkM; rw [if_pos (.inr g2)], f1⟩
  simp only [RS, xs_some, Option.bind_some, Option.map_some, if_true, if_false, decide_true, decide_false, true_and, and_true, Bool.not_true, Bool.not_false, Bool.false_eq_true, not_false_eq_true, not_true_eq_false, Nat.reduceLT, Nat.reduceBEq, Nat.reduceEqDiff, Nat.reduceAdd, Int.reduceEq, Int.reduceLT, Int.reduceLE, Int.reduceGT, Int.reduceGE, beq_self_eq_true, List.getElem?_toArray, List.getElem?_cons_zero, List.getElem?_cons_succ, List.append_nil, List.nil_append, List.cons_append, List.append_eq, ld, fa, bld5]
  have hk : ¬ (x.kind < 1 ∨ x.kind > 31) := by omega
  refine run_loop_j (fun n e B => B = A1 ∧ ∃ i : Nat, n = 5 - i ∧ i ≤ 5 ∧ e.get 27 = .int .i64 i ∧ e.get 26 = .agg (x.nums.map (.int .i64 ·)) ∧ e.get 1 = .ptr A.blk.length 0 ∧ ∀ n ∈ x.nums.take i, numBad n = false)
    (fun z e B => B = A1 ∧ e.get 1 = .ptr A.blk.length 0 ∧ ((Is z (.exit 0) ∧ ∀ n ∈ x.nums, numBad n = false) ∨ (Is z .ret ∧ e.get 2 = .int .i64 1 ∧ checkM x = 1)))
    ⟨_, rfl, 0, rfl, by simp, rfl, rfl, rfl, by simp⟩ ?_ ?_
  · rintro n e B ⟨rfl, i, rfl, hi, h27, h26, h1, hall⟩
    simp only [RS, xs_some, Option.bind_some, Option.map_some, if_true, if_false, decide_true, decide_false, true_and, and_true, Bool.not_true, Bool.not_false, Bool.false_eq_true, not_false_eq_true, not_true_eq_false, Nat.reduceLT, Nat.reduceBEq, Nat.reduceEqDiff, Nat.reduceAdd, Int.reduceEq, Int.reduceLT, Int.reduceLE, Int.reduceGT, Int.reduceGE, beq_self_eq_true, List.getElem?_toArray, List.getElem?_cons_zero, List.getElem?_cons_succ, List.append_nil, List.nil_append, List.cons_append, List.append_eq, h27]
    refine condK_of (fun g3 => ?_) (fun g3 => ?_)
    · obtain ⟨n, hn⟩ := get_lt (l := x.nums) (i := i) (by simp only [M.nums, List.length_cons, List.length_nil]; omega)
      have hat := arr_at (P := Try.prog) (t := 162) (k := .i64) (cs := x.nums.map (.int .i64 ·)) (i := i) Try.underlying162 sz3 ag3 (by omega)
      rw [List.getElem?_map, hn, Option.map_some] at hat
      simp only [RS, xs_some, Option.bind_some, Option.map_some, if_true, if_false, decide_true, decide_false, true_and, and_true, Bool.not_true, Bool.not_false, Bool.false_eq_true, not_false_eq_true, not_true_eq_false, Nat.reduceLT, Nat.reduceBEq, Nat.reduceEqDiff, Nat.reduceAdd, Int.reduceEq, Int.reduceLT, Int.reduceLE, Int.reduceGT, Int.reduceGE, beq_self_eq_true, List.getElem?_toArray, List.getElem?_cons_zero, List.getElem?_cons_succ, List.append_nil, List.nil_append, List.cons_append, List.append_eq, h27, h26, hat]
      have isBad : numBad n = true → checkM x = 1 := fun q => by
        unfold checkM
        rw [if_neg hk, if_pos (List.any_eq_true.2 ⟨n, List.mem_of_getElem? hn, q⟩)]
      refine contG_of (fun g4 => ?_) (fun g4 => ?_)
      · simp only [RS, xs_some, Option.bind_some, Option.map_some, if_true, if_false, decide_true, decide_false, true_and, and_true, Bool.not_true, Bool.not_false, Bool.false_eq_true, not_false_eq_true, not_true_eq_false, Nat.reduceLT, Nat.reduceBEq, Nat.reduceEqDiff, Nat.reduceAdd, Int.reduceEq, Int.reduceLT, Int.reduceLE, Int.reduceGT, Int.reduceGE, beq_self_eq_true, List.getElem?_toArray, List.getElem?_cons_zero, List.getElem?_cons_succ, List.append_nil, List.nil_append, List.cons_append, List.append_eq, g4, h1]
        exact .inr ⟨rfl, isBad (by simp [numBad, g4])⟩
      · simp only [RS, xs_some, Option.bind_some, Option.map_some, if_true, if_false, decide_true, decide_false, true_and, and_true, Bool.not_true, Bool.not_false, Bool.false_eq_true, not_false_eq_true, not_true_eq_false, Nat.reduceLT, Nat.reduceBEq, Nat.reduceEqDiff, Nat.reduceAdd, Int.reduceEq, Int.reduceLT, Int.reduceLE, Int.reduceGT, Int.reduceGE, beq_self_eq_true, List.getElem?_toArray, List.getElem?_cons_zero, List.getElem?_cons_succ, List.append_nil, List.nil_append, List.cons_append, List.append_eq, g4]
        refine condK_of (fun g5 => ?_) (fun g5 => ?_)
        · simp only [RS, xs_some, Option.bind_some, Option.map_some, if_true, if_false, decide_true, decide_false, true_and, and_true, Bool.not_true, Bool.not_false, Bool.false_eq_true, not_false_eq_true, not_true_eq_false, Nat.reduceLT, Nat.reduceBEq, Nat.reduceEqDiff, Nat.reduceAdd, Int.reduceEq, Int.reduceLT, Int.reduceLE, Int.reduceGT, Int.reduceGE, beq_self_eq_true, List.getElem?_toArray, List.getElem?_cons_zero, List.getElem?_cons_succ, List.append_nil, List.nil_append, List.cons_append, List.append_eq, h1]
          exact .inr ⟨rfl, isBad (by simp [numBad, g5])⟩
        · simp only [RS, xs_some, Option.bind_some, Option.map_some, if_true, if_false, decide_true, decide_false, true_and, and_true, Bool.not_true, Bool.not_false, Bool.false_eq_true, not_false_eq_true, not_true_eq_false, Nat.reduceLT, Nat.reduceBEq, Nat.reduceEqDiff, Nat.reduceAdd, Int.reduceEq, Int.reduceLT, Int.reduceLE, Int.reduceGT, Int.reduceGE, beq_self_eq_true, List.getElem?_toArray, List.getElem?_cons_zero, List.getElem?_cons_succ, List.append_nil, List.nil_append, List.cons_append, List.append_eq, h27]
          refine ⟨5 - (i + 1), by omega, i + 1, rfl, by omega, by rw [wrapS (by omega)], h26, h1, fun z hz => ?_⟩
          rcases mem_take_succ hn hz with q | rfl
          · exact hall z q
          · simp only [numBad, Bool.or_eq_false_iff, decide_eq_false_iff_not]; exact ⟨g4, g5⟩
    · simp only [RS, xs_some, Option.bind_some, Option.map_some, if_true, if_false, decide_true, decide_false, true_and, and_true, Bool.not_true, Bool.not_false, Bool.false_eq_true, not_false_eq_true, not_true_eq_false, Nat.reduceLT, Nat.reduceBEq, Nat.reduceEqDiff, Nat.reduceAdd, Int.reduceEq, Int.reduceLT, Int.reduceLE, Int.reduceGT, Int.reduceGE, beq_self_eq_true, List.getElem?_toArray, List.getElem?_cons_zero, List.getElem?_cons_succ, List.append_nil, List.nil_append, List.cons_append, List.append_eq, h1]
      refine .inl ⟨rfl, fun n hn => hall n ?_⟩
      rw [List.take_of_length_le (by simp only [M.nums, List.length_cons, List.length_nil]; omega)]; exact hn
  rintro z e B hz ⟨rfl, h1, ⟨rfl, hall⟩ | ⟨rfl, h2, hc⟩⟩
  rotate_left
  · simp only [RS, xs_some, Option.bind_some, Option.map_some, if_true, if_false, decide_true, decide_false, true_and, and_true, Bool.not_true, Bool.not_false, Bool.false_eq_true, not_false_eq_true, not_true_eq_false, Nat.reduceLT, Nat.reduceBEq, Nat.reduceEqDiff, Nat.reduceAdd, Int.reduceEq, Int.reduceLT, Int.reduceLE, Int.reduceGT, Int.reduceGE, beq_self_eq_true, List.getElem?_toArray, List.getElem?_cons_zero, List.getElem?_cons_succ, List.append_nil, List.nil_append, List.cons_append, List.append_eq, h2]
    exact ⟨by rw [hc], f1⟩
  have hn : ¬ (x.nums.any numBad = true) := fun q => by
    obtain ⟨n, hn, hb⟩ := List.any_eq_true.1 q
    rw [hall n hn] at hb; simp at hb
  have c2 : x.ids.length > 64 ∨ x.list.length > 64 ∨ x.data.length + lens x.list > 131072 → checkM x = 2 := fun q => by
    unfold checkM; rw [if_neg hk, if_neg hn, if_pos q]
  have c0 : ¬ (x.ids.length > 64 ∨ x.list.length > 64 ∨ x.data.length + lens x.list > 131072) → checkM x = 0 := fun q => by
    unfold checkM; rw [if_neg hk, if_neg hn, if_neg q]
  simp only [RS, xs_some, Option.bind_some, Option.map_some, if_true, if_false, decide_true, decide_false, true_and, and_true, Bool.not_true, Bool.not_false, Bool.false_eq_true, not_false_eq_true, not_true_eq_false, Nat.reduceLT, Nat.reduceBEq, Nat.reduceEqDiff, Nat.reduceAdd, Int.reduceEq, Int.reduceLT, Int.reduceLE, Int.reduceGT, Int.reduceGE, beq_self_eq_true, List.getElem?_toArray, List.getElem?_cons_zero, List.getElem?_cons_succ, List.append_nil, List.nil_append, List.cons_append, List.append_eq, h1, ld, fa, dlen, ilen]
  refine contG_of (fun g1 => ?_) (fun g1 => ?_)
  · simp only [RS, xs_some, Option.bind_some, Option.map_some, if_true, if_false, decide_true, decide_false, true_and, and_true, Bool.not_true, Bool.not_false, Bool.false_eq_true, not_false_eq_true, not_true_eq_false, Nat.reduceLT, Nat.reduceBEq, Nat.reduceEqDiff, Nat.reduceAdd, Int.reduceEq, Int.reduceLT, Int.reduceLE, Int.reduceGT, Int.reduceGE, beq_self_eq_true, List.getElem?_toArray, List.getElem?_cons_zero, List.getElem?_cons_succ, List.append_nil, List.nil_append, List.cons_append, List.append_eq, g1]
    exact ⟨by rw [c2 (.inl (by omega))], f1⟩
  simp only [RS, xs_some, Option.bind_some, Option.map_some, if_true, if_false, decide_true, decide_false, true_and, and_true, Bool.not_true, Bool.not_false, Bool.false_eq_true, not_false_eq_true, not_true_eq_false, Nat.reduceLT, Nat.reduceBEq, Nat.reduceEqDiff, Nat.reduceAdd, Int.reduceEq, Int.reduceLT, Int.reduceLE, Int.reduceGT, Int.reduceGE, beq_self_eq_true, List.getElem?_toArray, List.getElem?_cons_zero, List.getElem?_cons_succ, List.append_nil, List.nil_append, List.cons_append, List.append_eq, h1, ld, fa, g1, llen]
  refine contG_of (fun g2 => ?_) (fun g2 => ?_)
  · simp only [RS, xs_some, Option.bind_some, Option.map_some, if_true, if_false, decide_true, decide_false, true_and, and_true, Bool.not_true, Bool.not_false, Bool.false_eq_true, not_false_eq_true, not_true_eq_false, Nat.reduceLT, Nat.reduceBEq, Nat.reduceEqDiff, Nat.reduceAdd, Int.reduceEq, Int.reduceLT, Int.reduceLE, Int.reduceGT, Int.reduceGE, beq_self_eq_true, List.getElem?_toArray, List.getElem?_cons_zero, List.getElem?_cons_succ, List.append_nil, List.nil_append, List.cons_append, List.append_eq, g2]
    exact ⟨by rw [c2 (.inr (.inl (by omega)))], f1⟩
  simp only [RS, xs_some, Option.bind_some, Option.map_some, if_true, if_false, decide_true, decide_false, true_and, and_true, Bool.not_true, Bool.not_false, Bool.false_eq_true, not_false_eq_true, not_true_eq_false, Nat.reduceLT, Nat.reduceBEq, Nat.reduceEqDiff, Nat.reduceAdd, Int.reduceEq, Int.reduceLT, Int.reduceLE, Int.reduceGT, Int.reduceGE, beq_self_eq_true, List.getElem?_toArray, List.getElem?_cons_zero, List.getElem?_cons_succ, List.append_nil, List.nil_append, List.cons_append, List.append_eq, g2]
  refine condK_of (fun g3 => ?_) (fun g3 => ?_)
  · simp only [RS, xs_some, Option.bind_some, Option.map_some, if_true, if_false, decide_true, decide_false, true_and, and_true, Bool.not_true, Bool.not_false, Bool.false_eq_true, not_false_eq_true, not_true_eq_false, Nat.reduceLT, Nat.reduceBEq, Nat.reduceEqDiff, Nat.reduceAdd, Int.reduceEq, Int.reduceLT, Int.reduceLE, Int.reduceGT, Int.reduceGE, beq_self_eq_true, List.getElem?_toArray, List.getElem?_cons_zero, List.getElem?_cons_succ, List.append_nil, List.nil_append, List.cons_append, List.append_eq]
    exact ⟨by rw [c2 (.inr (.inr (by omega)))], f1⟩
  simp only [RS, xs_some, Option.bind_some, Option.map_some, if_true, if_false, decide_true, decide_false, true_and, and_true, Bool.not_true, Bool.not_false, Bool.false_eq_true, not_false_eq_true, not_true_eq_false, Nat.reduceLT, Nat.reduceBEq, Nat.reduceEqDiff, Nat.reduceAdd, Int.reduceEq, Int.reduceLT, Int.reduceLE, Int.reduceGT, Int.reduceGE, beq_self_eq_true, List.getElem?_toArray, List.getElem?_cons_zero, List.getElem?_cons_succ, List.append_nil, List.nil_append, List.cons_append, List.append_eq, h1, ld, fa, llen]
  refine run_loop_j (fun n e C => C = B ∧ ∃ i : Nat, n = x.list.length - i ∧ i ≤ x.list.length ∧ e.get 57 = .int .i64 i ∧ e.get 55 = lv ∧ e.get 56 = .int .i64 x.list.length ∧ e.get 5 = .int .i64 (x.data.length + lens (x.list.take i) : Nat) ∧ x.data.length + lens (x.list.take i) ≤ 131072)
    (fun z e C => C = B ∧ ((Is z (.exit 2) ∧ checkM x = 0) ∨ (Is z .ret ∧ e.get 2 = .int .i64 2 ∧ checkM x = 2)))
    ⟨_, rfl, 0, rfl, by simp, rfl, rfl, rfl, by simp [lens, sumOf, Env.get], by simp [lens, sumOf]; omega⟩ ?_ ?_
  · rintro n e C ⟨rfl, i, rfl, hi, h57, h55, h56, h5, hle⟩
    simp only [RS, xs_some, Option.bind_some, Option.map_some, if_true, if_false, decide_true, decide_false, true_and, and_true, Bool.not_true, Bool.not_false, Bool.false_eq_true, not_false_eq_true, not_true_eq_false, Nat.reduceLT, Nat.reduceBEq, Nat.reduceEqDiff, Nat.reduceAdd, Int.reduceEq, Int.reduceLT, Int.reduceLE, Int.reduceGT, Int.reduceGE, beq_self_eq_true, List.getElem?_toArray, List.getElem?_cons_zero, List.getElem?_cons_succ, List.append_nil, List.nil_append, List.cons_append, List.append_eq, h57, h56]
    refine condK_of (fun g4 => ?_) (fun g4 => ?_)
    · obtain ⟨y, hy⟩ := get_lt (l := x.list) (i := i) (by omega)
      obtain ⟨b, o, c, q1, q2, q3⟩ := h.list.at (P := Try.prog) (k := .i64) hm1 Try.underlying33 sz38 ag38 hy
      rw [eSl_W] at q3
      have q4 := fun B => q3.len (P := Try.prog) Try.underlying38 B
      have hyl := hb y (List.mem_of_getElem? hy)
      have hs := lens_succ hy
      have hle2 := lens_take_le x.list (i + 1)
      simp only [RS, xs_some, Option.bind_some, Option.map_some, if_true, if_false, decide_true, decide_false, true_and, and_true, Bool.not_true, Bool.not_false, Bool.false_eq_true, not_false_eq_true, not_true_eq_false, Nat.reduceLT, Nat.reduceBEq, Nat.reduceEqDiff, Nat.reduceAdd, Int.reduceEq, Int.reduceLT, Int.reduceLE, Int.reduceGT, Int.reduceGE, beq_self_eq_true, List.getElem?_toArray, List.getElem?_cons_zero, List.getElem?_cons_succ, List.append_nil, List.nil_append, List.cons_append, List.append_eq, h57, h55, q1, q2, h5, q4]
      refine contG_of (fun g5 => ?_) (fun g5 => ?_)
      · simp only [RS, xs_some, Option.bind_some, Option.map_some, if_true, if_false, decide_true, decide_false, true_and, and_true, Bool.not_true, Bool.not_false, Bool.false_eq_true, not_false_eq_true, not_true_eq_false, Nat.reduceLT, Nat.reduceBEq, Nat.reduceEqDiff, Nat.reduceAdd, Int.reduceEq, Int.reduceLT, Int.reduceLE, Int.reduceGT, Int.reduceGE, beq_self_eq_true, List.getElem?_toArray, List.getElem?_cons_zero, List.getElem?_cons_succ, List.append_nil, List.nil_append, List.cons_append, List.append_eq, g5]
        exact .inr ⟨rfl, c2 (.inr (.inr (by omega)))⟩
      · have hw : IntKind.i64.wrap (((x.data.length + lens (x.list.take i) : Nat) : Int) + y.length) = ((x.data.length + lens (x.list.take (i + 1)) : Nat) : Int) := by
          rw [wrap_id (by omega) (by omega), hs]; omega
        rw [hw]
        simp only [RS, xs_some, Option.bind_some, Option.map_some, if_true, if_false, decide_true, decide_false, true_and, and_true, Bool.not_true, Bool.not_false, Bool.false_eq_true, not_false_eq_true, not_true_eq_false, Nat.reduceLT, Nat.reduceBEq, Nat.reduceEqDiff, Nat.reduceAdd, Int.reduceEq, Int.reduceLT, Int.reduceLE, Int.reduceGT, Int.reduceGE, beq_self_eq_true, List.getElem?_toArray, List.getElem?_cons_zero, List.getElem?_cons_succ, List.append_nil, List.nil_append, List.cons_append, List.append_eq, g5]
        refine condK_of (fun g6 => ?_) (fun g6 => ?_)
        · simp only [RS, xs_some, Option.bind_some, Option.map_some, if_true, if_false, decide_true, decide_false, true_and, and_true, Bool.not_true, Bool.not_false, Bool.false_eq_true, not_false_eq_true, not_true_eq_false, Nat.reduceLT, Nat.reduceBEq, Nat.reduceEqDiff, Nat.reduceAdd, Int.reduceEq, Int.reduceLT, Int.reduceLE, Int.reduceGT, Int.reduceGE, beq_self_eq_true, List.getElem?_toArray, List.getElem?_cons_zero, List.getElem?_cons_succ, List.append_nil, List.nil_append, List.cons_append, List.append_eq]
          exact .inr ⟨rfl, c2 (.inr (.inr (by omega)))⟩
        · simp only [RS, xs_some, Option.bind_some, Option.map_some, if_true, if_false, decide_true, decide_false, true_and, and_true, Bool.not_true, Bool.not_false, Bool.false_eq_true, not_false_eq_true, not_true_eq_false, Nat.reduceLT, Nat.reduceBEq, Nat.reduceEqDiff, Nat.reduceAdd, Int.reduceEq, Int.reduceLT, Int.reduceLE, Int.reduceGT, Int.reduceGE, beq_self_eq_true, List.getElem?_toArray, List.getElem?_cons_zero, List.getElem?_cons_succ, List.append_nil, List.nil_append, List.cons_append, List.append_eq, h57]
          exact ⟨x.list.length - (i + 1), by omega, i + 1, rfl, by omega, by rw [wrapS (by omega)], h55, h56, rfl, by omega⟩
    · simp only [RS, xs_some, Option.bind_some, Option.map_some, if_true, if_false, decide_true, decide_false, true_and, and_true, Bool.not_true, Bool.not_false, Bool.false_eq_true, not_false_eq_true, not_true_eq_false, Nat.reduceLT, Nat.reduceBEq, Nat.reduceEqDiff, Nat.reduceAdd, Int.reduceEq, Int.reduceLT, Int.reduceLE, Int.reduceGT, Int.reduceGE, beq_self_eq_true, List.getElem?_toArray, List.getElem?_cons_zero, List.getElem?_cons_succ, List.append_nil, List.nil_append, List.cons_append, List.append_eq]
      rw [List.take_of_length_le (by omega)] at hle
      exact .inl ⟨rfl, c0 (by omega)⟩
  · rintro z e C hz ⟨rfl, ⟨rfl, hc⟩ | ⟨rfl, h2, hc⟩⟩
    · simp only [RS, xs_some, Option.bind_some, Option.map_some, if_true, if_false, decide_true, decide_false, true_and, and_true, Bool.not_true, Bool.not_false, Bool.false_eq_true, not_false_eq_true, not_true_eq_false, Nat.reduceLT, Nat.reduceBEq, Nat.reduceEqDiff, Nat.reduceAdd, Int.reduceEq, Int.reduceLT, Int.reduceLE, Int.reduceGT, Int.reduceGE, beq_self_eq_true, List.getElem?_toArray, List.getElem?_cons_zero, List.getElem?_cons_succ, List.append_nil, List.nil_append, List.cons_append, List.append_eq]
      exact ⟨by rw [hc], f1⟩
    · simp only [RS, xs_some, Option.bind_some, Option.map_some, if_true, if_false, decide_true, decide_false, true_and, and_true, Bool.not_true, Bool.not_false, Bool.false_eq_true, not_false_eq_true, not_true_eq_false, Nat.reduceLT, Nat.reduceBEq, Nat.reduceEqDiff, Nat.reduceAdd, Int.reduceEq, Int.reduceLT, Int.reduceLE, Int.reduceGT, Int.reduceGE, beq_self_eq_true, List.getElem?_toArray, List.getElem?_cons_zero, List.getElem?_cons_succ, List.append_nil, List.nil_append, List.cons_append, List.append_eq, h2]
      exact ⟨by rw [hc], f1⟩
set_option maxRecDepth 10000 in
set_option maxHeartbeats 8000000 in
theorem refCheck_spec {m : Hp} {A : AS} {x : M} {dv iv lv : V} (hm : m.on A) (h : MsgIn m x dv iv lv) (hl : x.ids.length ≤ 9223372036854775807) (hd : x.data.length ≤ 9223372036854775807) (hll : x.list.length ≤ 9223372036854775807) (hb : ∀ b ∈ x.list, b.length ≤ 9223372036854775807) :
    ∃ w A', EvF Try.prog HH 58 [.agg (mc x dv iv lv)] A w A' ∧ w = .int .i64 (checkM x) ∧ Fr S0 A A' := by
  refine run_fn2 rfl Try.func58 (by unfold Try.f58; rfl) Try.ntmps58 (by unfold Try.f58; rfl) (by simp) ?_
  simp only [RS, xs_some, Option.bind_some, Option.map_some, if_true, if_false, decide_true, decide_false, true_and, and_true, Bool.not_true, Bool.not_false, Bool.false_eq_true, not_false_eq_true, not_true_eq_false, Nat.reduceLT, Nat.reduceBEq, Nat.reduceEqDiff, Nat.reduceAdd, Int.reduceEq, Int.reduceLT, Int.reduceLE, Int.reduceGT, Int.reduceGE, beq_self_eq_true, List.getElem?_toArray, List.getElem?_cons_zero, List.getElem?_cons_succ, List.append_nil, List.nil_append, List.cons_append, List.append_eq]
  obtain ⟨A1, e1, f1, r1, n1⟩ := new_var A (mc x dv iv lv)
  rw [← e1]
  have ld := ldM r1 h.id
  have fa := faM A.blk.length
  have hm1 := hm.fr0 f1
  simp only [RS, xs_some, Option.bind_some, Option.map_some, if_true, if_false, decide_true, decide_false, true_and, and_true, Bool.not_true, Bool.not_false, Bool.false_eq_true, not_false_eq_true, not_true_eq_false, Nat.reduceLT, Nat.reduceBEq, Nat.reduceEqDiff, Nat.reduceAdd, Int.reduceEq, Int.reduceLT, Int.reduceLE, Int.reduceGT, Int.reduceGE, beq_self_eq_true, List.getElem?_toArray, List.getElem?_cons_zero, List.getElem?_cons_succ, List.append_nil, List.nil_append, List.cons_append, List.append_eq, ld, fa]
  refine contG_of (fun g1 => ?_) (fun g1 => ?_)
  · simp only [RS, xs_some, Option.bind_some, Option.map_some, if_true, if_false, decide_true, decide_false, true_and, and_true, Bool.not_true, Bool.not_false, Bool.false_eq_true, not_false_eq_true, not_true_eq_false, Nat.reduceLT, Nat.reduceBEq, Nat.reduceEqDiff, Nat.reduceAdd, Int.reduceEq, Int.reduceLT, Int.reduceLE, Int.reduceGT, Int.reduceGE, beq_self_eq_true, List.getElem?_toArray, List.getElem?_cons_zero, List.getElem?_cons_succ, List.append_nil, List.nil_append, List.cons_append, List.append_eq, g1]
    exact ⟨by unfold checkM; rw [if_pos (.inl g1)], f1⟩
  simp only [RS, xs_some, Option.bind_some, Option.map_some, if_true, if_false, decide_true, decide_false, true_and, and_true, Bool.not_true, Bool.not_false, Bool.false_eq_true, not_false_eq_true, not_true_eq_false, Nat.reduceLT, Nat.reduceBEq, Nat.reduceEqDiff, Nat.reduceAdd, Int.reduceEq, Int.reduceLT, Int.reduceLE, Int.reduceGT, Int.reduceGE, beq_self_eq_true, List.getElem?_toArray, List.getElem?_cons_zero, List.getElem?_cons_succ, List.append_nil, List.nil_append, List.cons_append, List.append_eq, ld, fa, g1]
  refine condK_of (fun g2 => ?_) (fun g2 => ?_)
  · simp only [RS, xs_some, Option.bind_some, Option.map_some, if_true, if_false, decide_true, decide_false, true_and, and_true, Bool.not_true, Bool.not_false, Bool.false_eq_true, not_false_eq_true, not_true_eq_false, Nat.reduceLT, Nat.reduceBEq, Nat.reduceEqDiff, Nat.reduceAdd, Int.reduceEq, Int.reduceLT, Int.reduceLE, Int.reduceGT, Int.reduceGE, beq_self_eq_true, List.getElem?_toArray, List.getElem?_cons_zero, List.getElem?_cons_succ, List.append_nil, List.nil_append, List.cons_append, List.append_eq]
    exact ⟨by unfold checkM; rw [if_pos (.inr g2)], f1⟩
  simp only [RS, xs_some, Option.bind_some, Option.map_some, if_true, if_false, decide_true, decide_false, true_and, and_true, Bool.not_true, Bool.not_false, Bool.false_eq_true, not_false_eq_true, not_true_eq_false, Nat.reduceLT, Nat.reduceBEq, Nat.reduceEqDiff, Nat.reduceAdd, Int.reduceEq, Int.reduceLT, Int.reduceLE, Int.reduceGT, Int.reduceGE, beq_self_eq_true, List.getElem?_toArray, List.getElem?_cons_zero, List.getElem?_cons_succ, List.append_nil, List.nil_append, List.cons_append, List.append_eq, ld, fa, bsl5]
  have hk : ¬ (x.kind < 1 ∨ x.kind > 31) := by omega
  rw [← cells5]
  have f2 := Fr.pushArr A1 (x.nums.map (.int .i64 ·))
  have r2 := push_row A1 ⟨x.nums.map (.int .i64 ·), .arr A1.blk.length 0⟩
  have r1' := f2.row0 r1
  have hm2 := hm1.fr0 f2
  have fAll := f1.then0 f2
  generalize A1.push ⟨x.nums.map (.int .i64 ·), .arr A1.blk.length 0⟩ = A2 at *
  have ld := ldM r1' h.id
  refine run_loop_j (fun n e B => B = A2 ∧ ∃ i : Nat, n = 5 - i ∧ i ≤ 5 ∧ e.get 4 = .int .i64 i ∧ e.get 3 = .sl A1.blk.length 0 5 1 ∧ e.get 1 = .ptr A.blk.length 0 ∧ ∀ n ∈ x.nums.take i, numBad n = false)
    (fun z e B => B = A2 ∧ e.get 1 = .ptr A.blk.length 0 ∧ ((Is z (.exit 0) ∧ ∀ n ∈ x.nums, numBad n = false) ∨ (Is z .ret ∧ e.get 2 = .int .i64 1 ∧ checkM x = 1)))
    ⟨_, rfl, 0, rfl, by simp, rfl, rfl, rfl, by simp⟩ ?_ ?_
  · rintro n e B ⟨rfl, i, rfl, hi, h4, h3, h1, hall⟩
    simp only [RS, xs_some, Option.bind_some, Option.map_some, if_true, if_false, decide_true, decide_false, true_and, and_true, Bool.not_true, Bool.not_false, Bool.false_eq_true, not_false_eq_true, not_true_eq_false, Nat.reduceLT, Nat.reduceBEq, Nat.reduceEqDiff, Nat.reduceAdd, Int.reduceEq, Int.reduceLT, Int.reduceLE, Int.reduceGT, Int.reduceGE, beq_self_eq_true, List.getElem?_toArray, List.getElem?_cons_zero, List.getElem?_cons_succ, List.append_nil, List.nil_append, List.cons_append, List.append_eq, h4]
    refine condK_of (fun g3 => ?_) (fun g3 => ?_)
    · obtain ⟨n, hn⟩ := get_lt (l := x.nums) (i := i) (by simp only [M.nums, List.length_cons, List.length_nil]; omega)
      have had := sl_addr (P := Try.prog) (t := 166) (k := .i64) (b := A1.blk.length) (o := 0) (n := 5) (i := i) Try.underlying166 sz3 (by omega)
      have hld := load_at (P := Try.prog) ag3 r2 (0 + i * 1)
      rw [show 0 + i * 1 = i by omega] at hld had
      rw [List.getElem?_map, hn, Option.map_some] at hld
      simp only [RS, xs_some, Option.bind_some, Option.map_some, if_true, if_false, decide_true, decide_false, true_and, and_true, Bool.not_true, Bool.not_false, Bool.false_eq_true, not_false_eq_true, not_true_eq_false, Nat.reduceLT, Nat.reduceBEq, Nat.reduceEqDiff, Nat.reduceAdd, Int.reduceEq, Int.reduceLT, Int.reduceLE, Int.reduceGT, Int.reduceGE, beq_self_eq_true, List.getElem?_toArray, List.getElem?_cons_zero, List.getElem?_cons_succ, List.append_nil, List.nil_append, List.cons_append, List.append_eq, h4, h3, had, hld]
      have isBad : numBad n = true → checkM x = 1 := fun q => by
        unfold checkM
        rw [if_neg hk, if_pos (List.any_eq_true.2 ⟨n, List.mem_of_getElem? hn, q⟩)]
      refine contG_of (fun g4 => ?_) (fun g4 => ?_)
      · simp only [RS, xs_some, Option.bind_some, Option.map_some, if_true, if_false, decide_true, decide_false, true_and, and_true, Bool.not_true, Bool.not_false, Bool.false_eq_true, not_false_eq_true, not_true_eq_false, Nat.reduceLT, Nat.reduceBEq, Nat.reduceEqDiff, Nat.reduceAdd, Int.reduceEq, Int.reduceLT, Int.reduceLE, Int.reduceGT, Int.reduceGE, beq_self_eq_true, List.getElem?_toArray, List.getElem?_cons_zero, List.getElem?_cons_succ, List.append_nil, List.nil_append, List.cons_append, List.append_eq, g4, h1]
        exact .inr ⟨rfl, isBad (by simp [numBad, g4])⟩
      · simp only [RS, xs_some, Option.bind_some, Option.map_some, if_true, if_false, decide_true, decide_false, true_and, and_true, Bool.not_true, Bool.not_false, Bool.false_eq_true, not_false_eq_true, not_true_eq_false, Nat.reduceLT, Nat.reduceBEq, Nat.reduceEqDiff, Nat.reduceAdd, Int.reduceEq, Int.reduceLT, Int.reduceLE, Int.reduceGT, Int.reduceGE, beq_self_eq_true, List.getElem?_toArray, List.getElem?_cons_zero, List.getElem?_cons_succ, List.append_nil, List.nil_append, List.cons_append, List.append_eq, g4, h4, h3, had, hld]
        refine condK_of (fun g5 => ?_) (fun g5 => ?_)
        · simp only [RS, xs_some, Option.bind_some, Option.map_some, if_true, if_false, decide_true, decide_false, true_and, and_true, Bool.not_true, Bool.not_false, Bool.false_eq_true, not_false_eq_true, not_true_eq_false, Nat.reduceLT, Nat.reduceBEq, Nat.reduceEqDiff, Nat.reduceAdd, Int.reduceEq, Int.reduceLT, Int.reduceLE, Int.reduceGT, Int.reduceGE, beq_self_eq_true, List.getElem?_toArray, List.getElem?_cons_zero, List.getElem?_cons_succ, List.append_nil, List.nil_append, List.cons_append, List.append_eq, h1]
          exact .inr ⟨rfl, isBad (by simp [numBad, g5])⟩
        · simp only [RS, xs_some, Option.bind_some, Option.map_some, if_true, if_false, decide_true, decide_false, true_and, and_true, Bool.not_true, Bool.not_false, Bool.false_eq_true, not_false_eq_true, not_true_eq_false, Nat.reduceLT, Nat.reduceBEq, Nat.reduceEqDiff, Nat.reduceAdd, Int.reduceEq, Int.reduceLT, Int.reduceLE, Int.reduceGT, Int.reduceGE, beq_self_eq_true, List.getElem?_toArray, List.getElem?_cons_zero, List.getElem?_cons_succ, List.append_nil, List.nil_append, List.cons_append, List.append_eq, h4]
          refine ⟨5 - (i + 1), by omega, i + 1, rfl, by omega, by rw [wrapS (by omega)], h3, h1, fun z hz => ?_⟩
          rcases mem_take_succ hn hz with q | rfl
          · exact hall z q
          · simp only [numBad, Bool.or_eq_false_iff, decide_eq_false_iff_not]; exact ⟨g4, g5⟩
    · simp only [RS, xs_some, Option.bind_some, Option.map_some, if_true, if_false, decide_true, decide_false, true_and, and_true, Bool.not_true, Bool.not_false, Bool.false_eq_true, not_false_eq_true, not_true_eq_false, Nat.reduceLT, Nat.reduceBEq, Nat.reduceEqDiff, Nat.reduceAdd, Int.reduceEq, Int.reduceLT, Int.reduceLE, Int.reduceGT, Int.reduceGE, beq_self_eq_true, List.getElem?_toArray, List.getElem?_cons_zero, List.getElem?_cons_succ, List.append_nil, List.nil_append, List.cons_append, List.append_eq, h1]
      refine .inl ⟨rfl, fun n hn => hall n ?_⟩
      rw [List.take_of_length_le (by simp only [M.nums, List.length_cons, List.length_nil]; omega)]; exact hn
  rintro z e B hz ⟨rfl, h1, ⟨rfl, hall⟩ | ⟨rfl, h2, hc⟩⟩
  rotate_left
  · simp only [RS, xs_some, Option.bind_some, Option.map_some, if_true, if_false, decide_true, decide_false, true_and, and_true, Bool.not_true, Bool.not_false, Bool.false_eq_true, not_false_eq_true, not_true_eq_false, Nat.reduceLT, Nat.reduceBEq, Nat.reduceEqDiff, Nat.reduceAdd, Int.reduceEq, Int.reduceLT, Int.reduceLE, Int.reduceGT, Int.reduceGE, beq_self_eq_true, List.getElem?_toArray, List.getElem?_cons_zero, List.getElem?_cons_succ, List.append_nil, List.nil_append, List.cons_append, List.append_eq, h2]
    exact ⟨by rw [hc], fAll⟩
  have hn : ¬ (x.nums.any numBad = true) := fun q => by
    obtain ⟨n, hn, hb⟩ := List.any_eq_true.1 q
    rw [hall n hn] at hb; simp at hb
  have c2 : x.ids.length > 64 ∨ x.list.length > 64 ∨ x.data.length + lens x.list > 131072 → checkM x = 2 := fun q => by
    unfold checkM; rw [if_neg hk, if_neg hn, if_pos q]
  have c0 : ¬ (x.ids.length > 64 ∨ x.list.length > 64 ∨ x.data.length + lens x.list > 131072) → checkM x = 0 := fun q => by
    unfold checkM; rw [if_neg hk, if_neg hn, if_neg q]
  have dlen := fun B => h.data.len (P := Try.prog) Try.underlying38 B
  have ilen := fun B => h.ids.len (P := Try.prog) Try.underlying39 B
  have llen := fun B => h.list.len (P := Try.prog) Try.underlying33 B
  simp only [RS, xs_some, Option.bind_some, Option.map_some, if_true, if_false, decide_true, decide_false, true_and, and_true, Bool.not_true, Bool.not_false, Bool.false_eq_true, not_false_eq_true, not_true_eq_false, Nat.reduceLT, Nat.reduceBEq, Nat.reduceEqDiff, Nat.reduceAdd, Int.reduceEq, Int.reduceLT, Int.reduceLE, Int.reduceGT, Int.reduceGE, beq_self_eq_true, List.getElem?_toArray, List.getElem?_cons_zero, List.getElem?_cons_succ, List.append_nil, List.nil_append, List.cons_append, List.append_eq, h1, ld, fa, ilen]
  refine contG_of (fun g1 => ?_) (fun g1 => ?_)
  · simp only [RS, xs_some, Option.bind_some, Option.map_some, if_true, if_false, decide_true, decide_false, true_and, and_true, Bool.not_true, Bool.not_false, Bool.false_eq_true, not_false_eq_true, not_true_eq_false, Nat.reduceLT, Nat.reduceBEq, Nat.reduceEqDiff, Nat.reduceAdd, Int.reduceEq, Int.reduceLT, Int.reduceLE, Int.reduceGT, Int.reduceGE, beq_self_eq_true, List.getElem?_toArray, List.getElem?_cons_zero, List.getElem?_cons_succ, List.append_nil, List.nil_append, List.cons_append, List.append_eq, g1]
    exact ⟨by rw [c2 (.inl (by omega))], fAll⟩
  simp only [RS, xs_some, Option.bind_some, Option.map_some, if_true, if_false, decide_true, decide_false, true_and, and_true, Bool.not_true, Bool.not_false, Bool.false_eq_true, not_false_eq_true, not_true_eq_false, Nat.reduceLT, Nat.reduceBEq, Nat.reduceEqDiff, Nat.reduceAdd, Int.reduceEq, Int.reduceLT, Int.reduceLE, Int.reduceGT, Int.reduceGE, beq_self_eq_true, List.getElem?_toArray, List.getElem?_cons_zero, List.getElem?_cons_succ, List.append_nil, List.nil_append, List.cons_append, List.append_eq, h1, ld, fa, g1, llen]
  refine condK_of (fun g2 => ?_) (fun g2 => ?_)
  · simp only [RS, xs_some, Option.bind_some, Option.map_some, if_true, if_false, decide_true, decide_false, true_and, and_true, Bool.not_true, Bool.not_false, Bool.false_eq_true, not_false_eq_true, not_true_eq_false, Nat.reduceLT, Nat.reduceBEq, Nat.reduceEqDiff, Nat.reduceAdd, Int.reduceEq, Int.reduceLT, Int.reduceLE, Int.reduceGT, Int.reduceGE, beq_self_eq_true, List.getElem?_toArray, List.getElem?_cons_zero, List.getElem?_cons_succ, List.append_nil, List.nil_append, List.cons_append, List.append_eq]
    exact ⟨by rw [c2 (.inr (.inl (by omega)))], fAll⟩
  simp only [RS, xs_some, Option.bind_some, Option.map_some, if_true, if_false, decide_true, decide_false, true_and, and_true, Bool.not_true, Bool.not_false, Bool.false_eq_true, not_false_eq_true, not_true_eq_false, Nat.reduceLT, Nat.reduceBEq, Nat.reduceEqDiff, Nat.reduceAdd, Int.reduceEq, Int.reduceLT, Int.reduceLE, Int.reduceGT, Int.reduceGE, beq_self_eq_true, List.getElem?_toArray, List.getElem?_cons_zero, List.getElem?_cons_succ, List.append_nil, List.nil_append, List.cons_append, List.append_eq, h1, ld, fa, dlen]
  rw [wrapI (by omega) (by omega)]
  refine run_loop_j (fun n e C => C = B ∧ e.get 1 = .ptr A.blk.length 0 ∧ ∃ (i : Nat) (left : Int), n = x.list.length - i ∧ i ≤ x.list.length ∧ e.get 6 = .int .i64 i ∧ e.get 5 = .int .i64 left ∧ left = 131072 - ((x.data.length + lens (x.list.take i) : Nat) : Int) ∧ -9223372036854775807 ≤ left)
    (fun z e C => C = B ∧ Is z (.exit 2) ∧ ∃ left : Int, e.get 5 = .int .i64 left ∧ checkM x = if left < 0 then 2 else 0)
    ⟨_, rfl, h1, 0, _, rfl, by simp, rfl, rfl, by simp [lens, sumOf], by omega⟩ ?_ ?_
  · clear h1
    rintro n e C ⟨rfl, h1, i, left, rfl, hi, h6, h5, hle, hlo⟩
    have hle2 := lens_take_le x.list i
    simp only [RS, xs_some, Option.bind_some, Option.map_some, if_true, if_false, decide_true, decide_false, true_and, and_true, Bool.not_true, Bool.not_false, Bool.false_eq_true, not_false_eq_true, not_true_eq_false, Nat.reduceLT, Nat.reduceBEq, Nat.reduceEqDiff, Nat.reduceAdd, Int.reduceEq, Int.reduceLT, Int.reduceLE, Int.reduceGT, Int.reduceGE, beq_self_eq_true, List.getElem?_toArray, List.getElem?_cons_zero, List.getElem?_cons_succ, List.append_nil, List.nil_append, List.cons_append, List.append_eq, h1, h6, ld, fa, llen]
    refine contG_of (fun g4 => ?_) (fun g4 => ?_)
    · simp only [RS, xs_some, Option.bind_some, Option.map_some, if_true, if_false, decide_true, decide_false, true_and, and_true, Bool.not_true, Bool.not_false, Bool.false_eq_true, not_false_eq_true, not_true_eq_false, Nat.reduceLT, Nat.reduceBEq, Nat.reduceEqDiff, Nat.reduceAdd, Int.reduceEq, Int.reduceLT, Int.reduceLE, Int.reduceGT, Int.reduceGE, beq_self_eq_true, List.getElem?_toArray, List.getElem?_cons_zero, List.getElem?_cons_succ, List.append_nil, List.nil_append, List.cons_append, List.append_eq, g4, h5]
      refine condK_of (fun g5 => ?_) (fun g5 => ?_)
      · obtain ⟨y, hy⟩ := get_lt (l := x.list) (i := i) (by omega)
        obtain ⟨b, o, c, q1, q2, q3⟩ := h.list.at (P := Try.prog) (k := .i64) hm2 Try.underlying33 sz38 ag38 hy
        rw [eSl_W] at q3
        have q4 := fun B => q3.len (P := Try.prog) Try.underlying38 B
        have hyl := hb y (List.mem_of_getElem? hy)
        have hs := lens_succ hy
        simp only [RS, xs_some, Option.bind_some, Option.map_some, if_true, if_false, decide_true, decide_false, true_and, and_true, Bool.not_true, Bool.not_false, Bool.false_eq_true, not_false_eq_true, not_true_eq_false, Nat.reduceLT, Nat.reduceBEq, Nat.reduceEqDiff, Nat.reduceAdd, Int.reduceEq, Int.reduceLT, Int.reduceLE, Int.reduceGT, Int.reduceGE, beq_self_eq_true, List.getElem?_toArray, List.getElem?_cons_zero, List.getElem?_cons_succ, List.append_nil, List.nil_append, List.cons_append, List.append_eq, h5, h1, h6, ld, fa, q1, q2, q4]
        rw [wrapS (by omega), wrapI (by omega) (by omega)]
        exact ⟨x.list.length - (i + 1), by omega, i + 1, left - y.length, rfl, by omega, rfl, rfl, by omega, by omega⟩
      · simp only [RS, xs_some, Option.bind_some, Option.map_some, if_true, if_false, decide_true, decide_false, true_and, and_true, Bool.not_true, Bool.not_false, Bool.false_eq_true, not_false_eq_true, not_true_eq_false, Nat.reduceLT, Nat.reduceBEq, Nat.reduceEqDiff, Nat.reduceAdd, Int.reduceEq, Int.reduceLT, Int.reduceLE, Int.reduceGT, Int.reduceGE, beq_self_eq_true, List.getElem?_toArray, List.getElem?_cons_zero, List.getElem?_cons_succ, List.append_nil, List.nil_append, List.cons_append, List.append_eq]
        refine ⟨rfl, left, h5, ?_⟩
        rw [if_pos (by omega), c2 (.inr (.inr (by omega)))]
    · simp only [RS, xs_some, Option.bind_some, Option.map_some, if_true, if_false, decide_true, decide_false, true_and, and_true, Bool.not_true, Bool.not_false, Bool.false_eq_true, not_false_eq_true, not_true_eq_false, Nat.reduceLT, Nat.reduceBEq, Nat.reduceEqDiff, Nat.reduceAdd, Int.reduceEq, Int.reduceLT, Int.reduceLE, Int.reduceGT, Int.reduceGE, beq_self_eq_true, List.getElem?_toArray, List.getElem?_cons_zero, List.getElem?_cons_succ, List.append_nil, List.nil_append, List.cons_append, List.append_eq, g4]
      refine ⟨rfl, left, h5, ?_⟩
      have : i = x.list.length := by omega
      subst this
      rw [List.take_of_length_le (Nat.le_refl _)] at hle
      split
      · rw [c2 (.inr (.inr (by omega)))]
      · rw [c0 (by omega)]
  · rintro z e C hz ⟨rfl, rfl, left, h5, hc⟩
    simp only [RS, xs_some, Option.bind_some, Option.map_some, if_true, if_false, decide_true, decide_false, true_and, and_true, Bool.not_true, Bool.not_false, Bool.false_eq_true, not_false_eq_true, not_true_eq_false, Nat.reduceLT, Nat.reduceBEq, Nat.reduceEqDiff, Nat.reduceAdd, Int.reduceEq, Int.reduceLT, Int.reduceLE, Int.reduceGT, Int.reduceGE, beq_self_eq_true, List.getElem?_toArray, List.getElem?_cons_zero, List.getElem?_cons_succ, List.append_nil, List.nil_append, List.cons_append, List.append_eq, h5]
    refine condK_of (fun g5 => ?_) (fun g5 => ?_)
    · simp only [RS, xs_some, Option.bind_some, Option.map_some, if_true, if_false, decide_true, decide_false, true_and, and_true, Bool.not_true, Bool.not_false, Bool.false_eq_true, not_false_eq_true, not_true_eq_false, Nat.reduceLT, Nat.reduceBEq, Nat.reduceEqDiff, Nat.reduceAdd, Int.reduceEq, Int.reduceLT, Int.reduceLE, Int.reduceGT, Int.reduceGE, beq_self_eq_true, List.getElem?_toArray, List.getElem?_cons_zero, List.getElem?_cons_succ, List.append_nil, List.nil_append, List.cons_append, List.append_eq]
      exact ⟨by rw [hc, if_pos g5], fAll⟩
    · simp only [RS, xs_some, Option.bind_some, Option.map_some, if_true, if_false, decide_true, decide_false, true_and, and_true, Bool.not_true, Bool.not_false, Bool.false_eq_true, not_false_eq_true, not_true_eq_false, Nat.reduceLT, Nat.reduceBEq, Nat.reduceEqDiff, Nat.reduceAdd, Int.reduceEq, Int.reduceLT, Int.reduceLE, Int.reduceGT, Int.reduceGE, beq_self_eq_true, List.getElem?_toArray, List.getElem?_cons_zero, List.getElem?_cons_succ, List.append_nil, List.nil_append, List.cons_append, List.append_eq]
      exact ⟨by rw [hc, if_neg g5], fAll⟩
end Go.Sv.Try
namespace Go.Sv.Try
open Go Go.Proofs
set_option linter.unusedVariables false
set_option linter.unusedSimpArgs false
set_option maxRecDepth 10000 in
set_option maxHeartbeats 8000000 in
theorem number_spec {A : AS} {n : Nat} (hw : WF A) (hn : n ≤ 1099511627776) :
    ∃ w A', EvF Try.prog HH 80 [.int .i64 n] A w A' ∧ Own A.blk.length A' w (digits n).length 1 (bc (digits n)) ∧ Fr S0 A A' := by
  refine run_fn2 rfl Try.func80 (by unfold Try.f80; rfl) Try.ntmps80 (by unfold Try.f80; rfl) (by simp) ?_
  simp only [RS, xs_some, Option.bind_some, Option.map_some, if_true, if_false, decide_true, decide_false, true_and, and_true, Bool.not_true, Bool.not_false, Bool.false_eq_true, not_false_eq_true, not_true_eq_false, Nat.reduceLT, Nat.reduceBEq, Nat.reduceEqDiff, Nat.reduceAdd, Int.reduceEq, Int.reduceLT, Int.reduceLE, Int.reduceGT, Int.reduceGE, beq_self_eq_true, List.getElem?_toArray, List.getElem?_cons_zero, List.getElem?_cons_succ, List.append_nil, List.nil_append, List.cons_append, List.append_eq]
  refine run_loop (fun k e B => Fr S0 A B ∧ ∃ (j : Nat) (s : Bts) (ov : V), k = j ∧ j ≤ n ∧ e.get 0 = .int .i64 j ∧ e.get 3 = ov ∧ digits j ++ s = digits n ∧ Own A.blk.length B ov s.length 1 (bc s))
    ⟨_, .refl _ A, n, [], .snil, rfl, by omega, rfl, rfl, by simp, .nil _ _ _⟩ ?_
  rintro k e B ⟨hf, j, s, ov, rfl, hj, h0, h3, hs, hown⟩
  have hsl : s.length ≤ 6 := by
    have h1 := digits_len n 6 (by omega)
    rw [← hs, List.length_append] at h1; omega
  simp only [RS, xs_some, Option.bind_some, Option.map_some, if_true, if_false, decide_true, decide_false, true_and, and_true, Bool.not_true, Bool.not_false, Bool.false_eq_true, not_false_eq_true, not_true_eq_false, Nat.reduceLT, Nat.reduceBEq, Nat.reduceEqDiff, Nat.reduceAdd, Int.reduceEq, Int.reduceLT, Int.reduceLE, Int.reduceGT, Int.reduceGE, beq_self_eq_true, List.getElem?_toArray, List.getElem?_cons_zero, List.getElem?_cons_succ, List.append_nil, List.nil_append, List.cons_append, List.append_eq, h0]
  refine condK_of (fun g => ?_) (fun g => ?_)
  · have hne : k ≠ 0 := by omega
    simp only [RS, xs_some, Option.bind_some, Option.map_some, if_true, if_false, decide_true, decide_false, true_and, and_true, Bool.not_true, Bool.not_false, Bool.false_eq_true, not_false_eq_true, not_true_eq_false, Nat.reduceLT, Nat.reduceBEq, Nat.reduceEqDiff, Nat.reduceAdd, Int.reduceEq, Int.reduceLT, Int.reduceLE, Int.reduceGT, Int.reduceGE, beq_self_eq_true, List.getElem?_toArray, List.getElem?_cons_zero, List.getElem?_cons_succ, List.append_nil, List.nil_append, List.cons_append, List.append_eq, h0, h3, cnv8, u8wrap, bsl1]
    have o1 := Own.new (n := 1) (sz := 1) (cs := [.int .u8 ((UInt8.ofNat k).toNat : Int)]) (hf.wf hw) hf.len rfl rfl
    have q1 := Fr.pushArr B [.int .u8 ((UInt8.ofNat k).toNat : Int)]
    generalize B.push ⟨[.int .u8 ((UInt8.ofNat k).toNat : Int)], .arr B.blk.length 0⟩ = B1 at *
    obtain ⟨v', B2, p1, p2, p3⟩ := o1.app sl38 (q1.wf (hf.wf hw)) (by have := hf.len; have := q1.len; omega) ((hown.fr0 q1).src Try.underlying38) (by rw [bc_len, Nat.mul_one]) (bc_one s) (by omega) (by omega)
    have hsh : evShift .shr .i64 (k : Int) 8 = some (.int .i64 ((k / 256 : Nat) : Int)) := shr_nat k 8 (by decide)
    simp only [RS, xs_some, Option.bind_some, Option.map_some, if_true, if_false, decide_true, decide_false, true_and, and_true, Bool.not_true, Bool.not_false, Bool.false_eq_true, not_false_eq_true, not_true_eq_false, Nat.reduceLT, Nat.reduceBEq, Nat.reduceEqDiff, Nat.reduceAdd, Int.reduceEq, Int.reduceLT, Int.reduceLE, Int.reduceGT, Int.reduceGE, beq_self_eq_true, List.getElem?_toArray, List.getElem?_cons_zero, List.getElem?_cons_succ, List.append_nil, List.nil_append, List.cons_append, List.append_eq, p1, h0, hsh]
    refine ⟨k / 256, by omega, (hf.then0 q1).fams p3, k / 256, UInt8.ofNat k :: s, v', rfl, by omega, rfl, rfl, ?_, p2.cast (by simp; omega) rfl⟩
    rw [← hs, digits_pos hne, List.append_assoc]; rfl
  · have : k = 0 := by omega
    subst this
    simp only [RS, xs_some, Option.bind_some, Option.map_some, if_true, if_false, decide_true, decide_false, true_and, and_true, Bool.not_true, Bool.not_false, Bool.false_eq_true, not_false_eq_true, not_true_eq_false, Nat.reduceLT, Nat.reduceBEq, Nat.reduceEqDiff, Nat.reduceAdd, Int.reduceEq, Int.reduceLT, Int.reduceLE, Int.reduceGT, Int.reduceGE, beq_self_eq_true, List.getElem?_toArray, List.getElem?_cons_zero, List.getElem?_cons_succ, List.append_nil, List.nil_append, List.cons_append, List.append_eq, h3]
    rw [digits_zero, List.nil_append] at hs
    subst hs
    exact ⟨hown, hf⟩
set_option maxRecDepth 10000 in
set_option maxHeartbeats 8000000 in
theorem refDigits_spec {A : AS} {n : Nat} (hn : n ≤ 1099511627776) :
    ∃ w A', EvF Try.prog HH 81 [.int .i64 n] A w A' ∧ w = .str (digits n) ∧ Fr S0 A A' := by
  refine run_fn2 rfl Try.func81 (by unfold Try.f81; rfl) Try.ntmps81 (by unfold Try.f81; rfl) (by simp) ?_
  simp only [RS, xs_some, Option.bind_some, Option.map_some, if_true, if_false, decide_true, decide_false, true_and, and_true, Bool.not_true, Bool.not_false, Bool.false_eq_true, not_false_eq_true, not_true_eq_false, Nat.reduceLT, Nat.reduceBEq, Nat.reduceEqDiff, Nat.reduceAdd, Int.reduceEq, Int.reduceLT, Int.reduceLE, Int.reduceGT, Int.reduceGE, beq_self_eq_true, List.getElem?_toArray, List.getElem?_cons_zero, List.getElem?_cons_succ, List.append_nil, List.nil_append, List.cons_append, List.append_eq]
  refine run_loop (fun k e B => Fr S0 A B ∧ ∃ (j : Nat) (s : Bts), k = j ∧ j ≤ n ∧ e.get 0 = .int .i64 j ∧ e.get 3 = .str s ∧ digits j ++ s = digits n)
    ⟨_, .refl _ A, n, [], rfl, by omega, rfl, rfl, by simp⟩ ?_
  rintro k e B ⟨hf, j, s, rfl, hj, h0, h3, hs⟩
  have hsl : s.length ≤ 6 := by
    have h1 := digits_len n 6 (by omega)
    rw [← hs, List.length_append] at h1; omega
  simp only [RS, xs_some, Option.bind_some, Option.map_some, if_true, if_false, decide_true, decide_false, true_and, and_true, Bool.not_true, Bool.not_false, Bool.false_eq_true, not_false_eq_true, not_true_eq_false, Nat.reduceLT, Nat.reduceBEq, Nat.reduceEqDiff, Nat.reduceAdd, Int.reduceEq, Int.reduceLT, Int.reduceLE, Int.reduceGT, Int.reduceGE, beq_self_eq_true, List.getElem?_toArray, List.getElem?_cons_zero, List.getElem?_cons_succ, List.append_nil, List.nil_append, List.cons_append, List.append_eq, h0]
  refine condK_of (fun g => ?_) (fun g => ?_)
  · have hne : k ≠ 0 := by omega
    have hrem : evBin Try.prog .rem 3 (.int .i64 (k : Int)) (.int .i64 256) = some (.int .i64 ((k % 256 : Nat) : Int)) := rem_lit k 256 (by decide)
    have hquo : evBin Try.prog .quo 3 (.int .i64 (k : Int)) (.int .i64 256) = some (.int .i64 ((k / 256 : Nat) : Int)) := quo_lit k 256 (by decide) (by omega)
    have hcv : cnv Try.prog 38 9 (some (.sl B.blk.length 0 1 1)) (B.push ⟨[.int .u8 ((UInt8.ofNat k).toNat : Int)], .arr B.blk.length 0⟩) = some (.val (.str [UInt8.ofNat k])) := cnv_row (l := [UInt8.ofNat k]) (by decide) Try.underlying38 Try.underlying5 Try.underlying9 (push_row B _)
    have hadd : evBin Try.prog .add 9 (.str [UInt8.ofNat k]) (.str s) = some (.str ([UInt8.ofNat k] ++ s)) := str_add (by simp; omega)
    simp only [RS, xs_some, Option.bind_some, Option.map_some, if_true, if_false, decide_true, decide_false, true_and, and_true, Bool.not_true, Bool.not_false, Bool.false_eq_true, not_false_eq_true, not_true_eq_false, Nat.reduceLT, Nat.reduceBEq, Nat.reduceEqDiff, Nat.reduceAdd, Int.reduceEq, Int.reduceLT, Int.reduceLE, Int.reduceGT, Int.reduceGE, beq_self_eq_true, List.getElem?_toArray, List.getElem?_cons_zero, List.getElem?_cons_succ, List.append_nil, List.nil_append, List.cons_append, List.append_eq, h0, h3, hrem, hquo, cnv8, u8wrap, u8mod, bsl1, hcv, hadd]
    refine ⟨k / 256, by omega, hf.then0 (Fr.pushArr B _), k / 256, UInt8.ofNat k :: s, rfl, by omega, rfl, rfl, ?_⟩
    rw [← hs, digits_pos hne, List.append_assoc]; rfl
  · have : k = 0 := by omega
    subst this
    simp only [RS, xs_some, Option.bind_some, Option.map_some, if_true, if_false, decide_true, decide_false, true_and, and_true, Bool.not_true, Bool.not_false, Bool.false_eq_true, not_false_eq_true, not_true_eq_false, Nat.reduceLT, Nat.reduceBEq, Nat.reduceEqDiff, Nat.reduceAdd, Int.reduceEq, Int.reduceLT, Int.reduceLE, Int.reduceGT, Int.reduceGE, beq_self_eq_true, List.getElem?_toArray, List.getElem?_cons_zero, List.getElem?_cons_succ, List.append_nil, List.nil_append, List.cons_append, List.append_eq, h3]
    rw [digits_zero, List.nil_append] at hs
    subst hs
    exact ⟨rfl, hf⟩
set_option maxRecDepth 10000 in
set_option maxHeartbeats 8000000 in
theorem run_spec {m : Hp} {A : AS} {v : V} {b : Bts} (hw : WF A) (hm : m.on A) (h : Slc eU8 m v b) (hb : b.length ≤ 1000000000000) :
    ∃ w A', EvF Try.prog HH 57 [v] A w A' ∧ Own A.blk.length A' w (runB b).length 1 (bc (runB b)) ∧ Fr S0 A A' := by
  refine run_fn2 rfl Try.func57 (by unfold Try.f57; rfl) Try.ntmps57 (by unfold Try.f57; rfl) (by simp) ?_
  have hlen := fun B => h.len (P := Try.prog) Try.underlying38 B
  have h16 : evShift .shr .i64 (b.length : Int) 16 = some (.int .i64 ((b.length / 65536 : Nat) : Int)) := shr_nat b.length 16 (by decide)
  have h8 : evShift .shr .i64 (b.length : Int) 8 = some (.int .i64 ((b.length / 256 : Nat) : Int)) := shr_nat b.length 8 (by decide)
  simp only [RS, xs_some, Option.bind_some, Option.map_some, if_true, if_false, decide_true, decide_false, true_and, and_true, Bool.not_true, Bool.not_false, Bool.false_eq_true, not_false_eq_true, not_true_eq_false, Nat.reduceLT, Nat.reduceBEq, Nat.reduceEqDiff, Nat.reduceAdd, Int.reduceEq, Int.reduceLT, Int.reduceLE, Int.reduceGT, Int.reduceGE, beq_self_eq_true, List.getElem?_toArray, List.getElem?_cons_zero, List.getElem?_cons_succ, List.append_nil, List.nil_append, List.cons_append, List.append_eq, hlen, h16, h8, cnv8, u8wrap, bsl3]
  have o1 := Own.new (N := A.blk.length) (n := 3) (sz := 1) (cs := [.int .u8 ((UInt8.ofNat (b.length / 65536)).toNat : Int), .int .u8 ((UInt8.ofNat (b.length / 256)).toNat : Int), .int .u8 ((UInt8.ofNat b.length).toNat : Int)]) hw (Nat.le_refl _) rfl rfl
  have q1 := Fr.pushArr A [.int .u8 ((UInt8.ofNat (b.length / 65536)).toNat : Int), .int .u8 ((UInt8.ofNat (b.length / 256)).toNat : Int), .int .u8 ((UInt8.ofNat b.length).toNat : Int)]
  generalize A.push ⟨[.int .u8 ((UInt8.ofNat (b.length / 65536)).toNat : Int), .int .u8 ((UInt8.ofNat (b.length / 256)).toNat : Int), .int .u8 ((UInt8.ofNat b.length).toNat : Int)], .arr A.blk.length 0⟩ = B1 at *
  obtain ⟨v', B2, p1, p2, p3⟩ := o1.app sl38 (q1.wf hw) q1.len (src_bytes Try.underlying38 h (hm.fr0 q1)) (by simp) (bc_one b) (by omega) (by omega)
  simp only [RS, xs_some, Option.bind_some, Option.map_some, if_true, if_false, decide_true, decide_false, true_and, and_true, Bool.not_true, Bool.not_false, Bool.false_eq_true, not_false_eq_true, not_true_eq_false, Nat.reduceLT, Nat.reduceBEq, Nat.reduceEqDiff, Nat.reduceAdd, Int.reduceEq, Int.reduceLT, Int.reduceLE, Int.reduceGT, Int.reduceGE, beq_self_eq_true, List.getElem?_toArray, List.getElem?_cons_zero, List.getElem?_cons_succ, List.append_nil, List.nil_append, List.cons_append, List.append_eq, p1]
  exact ⟨p2.cast (by rw [runB_len]; omega) rfl, q1.fams p3⟩
set_option maxRecDepth 10000 in
set_option maxHeartbeats 8000000 in
theorem refRun_spec {A : AS} {b : Bts} (hb : b.length ≤ 1000000000000) :
    ∃ w A', EvF Try.prog HH 60 [.str b] A w A' ∧ w = .str (runB b) ∧ Fr S0 A A' := by
  refine run_fn2 rfl Try.func60 (by unfold Try.f60; rfl) Try.ntmps60 (by unfold Try.f60; rfl) (by simp) ?_
  have h1 : evBin Try.prog .quo 3 (.int .i64 (b.length : Int)) (.int .i64 65536) = some (.int .i64 ((b.length / 65536 : Nat) : Int)) := quo_lit _ 65536 (by decide) (by omega)
  have h2 : evBin Try.prog .quo 3 (.int .i64 (b.length : Int)) (.int .i64 256) = some (.int .i64 ((b.length / 256 : Nat) : Int)) := quo_lit _ 256 (by decide) (by omega)
  have h3 : evBin Try.prog .rem 3 (.int .i64 ((b.length / 256 : Nat) : Int)) (.int .i64 256) = some (.int .i64 ((b.length / 256 % 256 : Nat) : Int)) := rem_lit _ 256 (by decide)
  have h4 : evBin Try.prog .rem 3 (.int .i64 (b.length : Int)) (.int .i64 256) = some (.int .i64 ((b.length % 256 : Nat) : Int)) := rem_lit _ 256 (by decide)
  have hcv : cnv Try.prog 38 9 (some (.sl A.blk.length 0 3 1)) (A.push ⟨[.int .u8 ((UInt8.ofNat (b.length / 65536)).toNat : Int), .int .u8 ((UInt8.ofNat (b.length / 256)).toNat : Int), .int .u8 ((UInt8.ofNat b.length).toNat : Int)], .arr A.blk.length 0⟩) = some (.val (.str [UInt8.ofNat (b.length / 65536), UInt8.ofNat (b.length / 256), UInt8.ofNat b.length])) :=
    cnv_row (l := [UInt8.ofNat (b.length / 65536), UInt8.ofNat (b.length / 256), UInt8.ofNat b.length]) (by decide) Try.underlying38 Try.underlying5 Try.underlying9 (push_row A _)
  have hadd : evBin Try.prog .add 9 (.str [UInt8.ofNat (b.length / 65536), UInt8.ofNat (b.length / 256), UInt8.ofNat b.length]) (.str b) = some (.str ([UInt8.ofNat (b.length / 65536), UInt8.ofNat (b.length / 256), UInt8.ofNat b.length] ++ b)) := str_add (by simp; omega)
  simp only [RS, xs_some, Option.bind_some, Option.map_some, if_true, if_false, decide_true, decide_false, true_and, and_true, Bool.not_true, Bool.not_false, Bool.false_eq_true, not_false_eq_true, not_true_eq_false, Nat.reduceLT, Nat.reduceBEq, Nat.reduceEqDiff, Nat.reduceAdd, Int.reduceEq, Int.reduceLT, Int.reduceLE, Int.reduceGT, Int.reduceGE, beq_self_eq_true, List.getElem?_toArray, List.getElem?_cons_zero, List.getElem?_cons_succ, List.append_nil, List.nil_append, List.cons_append, List.append_eq, evLen_str Try.underlying9, h1, h2, h3, h4, cnv8, u8wrap, u8mod, bsl3, hcv, hadd]
  exact ⟨rfl, Fr.pushArr A _⟩
set_option maxRecDepth 10000 in
set_option maxHeartbeats 8000000 in
theorem refText_spec {A : AS} {b : Bts} (hb : b.length = 32) :
    ∃ w A', EvF Try.prog HH 82 [.agg (bc b)] A w A' ∧ w = .str b ∧ Fr S0 A A' := by
  refine run_fn2 rfl Try.func82 (by unfold Try.f82; rfl) Try.ntmps82 (by unfold Try.f82; rfl) (by simp) ?_
  simp only [RS, xs_some, Option.bind_some, Option.map_some, if_true, if_false, decide_true, decide_false, true_and, and_true, Bool.not_true, Bool.not_false, Bool.false_eq_true, not_false_eq_true, not_true_eq_false, Nat.reduceLT, Nat.reduceBEq, Nat.reduceEqDiff, Nat.reduceAdd, Int.reduceEq, Int.reduceLT, Int.reduceLE, Int.reduceGT, Int.reduceGE, beq_self_eq_true, List.getElem?_toArray, List.getElem?_cons_zero, List.getElem?_cons_succ, List.append_nil, List.nil_append, List.cons_append, List.append_eq]
  obtain ⟨A1, e1, f1, r1, n1⟩ := new_var A (bc b)
  rw [← e1]
  refine run_loop (fun k e B => Fr S0 A B ∧ B.blk[A.blk.length]? = some ⟨bc b, .var⟩ ∧ ∃ i : Nat, k = 32 - i ∧ i ≤ 32 ∧ e.get 4 = .int .i64 i ∧ e.get 3 = .str (b.take i) ∧ e.get 1 = .ptr A.blk.length 0)
    ⟨_, f1, r1, 0, rfl, by simp, rfl, by simp [Env.get], rfl⟩ ?_
  rintro k e B ⟨hf, hr, i, rfl, hi, h4, h3, h1⟩
  simp only [RS, xs_some, Option.bind_some, Option.map_some, if_true, if_false, decide_true, decide_false, true_and, and_true, Bool.not_true, Bool.not_false, Bool.false_eq_true, not_false_eq_true, not_true_eq_false, Nat.reduceLT, Nat.reduceBEq, Nat.reduceEqDiff, Nat.reduceAdd, Int.reduceEq, Int.reduceLT, Int.reduceLE, Int.reduceGT, Int.reduceGE, beq_self_eq_true, List.getElem?_toArray, List.getElem?_cons_zero, List.getElem?_cons_succ, List.append_nil, List.nil_append, List.cons_append, List.append_eq, h4]
  refine condK_of (fun g => ?_) (fun g => ?_)
  · obtain ⟨x, hx⟩ := get_lt (l := b) (i := i) (by omega)
    have had : evIndexAddr Try.prog 37 (.ptr A.blk.length 0) (.int .i64 (i : Int)) = some (.ptr A.blk.length i) := by
      have := arr_addr (P := Try.prog) (t := 37) (b := A.blk.length) (o := 0) (k := .i64) (i := i) Try.underlying37 sz5 (by omega)
      simpa using this
    have hld : evLoad Try.prog 5 (.ptr A.blk.length i) B = some (.int .u8 x.toNat) := by rw [load_at ag5 hr, bc_get, hx]; rfl
    have hcv : cnv Try.prog 38 9 (some (.sl B.blk.length 0 1 1)) (B.push ⟨[.int .u8 (x.toNat : Int)], .arr B.blk.length 0⟩) = some (.val (.str [x])) := cnv_row (l := [x]) (by decide) Try.underlying38 Try.underlying5 Try.underlying9 (push_row B _)
    have hadd : evBin Try.prog .add 9 (.str (b.take i)) (.str [x]) = some (.str (b.take i ++ [x])) := str_add (by simp; omega)
    simp only [RS, xs_some, Option.bind_some, Option.map_some, if_true, if_false, decide_true, decide_false, true_and, and_true, Bool.not_true, Bool.not_false, Bool.false_eq_true, not_false_eq_true, not_true_eq_false, Nat.reduceLT, Nat.reduceBEq, Nat.reduceEqDiff, Nat.reduceAdd, Int.reduceEq, Int.reduceLT, Int.reduceLE, Int.reduceGT, Int.reduceGE, beq_self_eq_true, List.getElem?_toArray, List.getElem?_cons_zero, List.getElem?_cons_succ, List.append_nil, List.nil_append, List.cons_append, List.append_eq, h4, h3, h1, had, hld, bsl1, hcv, hadd]
    have q := Fr.pushArr B [.int .u8 (x.toNat : Int)]
    refine ⟨32 - (i + 1), by omega, hf.then0 q, q.row0 hr, i + 1, rfl, by omega, by rw [wrapS (by omega)], ?_⟩
    rw [List.take_add_one, hx]; rfl
  · have : i = 32 := by omega
    subst this
    simp only [RS, xs_some, Option.bind_some, Option.map_some, if_true, if_false, decide_true, decide_false, true_and, and_true, Bool.not_true, Bool.not_false, Bool.false_eq_true, not_false_eq_true, not_true_eq_false, Nat.reduceLT, Nat.reduceBEq, Nat.reduceEqDiff, Nat.reduceAdd, Int.reduceEq, Int.reduceLT, Int.reduceLE, Int.reduceGT, Int.reduceGE, beq_self_eq_true, List.getElem?_toArray, List.getElem?_cons_zero, List.getElem?_cons_succ, List.append_nil, List.nil_append, List.cons_append, List.append_eq, h3]
    exact ⟨by rw [List.take_of_length_le (by omega)], hf⟩
end Go.Sv.Try
namespace Go.Sv.Try
open Go Go.Proofs
set_option linter.unusedVariables false
set_option linter.unusedSimpArgs false
def argF (B : AS) (args : List V) (f : Nat × Bts) : Prop := ∃ (dv : V) (m : Hp), args = [.agg [.int .u8 (UInt8.ofNat f.1).toNat, dv]] ∧ m.on B ∧ Slc eU8 m dv f.2 ∧ f.2.length ≤ 1000000
theorem bldF_nil (a : Int) : evBuild Try.prog 125 [(0, .int .u8 a), (1, .snil)] = some (.agg [.int .u8 a, .snil]) := by kernel_rfl
theorem bldF_sl (a : Int) (b o n z : Nat) : evBuild Try.prog 125 [(0, .int .u8 a), (1, .sl b o n z)] = some (.agg [.int .u8 a, .sl b o n z]) := by kernel_rfl
theorem bldF (a : Int) {v : V} (h : v = .snil ∨ ∃ b o n z, v = .sl b o n z) : evBuild Try.prog 125 [(0, .int .u8 a), (1, v)] = some (.agg [.int .u8 a, v]) := by
  rcases h with rfl | ⟨b, o, n, z, rfl⟩
  · exact bldF_nil a
  · exact bldF_sl a b o n z
theorem bldZ : evBuild Try.prog 37 [] = some (.agg (bc zero32)) := by kernel_rfl
theorem eqI {l r : Bts} (hl : l.length = 32) (hr : r.length = 32) : evEq Try.prog 37 (.agg (bc l)) (.agg (bc r)) = some (decide (l = r)) :=
  eq_bytes (n := 32) (by kernel_rfl) ag37 (by kernel_rfl) hl hr
theorem zcI : (zeroT Try.prog 37).bind V.cells = some (bc zero32) := by kernel_rfl
theorem P9_size {x : M} (h : OkM x) (hid : x.id.length = 32) (hids : ∀ b ∈ x.ids, b.length = 32) : ∀ b ∈ P9 x, b.length ≤ 200000 := by
  have hs := h.size
  have hd : ∀ n ∈ x.nums, (digits n.toNat).length ≤ 6 := fun n hn => digits_len _ 6 (by have := h.nums n hn; omega)
  simp only [M.nums, List.mem_cons, List.mem_nil_iff, or_false, forall_eq_or_imp, forall_eq] at hd
  obtain ⟨d1, d2, d3, d4, d5⟩ := hd
  have hf := flatten_len x.ids hids
  have hl := flatMap_runB_len x.list
  have h1 := h.ids; have h2 := h.list
  intro b hb
  simp only [P9, List.mem_cons, List.mem_nil_iff, or_false] at hb
  rcases hb with rfl | rfl | rfl | rfl | rfl | rfl | rfl | rfl | rfl
  · omega
  · omega
  · omega
  · omega
  · omega
  · split
    · simp
    · omega
  · omega
  · omega
  · omega
theorem eId_len {m : Hp} {v : V} {l : List Bts} (h : Slc eId m v l) : ∀ b ∈ l, b.length = 32 := by
  intro b hb
  obtain ⟨i, hi⟩ := List.mem_iff_getElem?.1 hb
  obtain ⟨cs, h1, h2⟩ := h.get hi
  exact h2
def RJ (S : Loc → Prop) (A : AS) (lo bx : Nat) (J D : Nat → AS → Prop) (x : M) (j : Nat) (z : Ex) (e : Env) (B : AS) : Prop :=
  Fr S A B ∧ ((z = .normal ∧ e.get 0 = .yield lo ∧ e.get 1 = .ptr bx 0 ∧ J (optAll 1 ((P9 x).take j)).length B) ∨ (z = .ret ∧ ∃ i, i < (fieldList x).length ∧ D i B))
theorem RJ.ok {S : Loc → Prop} {A : AS} {lo bx : Nat} {J D : Nat → AS → Prop} {x : M} {j : Nat} {e : Env} {B : AS} (h1 : Fr S A B) (h2 : e.get 0 = .yield lo) (h3 : e.get 1 = .ptr bx 0) (h4 : J (optAll 1 ((P9 x).take j)).length B) : RJ S A lo bx J D x j .normal e B := ⟨h1, .inl ⟨rfl, h2, h3, h4⟩⟩
theorem RJ.stop {S : Loc → Prop} {A : AS} {lo bx : Nat} {J D : Nat → AS → Prop} {x : M} {j : Nat} {e : Env} {B : AS} (h1 : Fr S A B) (h2 : ∃ i, i < (fieldList x).length ∧ D i B) : RJ S A lo bx J D x j .ret e B := ⟨h1, .inr ⟨rfl, h2⟩⟩
set_option maxRecDepth 10000 in
set_option maxHeartbeats 16000000 in
theorem fields1_goes {m : Hp} {A : AS} {x : M} {dv iv lv : V} {bx : Nat} {S : Loc → Prop} (hw : WF A) (hm : m.on A) (hS : ∀ b, S (.row b) → m b = none ∧ b ≠ bx) (hb : A.blk[bx]? = some ⟨mc x dv iv lv, .var⟩) (h : MsgIn m x dv iv lv) (hok : OkM x) :
    Goes Try.prog HH 79 [] [.ptr bx 0] A S argF (fieldList x) := by
  intro lo J D hJ hD hstep hJ0
  refine run_fn2 rfl Try.func79 (by unfold Try.f79; rfl) Try.ntmps79 (by unfold Try.f79; rfl) (by simp) ?_
  have hids := eId_len h.ids
  have hsz := P9_size hok h.id hids
  have hnum := hok.nums
  have fa := faM bx
  have hrow : ∀ {B}, Fr S A B → B.blk[bx]? = some ⟨mc x dv iv lv, .var⟩ := fun q => q.row _ _ hb fun w => (hS _ w).2 rfl
  have hmB : ∀ {B}, Fr S A B → m.on B := fun q => hm.fr q fun b w => (hS b w).1
  have ld : ∀ {B}, Fr S A B → _ := fun {B} (q : Fr S A B) => ldM (hrow q) h.id
  have yieldAt : ∀ {j : Nat} {b : Bts} {dv : V} {B : AS} {m' : Hp}, (P9 x)[j]? = some b → b ≠ [] → J (optAll 1 ((P9 x).take j)).length B → Fr S A B → m'.on B → Slc eU8 m' dv b →
      ∃ bb B', EvY Try.prog HH lo [.agg [.int .u8 (UInt8.ofNat (1 + j)).toNat, dv]] B (.bool bb) B' ∧ Fr S A B' ∧ (bb = true → J (optAll 1 ((P9 x).take (j + 1))).length B') ∧ (bb = false → ∃ i, i < (fieldList x).length ∧ D i B') := by
    intro j b dv B m' h1 h2 h3 h4 h5 h6
    have hat := opt_at h1 h2 1
    obtain ⟨bb, B', k1, k2, k3, k4⟩ := hstep _ _ B _ hat h3 h4 ⟨dv, m', rfl, h5, h6, by have := hsz b (List.mem_of_getElem? h1); show b.length ≤ _; omega⟩
    refine ⟨bb, B', k1, h4.thn k2, fun q => ?_, fun q => ⟨_, (List.getElem?_eq_some_iff.1 hat).1, k4 q⟩⟩
    rw [opt_succ h1, opt1, if_neg h2, List.length_append]
    exact k3 q
  have skipAt : ∀ {j : Nat} {b : Bts} {B : AS}, (P9 x)[j]? = some b → b = [] → J (optAll 1 ((P9 x).take j)).length B → J (optAll 1 ((P9 x).take (j + 1))).length B := by
    intro j b B h1 h2 h3
    rw [opt_succ h1, opt1, if_pos h2, List.append_nil]; exact h3
  have num9 : ∀ {j : Nat} {n : Int}, x.nums[j]? = some n → (P9 x)[j]? = some (digits n.toNat) := by
    intro j n hn
    match j, hn with
    | 0, hn => cases hn; rfl
    | 1, hn => cases hn; rfl
    | 2, hn => cases hn; rfl
    | 3, hn => cases hn; rfl
    | 4, hn => cases hn; rfl
  have stop : ∀ {B : AS} {e : Env}, Fr S A B → (∃ i, i < (fieldList x).length ∧ D i B) → Fr S A B ∧ (J (fieldList x).length B ∨ ∃ i, i < (fieldList x).length ∧ D i B) := fun q z => ⟨q, .inr z⟩
  simp only [RS, xs_some, Option.bind_some, Option.map_some, if_true, if_false, decide_true, decide_false, true_and, and_true, Bool.not_true, Bool.not_false, Bool.false_eq_true, not_false_eq_true, not_true_eq_false, Nat.reduceLT, Nat.reduceBEq, Nat.reduceEqDiff, Nat.reduceAdd, Int.reduceEq, Int.reduceLT, Int.reduceLE, Int.reduceGT, Int.reduceGE, beq_self_eq_true, List.getElem?_toArray, List.getElem?_cons_zero, List.getElem?_cons_succ, List.append_nil, List.nil_append, List.cons_append, List.append_eq, ld (.refl S A), fa, bld5]
  refine run_loop_j (fun n e B => Fr S A B ∧ e.get 0 = .yield lo ∧ e.get 1 = .ptr bx 0 ∧ ∃ i : Nat, n = 5 - i ∧ i ≤ 5 ∧ e.get 22 = .int .i64 i ∧ e.get 21 = .agg (x.nums.map (.int .i64 ·)) ∧ J (optAll 1 ((P9 x).take i)).length B)
    (fun z e B => Fr S A B ∧ ((Is z (.exit 0) ∧ e.get 0 = .yield lo ∧ e.get 1 = .ptr bx 0 ∧ J (optAll 1 ((P9 x).take 5)).length B) ∨ (Is z .ret ∧ ∃ i, i < (fieldList x).length ∧ D i B)))
    ⟨_, .refl S A, rfl, rfl, 0, rfl, by simp, rfl, rfl, by simpa [optAll] using hJ0⟩ ?_ ?_
  · rintro n e B ⟨hf, h0, h1, i, rfl, hi, h22, h21, hj⟩
    simp only [RS, xs_some, Option.bind_some, Option.map_some, if_true, if_false, decide_true, decide_false, true_and, and_true, Bool.not_true, Bool.not_false, Bool.false_eq_true, not_false_eq_true, not_true_eq_false, Nat.reduceLT, Nat.reduceBEq, Nat.reduceEqDiff, Nat.reduceAdd, Int.reduceEq, Int.reduceLT, Int.reduceLE, Int.reduceGT, Int.reduceGE, beq_self_eq_true, List.getElem?_toArray, List.getElem?_cons_zero, List.getElem?_cons_succ, List.append_nil, List.nil_append, List.cons_append, List.append_eq, h22]
    refine condK_of (fun g1 => ?_) (fun g1 => ?_)
    · obtain ⟨n, hn⟩ := get_lt (l := x.nums) (i := i) (by simp only [M.nums, List.length_cons, List.length_nil]; omega)
      have hat := arr_at (P := Try.prog) (t := 162) (k := .i64) (cs := x.nums.map (.int .i64 ·)) (i := i) Try.underlying162 sz3 ag3 (by omega)
      rw [List.getElem?_map, hn, Option.map_some] at hat
      have hnr := hnum n (List.mem_of_getElem? hn)
      obtain ⟨n, rfl⟩ := Int.eq_ofNat_of_zero_le hnr.1
      have h9 := num9 hn
      rw [Int.toNat_natCast] at h9
      simp only [RS, xs_some, Option.bind_some, Option.map_some, if_true, if_false, decide_true, decide_false, true_and, and_true, Bool.not_true, Bool.not_false, Bool.false_eq_true, not_false_eq_true, not_true_eq_false, Nat.reduceLT, Nat.reduceBEq, Nat.reduceEqDiff, Nat.reduceAdd, Int.reduceEq, Int.reduceLT, Int.reduceLE, Int.reduceGT, Int.reduceGE, beq_self_eq_true, List.getElem?_toArray, List.getElem?_cons_zero, List.getElem?_cons_succ, List.append_nil, List.nil_append, List.cons_append, List.append_eq, h22, h21, hat]
      refine contG_of (fun g2 => ?_) (fun g2 => ?_)
      · simp only [RS, xs_some, Option.bind_some, Option.map_some, if_true, if_false, decide_true, decide_false, true_and, and_true, Bool.not_true, Bool.not_false, Bool.false_eq_true, not_false_eq_true, not_true_eq_false, Nat.reduceLT, Nat.reduceBEq, Nat.reduceEqDiff, Nat.reduceAdd, Int.reduceEq, Int.reduceLT, Int.reduceLE, Int.reduceGT, Int.reduceGE, beq_self_eq_true, List.getElem?_toArray, List.getElem?_cons_zero, List.getElem?_cons_succ, List.append_nil, List.nil_append, List.cons_append, List.append_eq, g2, h0]
        have hp : IntKind.i64.wrap (1 + (i : Int)) = ((1 + i : Nat) : Int) := by rw [wrap_id (by omega) (by omega)]; omega
        rw [hp]
        simp only [RS, xs_some, Option.bind_some, Option.map_some, if_true, if_false, decide_true, decide_false, true_and, and_true, Bool.not_true, Bool.not_false, Bool.false_eq_true, not_false_eq_true, not_true_eq_false, Nat.reduceLT, Nat.reduceBEq, Nat.reduceEqDiff, Nat.reduceAdd, Int.reduceEq, Int.reduceLT, Int.reduceLE, Int.reduceGT, Int.reduceGE, beq_self_eq_true, List.getElem?_toArray, List.getElem?_cons_zero, List.getElem?_cons_succ, List.append_nil, List.nil_append, List.cons_append, List.append_eq, g2, cnv8, u8wrap]
        obtain ⟨w, B1, k1, k2, k3⟩ := number_spec (A := B) (n := n) (hf.wf hw) (by omega)
        refine run_call1 k1 ?_
        obtain ⟨m', q1, q2, q3⟩ := k2.bts
        simp only [RS, xs_some, Option.bind_some, Option.map_some, if_true, if_false, decide_true, decide_false, true_and, and_true, Bool.not_true, Bool.not_false, Bool.false_eq_true, not_false_eq_true, not_true_eq_false, Nat.reduceLT, Nat.reduceBEq, Nat.reduceEqDiff, Nat.reduceAdd, Int.reduceEq, Int.reduceLT, Int.reduceLE, Int.reduceGT, Int.reduceGE, beq_self_eq_true, List.getElem?_toArray, List.getElem?_cons_zero, List.getElem?_cons_succ, List.append_nil, List.nil_append, List.cons_append, List.append_eq, g2, bldF _ k2.form, h0]
        obtain ⟨bb, B2, y1, y2, y3, y4⟩ := yieldAt h9 (fun q => by rw [digits_nil] at q; omega) (hJ _ _ _ hj k3) (hf.then0 k3) q1 q3
        refine ⟨_, B2, y1, ?_⟩
        simp only [RS, xs_some, Option.bind_some, Option.map_some, if_true, if_false, decide_true, decide_false, true_and, and_true, Bool.not_true, Bool.not_false, Bool.false_eq_true, not_false_eq_true, not_true_eq_false, Nat.reduceLT, Nat.reduceBEq, Nat.reduceEqDiff, Nat.reduceAdd, Int.reduceEq, Int.reduceLT, Int.reduceLE, Int.reduceGT, Int.reduceGE, beq_self_eq_true, List.getElem?_toArray, List.getElem?_cons_zero, List.getElem?_cons_succ, List.append_nil, List.nil_append, List.cons_append, List.append_eq, g2]
        cases bb with
        | true =>
          simp only [RS, xs_some, Option.bind_some, Option.map_some, if_true, if_false, decide_true, decide_false, true_and, and_true, Bool.not_true, Bool.not_false, Bool.false_eq_true, not_false_eq_true, not_true_eq_false, Nat.reduceLT, Nat.reduceBEq, Nat.reduceEqDiff, Nat.reduceAdd, Int.reduceEq, Int.reduceLT, Int.reduceLE, Int.reduceGT, Int.reduceGE, beq_self_eq_true, List.getElem?_toArray, List.getElem?_cons_zero, List.getElem?_cons_succ, List.append_nil, List.nil_append, List.cons_append, List.append_eq, g2, h22]
          exact ⟨5 - (i + 1), by omega, y2, h0, h1, i + 1, rfl, by omega, by rw [wrapS (by omega)], h21, y3 rfl⟩
        | false =>
          simp only [RS, xs_some, Option.bind_some, Option.map_some, if_true, if_false, decide_true, decide_false, true_and, and_true, Bool.not_true, Bool.not_false, Bool.false_eq_true, not_false_eq_true, not_true_eq_false, Nat.reduceLT, Nat.reduceBEq, Nat.reduceEqDiff, Nat.reduceAdd, Int.reduceEq, Int.reduceLT, Int.reduceLE, Int.reduceGT, Int.reduceGE, beq_self_eq_true, List.getElem?_toArray, List.getElem?_cons_zero, List.getElem?_cons_succ, List.append_nil, List.nil_append, List.cons_append, List.append_eq, g2]
          exact ⟨y2, .inr ⟨rfl, y4 rfl⟩⟩
      · have hz : n = 0 := by omega
        subst hz
        simp only [RS, xs_some, Option.bind_some, Option.map_some, if_true, if_false, decide_true, decide_false, true_and, and_true, Bool.not_true, Bool.not_false, Bool.false_eq_true, not_false_eq_true, not_true_eq_false, Nat.reduceLT, Nat.reduceBEq, Nat.reduceEqDiff, Nat.reduceAdd, Int.reduceEq, Int.reduceLT, Int.reduceLE, Int.reduceGT, Int.reduceGE, beq_self_eq_true, List.getElem?_toArray, List.getElem?_cons_zero, List.getElem?_cons_succ, List.append_nil, List.nil_append, List.cons_append, List.append_eq, g2, h22]
        exact ⟨5 - (i + 1), by omega, hf, h0, h1, i + 1, rfl, by omega, by rw [wrapS (by omega)], h21, skipAt h9 digits_zero hj⟩
    · have : i = 5 := by omega
      subst this
      simp only [RS, xs_some, Option.bind_some, Option.map_some, if_true, if_false, decide_true, decide_false, true_and, and_true, Bool.not_true, Bool.not_false, Bool.false_eq_true, not_false_eq_true, not_true_eq_false, Nat.reduceLT, Nat.reduceBEq, Nat.reduceEqDiff, Nat.reduceAdd, Int.reduceEq, Int.reduceLT, Int.reduceLE, Int.reduceGT, Int.reduceGE, beq_self_eq_true, List.getElem?_toArray, List.getElem?_cons_zero, List.getElem?_cons_succ, List.append_nil, List.nil_append, List.cons_append, List.append_eq]
      exact ⟨hf, .inl ⟨rfl, h0, h1, hj⟩⟩
  rintro z e B hz ⟨hf, ⟨rfl, h0, h1, hj⟩ | ⟨rfl, hd⟩⟩
  rotate_left
  · simp only [RS, xs_some, Option.bind_some, Option.map_some, if_true, if_false, decide_true, decide_false, true_and, and_true, Bool.not_true, Bool.not_false, Bool.false_eq_true, not_false_eq_true, not_true_eq_false, Nat.reduceLT, Nat.reduceBEq, Nat.reduceEqDiff, Nat.reduceAdd, Int.reduceEq, Int.reduceLT, Int.reduceLE, Int.reduceGT, Int.reduceGE, beq_self_eq_true, List.getElem?_toArray, List.getElem?_cons_zero, List.getElem?_cons_succ, List.append_nil, List.nil_append, List.cons_append, List.append_eq]
    exact ⟨hf, .inr hd⟩
  rw [run_blk_exit, if_pos rfl]
  rw [run_seq]
  refine run_cut (RJ S A lo bx J D x 6) ?_ ?_
  · have hz32 : zero32.length = 32 := rfl
    simp only [RS, xs_some, Option.bind_some, Option.map_some, if_true, if_false, decide_true, decide_false, true_and, and_true, Bool.not_true, Bool.not_false, Bool.false_eq_true, not_false_eq_true, not_true_eq_false, Nat.reduceLT, Nat.reduceBEq, Nat.reduceEqDiff, Nat.reduceAdd, Int.reduceEq, Int.reduceLT, Int.reduceLE, Int.reduceGT, Int.reduceGE, beq_self_eq_true, List.getElem?_toArray, List.getElem?_cons_zero, List.getElem?_cons_succ, List.append_nil, List.nil_append, List.cons_append, List.append_eq, h1, fa, ld hf, bldZ, eqI h.id hz32]
    by_cases hi : x.id = zero32
    · simp only [RS, xs_some, Option.bind_some, Option.map_some, if_true, if_false, decide_true, decide_false, true_and, and_true, Bool.not_true, Bool.not_false, Bool.false_eq_true, not_false_eq_true, not_true_eq_false, Nat.reduceLT, Nat.reduceBEq, Nat.reduceEqDiff, Nat.reduceAdd, Int.reduceEq, Int.reduceLT, Int.reduceLE, Int.reduceGT, Int.reduceGE, beq_self_eq_true, List.getElem?_toArray, List.getElem?_cons_zero, List.getElem?_cons_succ, List.append_nil, List.nil_append, List.cons_append, List.append_eq, hi, h0]
      exact RJ.ok hf h0 h1 (skipAt (j := 5) (b := []) (by simp [P9, hi]) rfl hj)
    · have h9 : (P9 x)[5]? = some x.id := by simp [P9, hi]
      have hsl := arr_slice (P := Try.prog) (t := 37) (b := bx) (o := 6) (z := 0) Try.underlying37 sz5 (hrow hf) (by rw [mc_len h.id]; decide)
      obtain ⟨q1, q2⟩ := slc_row (b := bx) (o := 6) (l := x.id) (hrow hf) (by rw [mc_len h.id, h.id]; decide) (by
        rw [h.id]
        show (bc x.id ++ [dv, iv, lv]).take 32 = _
        rw [List.take_left' (by rw [bc_len, h.id])])
      rw [h.id] at q2
      simp only [RS, xs_some, Option.bind_some, Option.map_some, if_true, if_false, decide_true, decide_false, true_and, and_true, Bool.not_true, Bool.not_false, Bool.false_eq_true, not_false_eq_true, not_true_eq_false, Nat.reduceLT, Nat.reduceBEq, Nat.reduceEqDiff, Nat.reduceAdd, Int.reduceEq, Int.reduceLT, Int.reduceLE, Int.reduceGT, Int.reduceGE, beq_self_eq_true, List.getElem?_toArray, List.getElem?_cons_zero, List.getElem?_cons_succ, List.append_nil, List.nil_append, List.cons_append, List.append_eq, hi, h0, h1, fa, hsl, bldF_sl]
      obtain ⟨bb, B2, y1, y2, y3, y4⟩ := yieldAt h9 (fun q => by have := h.id; rw [q] at this; simp at this) hj hf q1 q2
      refine ⟨_, B2, y1, ?_⟩
      simp only [RS, xs_some, Option.bind_some, Option.map_some, if_true, if_false, decide_true, decide_false, true_and, and_true, Bool.not_true, Bool.not_false, Bool.false_eq_true, not_false_eq_true, not_true_eq_false, Nat.reduceLT, Nat.reduceBEq, Nat.reduceEqDiff, Nat.reduceAdd, Int.reduceEq, Int.reduceLT, Int.reduceLE, Int.reduceGT, Int.reduceGE, beq_self_eq_true, List.getElem?_toArray, List.getElem?_cons_zero, List.getElem?_cons_succ, List.append_nil, List.nil_append, List.cons_append, List.append_eq, hi]
      cases bb with
      | true =>
        simp only [RS, xs_some, Option.bind_some, Option.map_some, if_true, if_false, decide_true, decide_false, true_and, and_true, Bool.not_true, Bool.not_false, Bool.false_eq_true, not_false_eq_true, not_true_eq_false, Nat.reduceLT, Nat.reduceBEq, Nat.reduceEqDiff, Nat.reduceAdd, Int.reduceEq, Int.reduceLT, Int.reduceLE, Int.reduceGT, Int.reduceGE, beq_self_eq_true, List.getElem?_toArray, List.getElem?_cons_zero, List.getElem?_cons_succ, List.append_nil, List.nil_append, List.cons_append, List.append_eq, hi]
        exact RJ.ok y2 h0 h1 (y3 rfl)
      | false =>
        simp only [RS, xs_some, Option.bind_some, Option.map_some, if_true, if_false, decide_true, decide_false, true_and, and_true, Bool.not_true, Bool.not_false, Bool.false_eq_true, not_false_eq_true, not_true_eq_false, Nat.reduceLT, Nat.reduceBEq, Nat.reduceEqDiff, Nat.reduceAdd, Int.reduceEq, Int.reduceLT, Int.reduceLE, Int.reduceGT, Int.reduceGE, beq_self_eq_true, List.getElem?_toArray, List.getElem?_cons_zero, List.getElem?_cons_succ, List.append_nil, List.nil_append, List.cons_append, List.append_eq, hi]
        exact RJ.stop y2 (y4 rfl)
  rintro z e B ⟨hf, ⟨rfl, h0, h1, hj⟩ | ⟨rfl, hd⟩⟩
  rotate_left
  · simp only [RS, xs_some, Option.bind_some, Option.map_some, if_true, if_false, decide_true, decide_false, true_and, and_true, Bool.not_true, Bool.not_false, Bool.false_eq_true, not_false_eq_true, not_true_eq_false, Nat.reduceLT, Nat.reduceBEq, Nat.reduceEqDiff, Nat.reduceAdd, Int.reduceEq, Int.reduceLT, Int.reduceLE, Int.reduceGT, Int.reduceGE, beq_self_eq_true, List.getElem?_toArray, List.getElem?_cons_zero, List.getElem?_cons_succ, List.append_nil, List.nil_append, List.cons_append, List.append_eq]
    exact ⟨hf, .inr hd⟩
  rw [run_seq]
  refine run_cut (RJ S A lo bx J D x 7) ?_ ?_
  · have dlen := fun B => h.data.len (P := Try.prog) Try.underlying38 B
    simp only [RS, xs_some, Option.bind_some, Option.map_some, if_true, if_false, decide_true, decide_false, true_and, and_true, Bool.not_true, Bool.not_false, Bool.false_eq_true, not_false_eq_true, not_true_eq_false, Nat.reduceLT, Nat.reduceBEq, Nat.reduceEqDiff, Nat.reduceAdd, Int.reduceEq, Int.reduceLT, Int.reduceLE, Int.reduceGT, Int.reduceGE, beq_self_eq_true, List.getElem?_toArray, List.getElem?_cons_zero, List.getElem?_cons_succ, List.append_nil, List.nil_append, List.cons_append, List.append_eq, h1, fa, ld hf, dlen]
    have h9 : (P9 x)[6]? = some x.data := rfl
    refine contG_of (fun g => ?_) (fun g => ?_)
    · simp only [RS, xs_some, Option.bind_some, Option.map_some, if_true, if_false, decide_true, decide_false, true_and, and_true, Bool.not_true, Bool.not_false, Bool.false_eq_true, not_false_eq_true, not_true_eq_false, Nat.reduceLT, Nat.reduceBEq, Nat.reduceEqDiff, Nat.reduceAdd, Int.reduceEq, Int.reduceLT, Int.reduceLE, Int.reduceGT, Int.reduceGE, beq_self_eq_true, List.getElem?_toArray, List.getElem?_cons_zero, List.getElem?_cons_succ, List.append_nil, List.nil_append, List.cons_append, List.append_eq, g, h0, h1, fa, ld hf, bldF _ h.data.form]
      obtain ⟨bb, B2, y1, y2, y3, y4⟩ := yieldAt h9 (fun q => by rw [q] at g; simp at g) hj hf (hmB hf) h.data
      refine ⟨_, B2, y1, ?_⟩
      simp only [RS, xs_some, Option.bind_some, Option.map_some, if_true, if_false, decide_true, decide_false, true_and, and_true, Bool.not_true, Bool.not_false, Bool.false_eq_true, not_false_eq_true, not_true_eq_false, Nat.reduceLT, Nat.reduceBEq, Nat.reduceEqDiff, Nat.reduceAdd, Int.reduceEq, Int.reduceLT, Int.reduceLE, Int.reduceGT, Int.reduceGE, beq_self_eq_true, List.getElem?_toArray, List.getElem?_cons_zero, List.getElem?_cons_succ, List.append_nil, List.nil_append, List.cons_append, List.append_eq, g]
      cases bb with
      | true =>
        simp only [RS, xs_some, Option.bind_some, Option.map_some, if_true, if_false, decide_true, decide_false, true_and, and_true, Bool.not_true, Bool.not_false, Bool.false_eq_true, not_false_eq_true, not_true_eq_false, Nat.reduceLT, Nat.reduceBEq, Nat.reduceEqDiff, Nat.reduceAdd, Int.reduceEq, Int.reduceLT, Int.reduceLE, Int.reduceGT, Int.reduceGE, beq_self_eq_true, List.getElem?_toArray, List.getElem?_cons_zero, List.getElem?_cons_succ, List.append_nil, List.nil_append, List.cons_append, List.append_eq, g]
        exact RJ.ok y2 h0 h1 (y3 rfl)
      | false =>
        simp only [RS, xs_some, Option.bind_some, Option.map_some, if_true, if_false, decide_true, decide_false, true_and, and_true, Bool.not_true, Bool.not_false, Bool.false_eq_true, not_false_eq_true, not_true_eq_false, Nat.reduceLT, Nat.reduceBEq, Nat.reduceEqDiff, Nat.reduceAdd, Int.reduceEq, Int.reduceLT, Int.reduceLE, Int.reduceGT, Int.reduceGE, beq_self_eq_true, List.getElem?_toArray, List.getElem?_cons_zero, List.getElem?_cons_succ, List.append_nil, List.nil_append, List.cons_append, List.append_eq, g]
        exact RJ.stop y2 (y4 rfl)
    · simp only [RS, xs_some, Option.bind_some, Option.map_some, if_true, if_false, decide_true, decide_false, true_and, and_true, Bool.not_true, Bool.not_false, Bool.false_eq_true, not_false_eq_true, not_true_eq_false, Nat.reduceLT, Nat.reduceBEq, Nat.reduceEqDiff, Nat.reduceAdd, Int.reduceEq, Int.reduceLT, Int.reduceLE, Int.reduceGT, Int.reduceGE, beq_self_eq_true, List.getElem?_toArray, List.getElem?_cons_zero, List.getElem?_cons_succ, List.append_nil, List.nil_append, List.cons_append, List.append_eq, g, h0]
      exact RJ.ok hf h0 h1 (skipAt h9 (List.eq_nil_of_length_eq_zero (by omega)) hj)
  clear h0 h1 hj hf
  rintro z e B ⟨hf, ⟨rfl, h0, h1, hj⟩ | ⟨rfl, hd⟩⟩
  rotate_left
  · simp only [RS, xs_some, Option.bind_some, Option.map_some, if_true, if_false, decide_true, decide_false, true_and, and_true, Bool.not_true, Bool.not_false, Bool.false_eq_true, not_false_eq_true, not_true_eq_false, Nat.reduceLT, Nat.reduceBEq, Nat.reduceEqDiff, Nat.reduceAdd, Int.reduceEq, Int.reduceLT, Int.reduceLE, Int.reduceGT, Int.reduceGE, beq_self_eq_true, List.getElem?_toArray, List.getElem?_cons_zero, List.getElem?_cons_succ, List.append_nil, List.nil_append, List.cons_append, List.append_eq]
    exact ⟨hf, .inr hd⟩
  have ilen := fun B => h.ids.len (P := Try.prog) Try.underlying39 B
  have llen := fun B => h.list.len (P := Try.prog) Try.underlying33 B
  have hflat : ∀ i, (x.ids.take i).flatten.length ≤ 2048 := fun i => by
    rw [flatten_len _ (fun b hb => hids b (List.mem_of_mem_take hb)), List.length_take]
    have := hok.ids; omega
  simp only [RS, xs_some, Option.bind_some, Option.map_some, if_true, if_false, decide_true, decide_false, true_and, and_true, Bool.not_true, Bool.not_false, Bool.false_eq_true, not_false_eq_true, not_true_eq_false, Nat.reduceLT, Nat.reduceBEq, Nat.reduceEqDiff, Nat.reduceAdd, Int.reduceEq, Int.reduceLT, Int.reduceLE, Int.reduceGT, Int.reduceGE, beq_self_eq_true, List.getElem?_toArray, List.getElem?_cons_zero, List.getElem?_cons_succ, List.append_nil, List.nil_append, List.cons_append, List.append_eq, h1, fa, ld hf, ilen]
  refine run_loop_j (fun n e C => Fr S0 B C ∧ e.get 0 = .yield lo ∧ e.get 1 = .ptr bx 0 ∧ e.get 6 = .snil ∧ ∃ (i : Nat) (ov : V), n = x.ids.length - i ∧ i ≤ x.ids.length ∧ e.get 67 = .int .i64 i ∧ e.get 65 = iv ∧ e.get 66 = .int .i64 x.ids.length ∧ e.get 5 = ov ∧ Own B.blk.length C ov (x.ids.take i).flatten.length 1 (bc (x.ids.take i).flatten))
    (fun z e C => Fr S0 B C ∧ Is z (.exit 2) ∧ e.get 0 = .yield lo ∧ e.get 1 = .ptr bx 0 ∧ e.get 6 = .snil ∧ ∃ ov, e.get 5 = ov ∧ Own B.blk.length C ov x.ids.flatten.length 1 (bc x.ids.flatten))
    ⟨_, .refl _ B, h0, h1, rfl, 0, .snil, rfl, by simp, rfl, rfl, rfl, rfl, by simpa [bc] using Own.nil B.blk.length B 1⟩ ?_ ?_
  · rintro n e C ⟨hc, k0, k1, k6, i, ov, rfl, hi, h67, h65, h66, h5, hown⟩
    simp only [RS, xs_some, Option.bind_some, Option.map_some, if_true, if_false, decide_true, decide_false, true_and, and_true, Bool.not_true, Bool.not_false, Bool.false_eq_true, not_false_eq_true, not_true_eq_false, Nat.reduceLT, Nat.reduceBEq, Nat.reduceEqDiff, Nat.reduceAdd, Int.reduceEq, Int.reduceLT, Int.reduceLE, Int.reduceGT, Int.reduceGE, beq_self_eq_true, List.getElem?_toArray, List.getElem?_cons_zero, List.getElem?_cons_succ, List.append_nil, List.nil_append, List.cons_append, List.append_eq, h67, h66]
    refine condK_of (fun g => ?_) (fun g => ?_)
    · obtain ⟨y, hy⟩ := get_lt (l := x.ids) (i := i) (by omega)
      have hC : Fr S A C := hf.then0 hc
      obtain ⟨b, o, c, q1, q2, q3⟩ := h.ids.at (P := Try.prog) (k := .i64) (hmB hC) Try.underlying39 sz37 ag37 hy
      obtain ⟨rfl, hyl⟩ := eB_W.1 q3
      simp only [RS, xs_some, Option.bind_some, Option.map_some, if_true, if_false, decide_true, decide_false, true_and, and_true, Bool.not_true, Bool.not_false, Bool.false_eq_true, not_false_eq_true, not_true_eq_false, Nat.reduceLT, Nat.reduceBEq, Nat.reduceEqDiff, Nat.reduceAdd, Int.reduceEq, Int.reduceLT, Int.reduceLE, Int.reduceGT, Int.reduceGE, beq_self_eq_true, List.getElem?_toArray, List.getElem?_cons_zero, List.getElem?_cons_succ, List.append_nil, List.nil_append, List.cons_append, List.append_eq, h67, h65, q1, q2, zcI]
      obtain ⟨C1, s1, s2, s3, s4⟩ := new_set (P := Try.prog) C (z := bc zero32) (t := 37) (x := .agg (bc y)) (cs := bc y) rfl (by rw [bc_len, hyl]; exact sz37) (by rw [bc_len, bc_len, hyl]; rfl) (bc_one y)
      have hsl := arr_slice (P := Try.prog) (t := 37) (b := C.blk.length) (o := 0) (z := 0) Try.underlying37 sz5 s3 (by simp only [bc_len, hyl]; decide)
      have hfi := hflat i
      obtain ⟨v', C2, p1, p2, p3⟩ := (hown.fr0 s2).app sl38 (s2.wf (hC.wf hw)) (by have := hc.len; have := s2.len; omega) (src_row (P := Try.prog) (tx := 38) (n := 32) (sz := 1) Try.underlying38 s3 (by rw [bc_len, hyl])) (by rw [bc_len, hyl]) (bc_one y) (by omega) (by omega)
      simp only [RS, xs_some, Option.bind_some, Option.map_some, if_true, if_false, decide_true, decide_false, true_and, and_true, Bool.not_true, Bool.not_false, Bool.false_eq_true, not_false_eq_true, not_true_eq_false, Nat.reduceLT, Nat.reduceBEq, Nat.reduceEqDiff, Nat.reduceAdd, Int.reduceEq, Int.reduceLT, Int.reduceLE, Int.reduceGT, Int.reduceGE, beq_self_eq_true, List.getElem?_toArray, List.getElem?_cons_zero, List.getElem?_cons_succ, List.append_nil, List.nil_append, List.cons_append, List.append_eq, s1, h5, hsl, p1, h67]
      refine ⟨x.ids.length - (i + 1), by omega, (hc.then0 s2).fams p3, k0, k1, k6, i + 1, v', rfl, by omega, by rw [wrapS (by have := hok.ids; omega)], h65, h66, rfl, p2.cast ?_ ?_⟩
      · rw [flat_succ hy, List.length_append, hyl]
      · rw [flat_succ hy, bc_app]
    · simp only [RS, xs_some, Option.bind_some, Option.map_some, if_true, if_false, decide_true, decide_false, true_and, and_true, Bool.not_true, Bool.not_false, Bool.false_eq_true, not_false_eq_true, not_true_eq_false, Nat.reduceLT, Nat.reduceBEq, Nat.reduceEqDiff, Nat.reduceAdd, Int.reduceEq, Int.reduceLT, Int.reduceLE, Int.reduceGT, Int.reduceGE, beq_self_eq_true, List.getElem?_toArray, List.getElem?_cons_zero, List.getElem?_cons_succ, List.append_nil, List.nil_append, List.cons_append, List.append_eq]
      rw [List.take_of_length_le (by omega)] at hown
      exact ⟨hc, rfl, k0, k1, k6, ov, h5, hown⟩
  rintro z e C hz ⟨hc, rfl, k0, k1, k6, ov, h5, hown⟩
  have hC : Fr S A C := hf.then0 hc
  replace hj := hJ _ _ _ hj hc
  clear h0 h1
  rw [run_blk_exit, if_pos rfl, run_seq]
  refine run_cut (fun z e B => RJ S A lo bx J D x 8 z e B ∧ (z = .normal → e.get 6 = .snil)) ?_ ?_
  · have olen := fun B => hown.len (P := Try.prog) Try.underlying38 B
    have h9 : (P9 x)[7]? = some x.ids.flatten := rfl
    simp only [RS, xs_some, Option.bind_some, Option.map_some, if_true, if_false, decide_true, decide_false, true_and, and_true, Bool.not_true, Bool.not_false, Bool.false_eq_true, not_false_eq_true, not_true_eq_false, Nat.reduceLT, Nat.reduceBEq, Nat.reduceEqDiff, Nat.reduceAdd, Int.reduceEq, Int.reduceLT, Int.reduceLE, Int.reduceGT, Int.reduceGE, beq_self_eq_true, List.getElem?_toArray, List.getElem?_cons_zero, List.getElem?_cons_succ, List.append_nil, List.nil_append, List.cons_append, List.append_eq, h5, olen]
    refine contG_of (fun g => ?_) (fun g => ?_)
    · simp only [RS, xs_some, Option.bind_some, Option.map_some, if_true, if_false, decide_true, decide_false, true_and, and_true, Bool.not_true, Bool.not_false, Bool.false_eq_true, not_false_eq_true, not_true_eq_false, Nat.reduceLT, Nat.reduceBEq, Nat.reduceEqDiff, Nat.reduceAdd, Int.reduceEq, Int.reduceLT, Int.reduceLE, Int.reduceGT, Int.reduceGE, beq_self_eq_true, List.getElem?_toArray, List.getElem?_cons_zero, List.getElem?_cons_succ, List.append_nil, List.nil_append, List.cons_append, List.append_eq, g, k0, h5, bldF _ hown.form]
      obtain ⟨m', q1, q2, q3⟩ := hown.bts
      obtain ⟨bb, B2, y1, y2, y3, y4⟩ := yieldAt h9 (fun q => by rw [q] at g; simp at g) hj hC q1 q3
      refine ⟨_, B2, y1, ?_⟩
      simp only [RS, xs_some, Option.bind_some, Option.map_some, if_true, if_false, decide_true, decide_false, true_and, and_true, Bool.not_true, Bool.not_false, Bool.false_eq_true, not_false_eq_true, not_true_eq_false, Nat.reduceLT, Nat.reduceBEq, Nat.reduceEqDiff, Nat.reduceAdd, Int.reduceEq, Int.reduceLT, Int.reduceLE, Int.reduceGT, Int.reduceGE, beq_self_eq_true, List.getElem?_toArray, List.getElem?_cons_zero, List.getElem?_cons_succ, List.append_nil, List.nil_append, List.cons_append, List.append_eq, g]
      cases bb with
      | true =>
        simp only [RS, xs_some, Option.bind_some, Option.map_some, if_true, if_false, decide_true, decide_false, true_and, and_true, Bool.not_true, Bool.not_false, Bool.false_eq_true, not_false_eq_true, not_true_eq_false, Nat.reduceLT, Nat.reduceBEq, Nat.reduceEqDiff, Nat.reduceAdd, Int.reduceEq, Int.reduceLT, Int.reduceLE, Int.reduceGT, Int.reduceGE, beq_self_eq_true, List.getElem?_toArray, List.getElem?_cons_zero, List.getElem?_cons_succ, List.append_nil, List.nil_append, List.cons_append, List.append_eq, g]
        exact ⟨RJ.ok y2 k0 k1 (y3 rfl), fun _ => k6⟩
      | false =>
        simp only [RS, xs_some, Option.bind_some, Option.map_some, if_true, if_false, decide_true, decide_false, true_and, and_true, Bool.not_true, Bool.not_false, Bool.false_eq_true, not_false_eq_true, not_true_eq_false, Nat.reduceLT, Nat.reduceBEq, Nat.reduceEqDiff, Nat.reduceAdd, Int.reduceEq, Int.reduceLT, Int.reduceLE, Int.reduceGT, Int.reduceGE, beq_self_eq_true, List.getElem?_toArray, List.getElem?_cons_zero, List.getElem?_cons_succ, List.append_nil, List.nil_append, List.cons_append, List.append_eq, g]
        exact ⟨RJ.stop y2 (y4 rfl), fun q => by simp at q⟩
    · simp only [RS, xs_some, Option.bind_some, Option.map_some, if_true, if_false, decide_true, decide_false, true_and, and_true, Bool.not_true, Bool.not_false, Bool.false_eq_true, not_false_eq_true, not_true_eq_false, Nat.reduceLT, Nat.reduceBEq, Nat.reduceEqDiff, Nat.reduceAdd, Int.reduceEq, Int.reduceLT, Int.reduceLE, Int.reduceGT, Int.reduceGE, beq_self_eq_true, List.getElem?_toArray, List.getElem?_cons_zero, List.getElem?_cons_succ, List.append_nil, List.nil_append, List.cons_append, List.append_eq, g]
      exact ⟨RJ.ok hC k0 k1 (skipAt h9 (List.eq_nil_of_length_eq_zero (by omega)) hj), fun _ => k6⟩
  clear hown h5 hj k6 k0 k1 hC hc hf
  rintro z e B ⟨⟨hf, ⟨rfl, h0, h1, hj⟩ | ⟨rfl, hd⟩⟩, h6⟩
  rotate_left
  · simp only [RS, xs_some, Option.bind_some, Option.map_some, if_true, if_false, decide_true, decide_false, true_and, and_true, Bool.not_true, Bool.not_false, Bool.false_eq_true, not_false_eq_true, not_true_eq_false, Nat.reduceLT, Nat.reduceBEq, Nat.reduceEqDiff, Nat.reduceAdd, Int.reduceEq, Int.reduceLT, Int.reduceLE, Int.reduceGT, Int.reduceGE, beq_self_eq_true, List.getElem?_toArray, List.getElem?_cons_zero, List.getElem?_cons_succ, List.append_nil, List.nil_append, List.cons_append, List.append_eq]
    exact ⟨hf, .inr hd⟩
  replace h6 := h6 rfl
  have hfl : ∀ i, ((x.list.take i).flatMap runB).length ≤ 131264 := fun i => by
    rw [flatMap_runB_len, List.length_take]
    have := hok.size; have := hok.list; have := lens_take_le x.list i; omega
  simp only [RS, xs_some, Option.bind_some, Option.map_some, if_true, if_false, decide_true, decide_false, true_and, and_true, Bool.not_true, Bool.not_false, Bool.false_eq_true, not_false_eq_true, not_true_eq_false, Nat.reduceLT, Nat.reduceBEq, Nat.reduceEqDiff, Nat.reduceAdd, Int.reduceEq, Int.reduceLT, Int.reduceLE, Int.reduceGT, Int.reduceGE, beq_self_eq_true, List.getElem?_toArray, List.getElem?_cons_zero, List.getElem?_cons_succ, List.append_nil, List.nil_append, List.cons_append, List.append_eq, h1, fa, ld hf, llen]
  refine run_loop_j (fun n e C => Fr S0 B C ∧ e.get 0 = .yield lo ∧ ∃ (i : Nat) (ov : V), n = x.list.length - i ∧ i ≤ x.list.length ∧ e.get 88 = .int .i64 i ∧ e.get 86 = lv ∧ e.get 87 = .int .i64 x.list.length ∧ e.get 6 = ov ∧ Own B.blk.length C ov ((x.list.take i).flatMap runB).length 1 (bc ((x.list.take i).flatMap runB)))
    (fun z e C => Fr S0 B C ∧ Is z (.exit 4) ∧ e.get 0 = .yield lo ∧ ∃ ov, e.get 6 = ov ∧ Own B.blk.length C ov (x.list.flatMap runB).length 1 (bc (x.list.flatMap runB)))
    ⟨_, .refl _ B, h0, 0, .snil, rfl, by simp, rfl, rfl, rfl, h6, by simpa [bc] using Own.nil B.blk.length B 1⟩ ?_ ?_
  · rintro n e C ⟨hc, k0, i, ov, rfl, hi, h88, h86, h87, h6, hown⟩
    simp only [RS, xs_some, Option.bind_some, Option.map_some, if_true, if_false, decide_true, decide_false, true_and, and_true, Bool.not_true, Bool.not_false, Bool.false_eq_true, not_false_eq_true, not_true_eq_false, Nat.reduceLT, Nat.reduceBEq, Nat.reduceEqDiff, Nat.reduceAdd, Int.reduceEq, Int.reduceLT, Int.reduceLE, Int.reduceGT, Int.reduceGE, beq_self_eq_true, List.getElem?_toArray, List.getElem?_cons_zero, List.getElem?_cons_succ, List.append_nil, List.nil_append, List.cons_append, List.append_eq, h88, h87]
    refine condK_of (fun g => ?_) (fun g => ?_)
    · obtain ⟨y, hy⟩ := get_lt (l := x.list) (i := i) (by omega)
      have hC : Fr S A C := hf.then0 hc
      obtain ⟨b, o, c, q1, q2, q3⟩ := h.list.at (P := Try.prog) (k := .i64) (hmB hC) Try.underlying33 sz38 ag38 hy
      rw [eSl_W] at q3
      have hs := lens_succ hy
      have := lens_take_le x.list (i + 1)
      have := hok.size
      have hyl : y.length ≤ 131072 := by omega
      simp only [RS, xs_some, Option.bind_some, Option.map_some, if_true, if_false, decide_true, decide_false, true_and, and_true, Bool.not_true, Bool.not_false, Bool.false_eq_true, not_false_eq_true, not_true_eq_false, Nat.reduceLT, Nat.reduceBEq, Nat.reduceEqDiff, Nat.reduceAdd, Int.reduceEq, Int.reduceLT, Int.reduceLE, Int.reduceGT, Int.reduceGE, beq_self_eq_true, List.getElem?_toArray, List.getElem?_cons_zero, List.getElem?_cons_succ, List.append_nil, List.nil_append, List.cons_append, List.append_eq, h88, h86, q1, q2, h6]
      obtain ⟨w, C1, r1, r2, r3⟩ := run_spec (hC.wf hw) (hmB hC) q3 (by omega)
      refine run_call1 r1 ?_
      have hfi := hfl i
      have hrl := runB_len y
      obtain ⟨v', C2, p1, p2, p3⟩ := (hown.fr0 r3).app sl38 (r3.wf (hC.wf hw)) (by have := hc.len; have := r3.len; omega) (r2.src Try.underlying38) (by rw [bc_len, Nat.mul_one]) (bc_one _) (by omega) (by omega)
      simp only [RS, xs_some, Option.bind_some, Option.map_some, if_true, if_false, decide_true, decide_false, true_and, and_true, Bool.not_true, Bool.not_false, Bool.false_eq_true, not_false_eq_true, not_true_eq_false, Nat.reduceLT, Nat.reduceBEq, Nat.reduceEqDiff, Nat.reduceAdd, Int.reduceEq, Int.reduceLT, Int.reduceLE, Int.reduceGT, Int.reduceGE, beq_self_eq_true, List.getElem?_toArray, List.getElem?_cons_zero, List.getElem?_cons_succ, List.append_nil, List.nil_append, List.cons_append, List.append_eq, p1, h88]
      refine ⟨x.list.length - (i + 1), by omega, (hc.then0 r3).fams p3, k0, i + 1, v', rfl, by omega, by rw [wrapS (by have := hok.list; omega)], h86, h87, rfl, p2.cast ?_ ?_⟩
      · rw [flatMap_succ hy, List.length_append]
      · rw [flatMap_succ hy, bc_app]
    · simp only [RS, xs_some, Option.bind_some, Option.map_some, if_true, if_false, decide_true, decide_false, true_and, and_true, Bool.not_true, Bool.not_false, Bool.false_eq_true, not_false_eq_true, not_true_eq_false, Nat.reduceLT, Nat.reduceBEq, Nat.reduceEqDiff, Nat.reduceAdd, Int.reduceEq, Int.reduceLT, Int.reduceLE, Int.reduceGT, Int.reduceGE, beq_self_eq_true, List.getElem?_toArray, List.getElem?_cons_zero, List.getElem?_cons_succ, List.append_nil, List.nil_append, List.cons_append, List.append_eq]
      rw [List.take_of_length_le (by omega)] at hown
      exact ⟨hc, rfl, k0, ov, h6, hown⟩
  rintro z e C hz ⟨hc, rfl, k0, ov, h6, hown⟩
  have hC : Fr S A C := hf.then0 hc
  replace hj := hJ _ _ _ hj hc
  have h9 : (P9 x)[8]? = some (x.list.flatMap runB) := rfl
  have hfin : optAll 1 ((P9 x).take 9) = fieldList x := opt_all 9 (by simp [P9])
  have olen := fun B => hown.len (P := Try.prog) Try.underlying38 B
  simp only [RS, xs_some, Option.bind_some, Option.map_some, if_true, if_false, decide_true, decide_false, true_and, and_true, Bool.not_true, Bool.not_false, Bool.false_eq_true, not_false_eq_true, not_true_eq_false, Nat.reduceLT, Nat.reduceBEq, Nat.reduceEqDiff, Nat.reduceAdd, Int.reduceEq, Int.reduceLT, Int.reduceLE, Int.reduceGT, Int.reduceGE, beq_self_eq_true, List.getElem?_toArray, List.getElem?_cons_zero, List.getElem?_cons_succ, List.append_nil, List.nil_append, List.cons_append, List.append_eq, h6, olen]
  refine condK_of (fun g => ?_) (fun g => ?_)
  · simp only [RS, xs_some, Option.bind_some, Option.map_some, if_true, if_false, decide_true, decide_false, true_and, and_true, Bool.not_true, Bool.not_false, Bool.false_eq_true, not_false_eq_true, not_true_eq_false, Nat.reduceLT, Nat.reduceBEq, Nat.reduceEqDiff, Nat.reduceAdd, Int.reduceEq, Int.reduceLT, Int.reduceLE, Int.reduceGT, Int.reduceGE, beq_self_eq_true, List.getElem?_toArray, List.getElem?_cons_zero, List.getElem?_cons_succ, List.append_nil, List.nil_append, List.cons_append, List.append_eq, k0, h6, bldF _ hown.form]
    obtain ⟨m', q1, q2, q3⟩ := hown.bts
    obtain ⟨bb, B2, y1, y2, y3, y4⟩ := yieldAt h9 (fun q => by rw [q] at g; simp at g) hj hC q1 q3
    refine ⟨_, B2, y1, ?_⟩
    simp only [RS, xs_some, Option.bind_some, Option.map_some, if_true, if_false, decide_true, decide_false, true_and, and_true, Bool.not_true, Bool.not_false, Bool.false_eq_true, not_false_eq_true, not_true_eq_false, Nat.reduceLT, Nat.reduceBEq, Nat.reduceEqDiff, Nat.reduceAdd, Int.reduceEq, Int.reduceLT, Int.reduceLE, Int.reduceGT, Int.reduceGE, beq_self_eq_true, List.getElem?_toArray, List.getElem?_cons_zero, List.getElem?_cons_succ, List.append_nil, List.nil_append, List.cons_append, List.append_eq]
    rw [hfin] at y3
    cases bb with
    | true => exact ⟨y2, .inl (y3 rfl)⟩
    | false => exact ⟨y2, .inr (y4 rfl)⟩
  · simp only [RS, xs_some, Option.bind_some, Option.map_some, if_true, if_false, decide_true, decide_false, true_and, and_true, Bool.not_true, Bool.not_false, Bool.false_eq_true, not_false_eq_true, not_true_eq_false, Nat.reduceLT, Nat.reduceBEq, Nat.reduceEqDiff, Nat.reduceAdd, Int.reduceEq, Int.reduceLT, Int.reduceLE, Int.reduceGT, Int.reduceGE, beq_self_eq_true, List.getElem?_toArray, List.getElem?_cons_zero, List.getElem?_cons_succ, List.append_nil, List.nil_append, List.cons_append, List.append_eq]
    have := skipAt h9 (List.eq_nil_of_length_eq_zero (by omega)) hj
    rw [hfin] at this
    exact ⟨hC, .inl this⟩
end Go.Sv.Try
namespace Go.Sv.Try
open Go Go.Proofs
set_option linter.unusedVariables false
set_option linter.unusedSimpArgs false
structure Sized (x : M) : Prop where
  ids : x.ids.length ≤ 9223372036854775807
  data : x.data.length ≤ 9223372036854775807
  list : x.list.length ≤ 9223372036854775807
  each : ∀ b ∈ x.list, b.length ≤ 9223372036854775807
theorem faF0 (b : Nat) : evFieldAddr Try.prog 125 (.ptr b 0) 0 = some (.ptr b 0) := by kernel_rfl
theorem faF1 (b : Nat) : evFieldAddr Try.prog 125 (.ptr b 0) 1 = some (.ptr b 1) := by kernel_rfl
theorem flatMap_field_succ {l : List (Nat × Bts)} {i : Nat} {f : Nat × Bts} (h : l[i]? = some f) : (l.take (i + 1)).flatMap fieldB = (l.take i).flatMap fieldB ++ fieldB f := by
  rw [List.take_add_one, h]; simp
theorem fields_spec {m : Hp} {A : AS} {x : M} {dv iv lv : V} :
    ∃ w A', EvF Try.prog HH 56 [.agg (mc x dv iv lv)] A w A' ∧ w = .fn 79 [] [.ptr A.blk.length 0] ∧ Fr S0 A A' ∧ A'.blk[A.blk.length]? = some ⟨mc x dv iv lv, .var⟩ := by
  refine run_fn2 rfl Try.func56 (by unfold Try.f56; rfl) Try.ntmps56 (by unfold Try.f56; rfl) (by simp) ?_
  simp only [RS, xs_some, Option.bind_some, Option.map_some, if_true, if_false, decide_true, decide_false, true_and, and_true, Bool.not_true, Bool.not_false, Bool.false_eq_true, not_false_eq_true, not_true_eq_false, Nat.reduceLT, Nat.reduceBEq, Nat.reduceEqDiff, Nat.reduceAdd, Int.reduceEq, Int.reduceLT, Int.reduceLE, Int.reduceGT, Int.reduceGE, beq_self_eq_true, List.getElem?_toArray, List.getElem?_cons_zero, List.getElem?_cons_succ, List.append_nil, List.nil_append, List.cons_append, List.append_eq]
  exact ⟨Fr.pushVar A _, push_row A _⟩
set_option maxRecDepth 10000 in
set_option maxHeartbeats 16000000 in
theorem write_spec {m : Hp} {A : AS} {x : M} {dv iv lv : V} (hw : WF A) (hm : m.on A) (h : MsgIn m x dv iv lv) (hz : Sized x) :
    ∃ w A', EvF Try.prog HH 23 [.agg (mc x dv iv lv)] A w A' ∧ Fr S0 A A' ∧ ∃ v, w = .tup [v, .int .i64 (checkM x)] ∧ (checkM x ≠ 0 → v = .snil) ∧ (checkM x = 0 → Own A.blk.length A' v (writeB x).length 1 (bc (writeB x))) := by
  refine run_fn2 rfl Try.func23 (by unfold Try.f23; rfl) Try.ntmps23 (by unfold Try.f23; rfl) (by simp) ?_
  simp only [RS, xs_some, Option.bind_some, Option.map_some, if_true, if_false, decide_true, decide_false, true_and, and_true, Bool.not_true, Bool.not_false, Bool.false_eq_true, not_false_eq_true, not_true_eq_false, Nat.reduceLT, Nat.reduceBEq, Nat.reduceEqDiff, Nat.reduceAdd, Int.reduceEq, Int.reduceLT, Int.reduceLE, Int.reduceGT, Int.reduceGE, beq_self_eq_true, List.getElem?_toArray, List.getElem?_cons_zero, List.getElem?_cons_succ, List.append_nil, List.nil_append, List.cons_append, List.append_eq]
  obtain ⟨A1, e1, f1, r1, n1⟩ := new_var A (mc x dv iv lv)
  rw [← e1]
  have ld := ldM r1 h.id
  simp only [RS, xs_some, Option.bind_some, Option.map_some, if_true, if_false, decide_true, decide_false, true_and, and_true, Bool.not_true, Bool.not_false, Bool.false_eq_true, not_false_eq_true, not_true_eq_false, Nat.reduceLT, Nat.reduceBEq, Nat.reduceEqDiff, Nat.reduceAdd, Int.reduceEq, Int.reduceLT, Int.reduceLE, Int.reduceGT, Int.reduceGE, beq_self_eq_true, List.getElem?_toArray, List.getElem?_cons_zero, List.getElem?_cons_succ, List.append_nil, List.nil_append, List.cons_append, List.append_eq, ld]
  obtain ⟨w, A2, k1, rfl, k2⟩ := check_spec (hm.fr0 f1) h hz.ids hz.data hz.list hz.each
  refine run_call1 k1 ?_
  simp only [RS, xs_some, Option.bind_some, Option.map_some, if_true, if_false, decide_true, decide_false, true_and, and_true, Bool.not_true, Bool.not_false, Bool.false_eq_true, not_false_eq_true, not_true_eq_false, Nat.reduceLT, Nat.reduceBEq, Nat.reduceEqDiff, Nat.reduceAdd, Int.reduceEq, Int.reduceLT, Int.reduceLE, Int.reduceGT, Int.reduceGE, beq_self_eq_true, List.getElem?_toArray, List.getElem?_cons_zero, List.getElem?_cons_succ, List.append_nil, List.nil_append, List.cons_append, List.append_eq]
  refine condK_of (fun g => ?_) (fun g => ?_)
  · simp only [RS, xs_some, Option.bind_some, Option.map_some, if_true, if_false, decide_true, decide_false, true_and, and_true, Bool.not_true, Bool.not_false, Bool.false_eq_true, not_false_eq_true, not_true_eq_false, Nat.reduceLT, Nat.reduceBEq, Nat.reduceEqDiff, Nat.reduceAdd, Int.reduceEq, Int.reduceLT, Int.reduceLE, Int.reduceGT, Int.reduceGE, beq_self_eq_true, List.getElem?_toArray, List.getElem?_cons_zero, List.getElem?_cons_succ, List.append_nil, List.nil_append, List.cons_append, List.append_eq]
    exact ⟨f1.then0 k2, _, rfl, fun _ => rfl, fun q => absurd q g⟩
  have g0 : checkM x = 0 := by omega
  have hok := okM_of g0
  have hkind := hok.kind
  obtain ⟨kd, hkd⟩ := Int.eq_ofNat_of_zero_le (show 0 ≤ x.kind by omega)
  have f2 := f1.then0 k2
  have ld2 := ldM (k2.row0 r1) h.id
  have fa := faM A.blk.length
  simp only [RS, xs_some, Option.bind_some, Option.map_some, if_true, if_false, decide_true, decide_false, true_and, and_true, Bool.not_true, Bool.not_false, Bool.false_eq_true, not_false_eq_true, not_true_eq_false, Nat.reduceLT, Nat.reduceBEq, Nat.reduceEqDiff, Nat.reduceAdd, Int.reduceEq, Int.reduceLT, Int.reduceLE, Int.reduceGT, Int.reduceGE, beq_self_eq_true, List.getElem?_toArray, List.getElem?_cons_zero, List.getElem?_cons_succ, List.append_nil, List.nil_append, List.cons_append, List.append_eq, fa, ld2, cnv8, hkd, u8wrap, bsl1, zc38]
  have o1 := Own.new (N := A.blk.length) (n := 1) (sz := 1) (cs := [.int .u8 ((UInt8.ofNat kd).toNat : Int)]) (f2.wf hw) f2.len rfl rfl
  have q1 := Fr.pushArr A2 [.int .u8 ((UInt8.ofNat kd).toNat : Int)]
  generalize A2.push ⟨[.int .u8 ((UInt8.ofNat kd).toNat : Int)], .arr A2.blk.length 0⟩ = A3 at *
  obtain ⟨A4, s1, s2, s3, s4⟩ := new_set (P := Try.prog) A3 (z := [.snil]) (t := 38) (x := .sl A2.blk.length 0 1 1) (cs := [.sl A2.blk.length 0 1 1]) rfl sz38 rfl rfl
  have f4 := (f2.then0 q1).then0 s2
  have ld4 := ldM ((q1.then0 s2).row0 (k2.row0 r1)) h.id
  simp only [RS, xs_some, Option.bind_some, Option.map_some, if_true, if_false, decide_true, decide_false, true_and, and_true, Bool.not_true, Bool.not_false, Bool.false_eq_true, not_false_eq_true, not_true_eq_false, Nat.reduceLT, Nat.reduceBEq, Nat.reduceEqDiff, Nat.reduceAdd, Int.reduceEq, Int.reduceLT, Int.reduceLE, Int.reduceGT, Int.reduceGE, beq_self_eq_true, List.getElem?_toArray, List.getElem?_cons_zero, List.getElem?_cons_succ, List.append_nil, List.nil_append, List.cons_append, List.append_eq, s1, ld4]
  obtain ⟨w, A5, p1, rfl, p2, p3⟩ := fields_spec (m := m) (A := A4) (x := x) (dv := dv) (iv := iv) (lv := lv)
  refine run_call1 p1 ?_
  have f5 := f4.then0 p2
  have l3 : A.blk.length ≤ A3.blk.length := (f2.then0 q1).len
  have hmA5 := hm.fr0 f5
  have r5 := p2.row0 s3
  have l5 := row_lt s3
  have hb5 : m A3.blk.length = none := hm.fresh l3
  have ldb : ∀ {B : AS} {v : V}, B.blk[A3.blk.length]? = some ⟨[v], .var⟩ → evLoad Try.prog 38 (.ptr A3.blk.length 0) B = some v := fun q => load_one ag38 q
  have hid32 := eId_len h.ids
  have hsz := P9_size hok h.id hid32
  have o5 := (o1.fr0 s2).fr0 p2
  have hwl : ∀ i, (((fieldList x).take i).flatMap fieldB).length ≤ 9 * 200010 := by
    have key : ∀ (l : List Bts) (t : Nat), (∀ b ∈ l, b.length ≤ 200000) → ((optAll t l).flatMap fieldB).length ≤ l.length * 200010 := by
      intro l
      induction l with
      | nil => intro t _; simp [optAll]
      | cons b l ih =>
        intro t hl
        have h1 := ih (t + 1) (fun c hc => hl c (List.mem_cons_of_mem _ hc))
        have h2 := hl b (List.mem_cons_self)
        simp only [optAll, List.flatMap_append, List.length_append, List.length_cons, Nat.succ_mul, opt1]
        split
        · rw [List.flatMap_nil, List.length_nil]; omega
        · rw [List.flatMap_cons, List.flatMap_nil, List.append_nil]
          have : (fieldB (t, b)).length = b.length + 4 := by simp [fieldB, runB_len]
          omega
    intro i
    have h1 := key (P9 x) 1 hsz
    have h2 : (((fieldList x).take i).flatMap fieldB).length ≤ ((fieldList x).flatMap fieldB).length := by
      have := congrArg List.length (congrArg (List.flatMap fieldB) (List.take_append_drop i (fieldList x)))
      rw [List.flatMap_append, List.length_append] at this; omega
    have h3 : (P9 x).length = 9 := rfl
    rw [h3] at h1
    exact Nat.le_trans h2 h1
  simp only [RS, xs_some, Option.bind_some, Option.map_some, if_true, if_false, decide_true, decide_false, true_and, and_true, Bool.not_true, Bool.not_false, Bool.false_eq_true, not_false_eq_true, not_true_eq_false, Nat.reduceLT, Nat.reduceBEq, Nat.reduceEqDiff, Nat.reduceAdd, Int.reduceEq, Int.reduceLT, Int.reduceLE, Int.reduceGT, Int.reduceGE, beq_self_eq_true, List.getElem?_toArray, List.getElem?_cons_zero, List.getElem?_cons_succ, List.append_nil, List.nil_append, List.cons_append, List.append_eq]
  refine run_goes_k (S := fun l => l = .row A3.blk.length ∨ famsFrom A.blk.length l) (AR := argF) (xs := fieldList x)
    (fun i B => ∃ v, B.blk[A3.blk.length]? = some ⟨[v], .var⟩ ∧ Own A.blk.length B v ((((fieldList x).take i).flatMap fieldB).length + 1) 1 (bc (UInt8.ofNat kd :: ((fieldList x).take i).flatMap fieldB)))
    (fun B => ∃ v, B.blk[A3.blk.length]? = some ⟨[v], .var⟩ ∧ Own A.blk.length B v (writeB x).length 1 (bc (writeB x)))
    rfl (fun q => by rcases q with q | q <;> cases q) ?_ ⟨_, r5, by simpa [bc] using o5⟩ ?_ ?_ Try.func23 Try.ntmps23 (by simp) ?_ ?_ ?_
  · intro A0 hf0
    refine fields1_goes (hf0.wf (f5.wf hw)) (hmA5.fr0 hf0) ?_ (hf0.row0 p3) h hok
    rintro b ((q | q) | q)
    · cases q; exact ⟨hb5, by omega⟩
    · exact q.elim
    · cases q
  · rintro i B C ⟨v, c1, c2⟩ hf
    exact ⟨v, hf.loop_row c1, c2.fr hf (fun b q => by cases q) (fun f q => by cases q)⟩
  · rintro B C ⟨v, c1, c2⟩ hf
    exact ⟨v, hf.loop_row c1, c2.fr hf (fun b q => by cases q) (fun f q => by cases q)⟩
  · rintro i f B args hi ⟨v, c1, c2⟩ hfB ⟨dv', m', rfl, d1, d2, d3⟩
    refine ⟨_, rfl, ?_⟩
    have hfAB : Fr S0 A B := f5.trans hfB (by
      rintro l ((rfl | q) | rfl)
      · exact .inr l3
      · cases l <;> first | exact .inr q | exact q.elim
      · exact .inr (f5.llen))
    simp only [RS, xs_some, Option.bind_some, Option.map_some, if_true, if_false, decide_true, decide_false, true_and, and_true, Bool.not_true, Bool.not_false, Bool.false_eq_true, not_false_eq_true, not_true_eq_false, Nat.reduceLT, Nat.reduceBEq, Nat.reduceEqDiff, Nat.reduceAdd, Int.reduceEq, Int.reduceLT, Int.reduceLE, Int.reduceGT, Int.reduceGE, beq_self_eq_true, List.getElem?_toArray, List.getElem?_cons_zero, List.getElem?_cons_succ, List.append_nil, List.nil_append, List.cons_append, List.append_eq, zc125]
    obtain ⟨B1, u1, u2, u3, u4⟩ := new_set (P := Try.prog) B (z := [.int .u8 0, .snil]) (t := 125) (x := .agg [.int .u8 (UInt8.ofNat f.1).toNat, dv']) (cs := [.int .u8 (UInt8.ofNat f.1).toNat, dv']) rfl sz125 rfl (by simp only [List.all_cons, one_int, d2.one, List.all_nil, Bool.and_self])
    simp only [RS, xs_some, Option.bind_some, Option.map_some, if_true, if_false, decide_true, decide_false, true_and, and_true, Bool.not_true, Bool.not_false, Bool.false_eq_true, not_false_eq_true, not_true_eq_false, Nat.reduceLT, Nat.reduceBEq, Nat.reduceEqDiff, Nat.reduceAdd, Int.reduceEq, Int.reduceLT, Int.reduceLE, Int.reduceGT, Int.reduceGE, beq_self_eq_true, List.getElem?_toArray, List.getElem?_cons_zero, List.getElem?_cons_succ, List.append_nil, List.nil_append, List.cons_append, List.append_eq, u1]
    refine ⟨rfl, u2.mono fun _ q => q.elim, fun B2 hB2 => ?_⟩
    have hl2 : Fr (· = .loop A5.loops.length) B1 B2 := hB2
    have c1 := hl2.loop_row (u2.row0 c1)
    have c2 : Own A.blk.length B2 v _ 1 _ := (c2.fr0 u2).fr hl2 (fun b q => by cases q) (fun f q => by cases q)
    have c3 := hl2.loop_row u3
    have d1 := (d1.fr0 u2).loop hl2
    have w2 : WF B2 := hl2.wf (u2.wf (hfAB.wf hw))
    have n2 : A.blk.length ≤ B2.blk.length := by have := hfAB.len; have := u2.len; have := hl2.len; omega
    have l5b := row_lt c1
    have fa0 : evFieldAddr Try.prog 125 (.ptr B.blk.length 0) 0 = some (.ptr B.blk.length 0) := faF0 _
    have fa1 : evFieldAddr Try.prog 125 (.ptr B.blk.length 0) 1 = some (.ptr B.blk.length 1) := faF1 _
    have ld0 := load_at (P := Try.prog) ag5 c3 0
    have ld1 := load_at (P := Try.prog) ag38 c3 1
    simp only [List.getElem?_cons_zero, List.getElem?_cons_succ] at ld0 ld1
    have hwi := hwl i
    obtain ⟨v1, B3, y1, y2, y3⟩ := c2.appNew (k := 1) (new := [.int .u8 ((UInt8.ofNat f.1).toNat : Int)]) sl38 Try.underlying38 w2 n2 rfl rfl (by omega) (by omega)
    have q2 := Fr.pushArr B2 [.int .u8 ((UInt8.ofNat f.1).toNat : Int)]
    have ld1' := load_at (P := Try.prog) ag38 (q2.row0 c3) 1
    simp only [List.getElem?_cons_zero, List.getElem?_cons_succ] at ld1'
    have c3' := y3.fam_row c3
    have ld2 := load_at (P := Try.prog) ag38 c3' 1
    simp only [List.getElem?_cons_zero, List.getElem?_cons_succ] at ld2
    simp only [RS, xs_some, Option.bind_some, Option.map_some, if_true, if_false, decide_true, decide_false, true_and, and_true, Bool.not_true, Bool.not_false, Bool.false_eq_true, not_false_eq_true, not_true_eq_false, Nat.reduceLT, Nat.reduceBEq, Nat.reduceEqDiff, Nat.reduceAdd, Int.reduceEq, Int.reduceLT, Int.reduceLE, Int.reduceGT, Int.reduceGE, beq_self_eq_true, List.getElem?_toArray, List.getElem?_cons_zero, List.getElem?_cons_succ, List.append_nil, List.nil_append, List.cons_append, List.append_eq, pl_23_7, ldb c1, fa0, fa1, ld0, ld1, bsl1, ld1', y1, rc_nil]
    refine ⟨rc_load (ha := rfl) rfl ld2 rfl rc_nil, ?_⟩
    obtain ⟨w, B4, z1, z2, z3⟩ := run_spec (y3.wf w2) (d1.fams y3) d2 (by omega)
    refine run_call1 z1 ?_
    have hrl := runB_len f.2
    obtain ⟨v2, B5, x1, x2, x3⟩ := (y2.fr0 z3).app sl38 (z3.wf (y3.wf w2)) (by have := y3.len; have := z3.len; omega) (z2.src Try.underlying38) (by rw [bc_len, Nat.mul_one]) (bc_one _) (by omega) (by omega)
    have c5 := x3.fam_row (z3.row0 (y3.fam_row c1))
    obtain ⟨B6, t1, t2, t3, t4⟩ := store_one (P := Try.prog) (t := 38) (x := v2) c5 x2.cells1 sz38 x2.one
    simp only [RS, xs_some, Option.bind_some, Option.map_some, if_true, if_false, decide_true, decide_false, true_and, and_true, Bool.not_true, Bool.not_false, Bool.false_eq_true, not_false_eq_true, not_true_eq_false, Nat.reduceLT, Nat.reduceBEq, Nat.reduceEqDiff, Nat.reduceAdd, Int.reduceEq, Int.reduceLT, Int.reduceLE, Int.reduceGT, Int.reduceGE, beq_self_eq_true, List.getElem?_toArray, List.getElem?_cons_zero, List.getElem?_cons_succ, List.append_nil, List.nil_append, List.cons_append, List.append_eq, x1, t1, rc_nil]
    have inF : ∀ {X Y : AS}, Fr (famsFrom A.blk.length) X Y → Fr (fun l => l = .row A3.blk.length ∨ famsFrom A.blk.length l) X Y := fun q => q.mono fun _ z => .inr z
    refine ⟨(((inF y3).then0 z3).thn (inF x3)).thn (t2.mono fun _ q => .inl q), .inl ⟨rfl, v2, t3, (x2.frRow t2 c5).cast ?_ ?_⟩⟩
    · rw [flatMap_field_succ hi, List.length_append]; simp [fieldB]; omega
    · rw [flatMap_field_succ hi]
      simp [bc, fieldB]
  · rintro B ⟨v, c1, c2⟩
    refine ⟨v, c1, c2.cast ?_ ?_⟩
    · rw [List.take_length]; simp [writeB]
    · rw [List.take_length]; simp [writeB, hkd]
  · rintro B ⟨v, c1, c2⟩ hf
    simp only [RS, xs_some, Option.bind_some, Option.map_some, if_true, if_false, decide_true, decide_false, true_and, and_true, Bool.not_true, Bool.not_false, Bool.false_eq_true, not_false_eq_true, not_true_eq_false, Nat.reduceLT, Nat.reduceBEq, Nat.reduceEqDiff, Nat.reduceAdd, Int.reduceEq, Int.reduceLT, Int.reduceLE, Int.reduceGT, Int.reduceGE, beq_self_eq_true, List.getElem?_toArray, List.getElem?_cons_zero, List.getElem?_cons_succ, List.append_nil, List.nil_append, List.cons_append, List.append_eq, ldb c1]
    refine ⟨f5.trans hf ?_, v, by rw [g0], fun q => absurd g0 q, fun _ => c2⟩
    rintro l (rfl | q)
    · exact .inr l3
    · cases l <;> first | exact .inr q | exact q.elim
end Go.Sv.Try
namespace Go.Sv.Try
open Go Go.Proofs
set_option linter.unusedVariables false
set_option linter.unusedSimpArgs false
theorem bslS (a b c d e f g h i : Bts) : bsl Try.prog 82 9 (some [(0, .str a), (1, .str b), (2, .str c), (3, .str d), (4, .str e), (5, .str f), (6, .str g), (7, .str h), (8, .str i)]) = some (.newSl [.str a, .str b, .str c, .str d, .str e, .str f, .str g, .str h, .str i] 9 1) := by kernel_rfl
def rowS (x : M) (a b c : Bts) : List V := [.str (digits x.who.toNat), .str (digits x.height.toNat), .str (digits x.round.toNat), .str (digits x.valid.toNat), .str (digits x.num.toNat), .str a, .str x.data, .str b, .str c]
theorem rowS_done (x : M) : rowS x (if x.id = zero32 then [] else x.id) x.ids.flatten (x.list.flatMap runB) = (P9 x).map .str := rfl
set_option maxRecDepth 10000 in
set_option maxHeartbeats 16000000 in
theorem refParts9_spec {m : Hp} {A : AS} {x : M} {dv iv lv : V} (hw : WF A) (hm : m.on A) (h : MsgIn m x dv iv lv) (hok : OkM x) :
    ∃ w A', EvF Try.prog HH 59 [.agg (mc x dv iv lv)] A w A' ∧ Fr S0 A A' ∧ ∃ b f base, w = .sl b 0 9 1 ∧ A'.blk[b]? = some ⟨(P9 x).map .str, .arr f base⟩ := by
  refine run_fn2 rfl Try.func59 (by unfold Try.f59; rfl) Try.ntmps59 (by unfold Try.f59; rfl) (by simp) ?_
  simp only [RS, xs_some, Option.bind_some, Option.map_some, if_true, if_false, decide_true, decide_false, true_and, and_true, Bool.not_true, Bool.not_false, Bool.false_eq_true, not_false_eq_true, not_true_eq_false, Nat.reduceLT, Nat.reduceBEq, Nat.reduceEqDiff, Nat.reduceAdd, Int.reduceEq, Int.reduceLT, Int.reduceLE, Int.reduceGT, Int.reduceGE, beq_self_eq_true, List.getElem?_toArray, List.getElem?_cons_zero, List.getElem?_cons_succ, List.append_nil, List.nil_append, List.cons_append, List.append_eq]
  obtain ⟨A1, e1, f1, r1, n1⟩ := new_var A (mc x dv iv lv)
  rw [← e1]
  have fa := faM A.blk.length
  have hid32 := eId_len h.ids
  have hmB : ∀ {B}, Fr S0 A1 B → m.on B := fun q => (hm.fr0 f1).fr0 q
  have ld : ∀ {B}, Fr S0 A1 B → _ := fun {B} (q : Fr S0 A1 B) => ldM (q.row0 r1) h.id
  have cvd : ∀ {B}, Fr S0 A1 B → cnv Try.prog 38 9 (some dv) B = some (.val (.str x.data)) := fun {B} q => cnv_text (by decide) h.data (hmB q) Try.underlying38 Try.underlying5 Try.underlying9
  have hnum := hok.nums
  simp only [M.nums, List.mem_cons, List.mem_nil_iff, or_false, forall_eq_or_imp, forall_eq] at hnum
  obtain ⟨⟨a1, b1⟩, ⟨a2, b2⟩, ⟨a3, b3⟩, ⟨a4, b4⟩, a5, b5⟩ := hnum
  obtain ⟨w1, hw1⟩ := Int.eq_ofNat_of_zero_le a1
  obtain ⟨w2, hw2⟩ := Int.eq_ofNat_of_zero_le a2
  obtain ⟨w3, hw3⟩ := Int.eq_ofNat_of_zero_le a3
  obtain ⟨w4, hw4⟩ := Int.eq_ofNat_of_zero_le a4
  obtain ⟨w5, hw5⟩ := Int.eq_ofNat_of_zero_le a5
  obtain ⟨_, C1, k1, rfl, g1⟩ := refDigits_spec (A := A1) (n := w1) (by omega)
  obtain ⟨_, C2, k2, rfl, g2⟩ := refDigits_spec (A := C1) (n := w2) (by omega)
  obtain ⟨_, C3, k3, rfl, g3⟩ := refDigits_spec (A := C2) (n := w3) (by omega)
  obtain ⟨_, C4, k4, rfl, g4⟩ := refDigits_spec (A := C3) (n := w4) (by omega)
  obtain ⟨_, C5, k5, rfl, g5⟩ := refDigits_spec (A := C4) (n := w5) (by omega)
  have h2 := g1.then0 g2
  have h3 := h2.then0 g3
  have h4 := h3.then0 g4
  have h5 := h4.then0 g5
  rw [← hw1] at k1; rw [← hw2] at k2; rw [← hw3] at k3; rw [← hw4] at k4; rw [← hw5] at k5
  have l1 := ld (.refl S0 A1); have m1 := ld g1; have m2 := ld h2; have m3 := ld h3; have m4 := ld h4; have m5 := ld h5
  simp only [RS, xs_some, Option.bind_some, Option.map_some, if_true, if_false, decide_true, decide_false, true_and, and_true, Bool.not_true, Bool.not_false, Bool.false_eq_true, not_false_eq_true, not_true_eq_false, Nat.reduceLT, Nat.reduceBEq, Nat.reduceEqDiff, Nat.reduceAdd, Int.reduceEq, Int.reduceLT, Int.reduceLE, Int.reduceGT, Int.reduceGE, beq_self_eq_true, List.getElem?_toArray, List.getElem?_cons_zero, List.getElem?_cons_succ, List.append_nil, List.nil_append, List.cons_append, List.append_eq, pl_59_1, fa, l1, cvd (.refl S0 A1), rc_nil]
  refine run_call1 k1 ?_
  simp only [RS, xs_some, Option.bind_some, Option.map_some, if_true, if_false, decide_true, decide_false, true_and, and_true, Bool.not_true, Bool.not_false, Bool.false_eq_true, not_false_eq_true, not_true_eq_false, Nat.reduceLT, Nat.reduceBEq, Nat.reduceEqDiff, Nat.reduceAdd, Int.reduceEq, Int.reduceLT, Int.reduceLE, Int.reduceGT, Int.reduceGE, beq_self_eq_true, List.getElem?_toArray, List.getElem?_cons_zero, List.getElem?_cons_succ, List.append_nil, List.nil_append, List.cons_append, List.append_eq, rc_nil]
  refine ⟨rc_load (ha := rfl) rfl m1.2.2.1 rfl <| rc_load (ha := rfl) rfl m1.2.2.2.1 rfl <| rc_load (ha := rfl) rfl m1.2.2.2.2.1 rfl <| rc_load (ha := rfl) rfl m1.2.2.2.2.2.1 rfl <| rc_load (ha := rfl) rfl m1.2.2.2.2.2.2.2.1 rfl <| rc_conv (ha := rfl) rfl (cvd g1) rfl rc_nil, ?_⟩
  refine run_call1 k2 ?_
  simp only [RS, xs_some, Option.bind_some, Option.map_some, if_true, if_false, decide_true, decide_false, true_and, and_true, Bool.not_true, Bool.not_false, Bool.false_eq_true, not_false_eq_true, not_true_eq_false, Nat.reduceLT, Nat.reduceBEq, Nat.reduceEqDiff, Nat.reduceAdd, Int.reduceEq, Int.reduceLT, Int.reduceLE, Int.reduceGT, Int.reduceGE, beq_self_eq_true, List.getElem?_toArray, List.getElem?_cons_zero, List.getElem?_cons_succ, List.append_nil, List.nil_append, List.cons_append, List.append_eq, rc_nil]
  refine ⟨rc_load (ha := rfl) rfl m2.2.2.2.1 rfl <| rc_load (ha := rfl) rfl m2.2.2.2.2.1 rfl <| rc_load (ha := rfl) rfl m2.2.2.2.2.2.1 rfl <| rc_load (ha := rfl) rfl m2.2.2.2.2.2.2.2.1 rfl <| rc_conv (ha := rfl) rfl (cvd h2) rfl rc_nil, ?_⟩
  refine run_call1 k3 ?_
  simp only [RS, xs_some, Option.bind_some, Option.map_some, if_true, if_false, decide_true, decide_false, true_and, and_true, Bool.not_true, Bool.not_false, Bool.false_eq_true, not_false_eq_true, not_true_eq_false, Nat.reduceLT, Nat.reduceBEq, Nat.reduceEqDiff, Nat.reduceAdd, Int.reduceEq, Int.reduceLT, Int.reduceLE, Int.reduceGT, Int.reduceGE, beq_self_eq_true, List.getElem?_toArray, List.getElem?_cons_zero, List.getElem?_cons_succ, List.append_nil, List.nil_append, List.cons_append, List.append_eq, rc_nil]
  refine ⟨rc_load (ha := rfl) rfl m3.2.2.2.2.1 rfl <| rc_load (ha := rfl) rfl m3.2.2.2.2.2.1 rfl <| rc_load (ha := rfl) rfl m3.2.2.2.2.2.2.2.1 rfl <| rc_conv (ha := rfl) rfl (cvd h3) rfl rc_nil, ?_⟩
  refine run_call1 k4 ?_
  simp only [RS, xs_some, Option.bind_some, Option.map_some, if_true, if_false, decide_true, decide_false, true_and, and_true, Bool.not_true, Bool.not_false, Bool.false_eq_true, not_false_eq_true, not_true_eq_false, Nat.reduceLT, Nat.reduceBEq, Nat.reduceEqDiff, Nat.reduceAdd, Int.reduceEq, Int.reduceLT, Int.reduceLE, Int.reduceGT, Int.reduceGE, beq_self_eq_true, List.getElem?_toArray, List.getElem?_cons_zero, List.getElem?_cons_succ, List.append_nil, List.nil_append, List.cons_append, List.append_eq, rc_nil]
  refine ⟨rc_load (ha := rfl) rfl m4.2.2.2.2.2.1 rfl <| rc_load (ha := rfl) rfl m4.2.2.2.2.2.2.2.1 rfl <| rc_conv (ha := rfl) rfl (cvd h4) rfl rc_nil, ?_⟩
  refine run_call1 k5 ?_
  simp only [RS, xs_some, Option.bind_some, Option.map_some, if_true, if_false, decide_true, decide_false, true_and, and_true, Bool.not_true, Bool.not_false, Bool.false_eq_true, not_false_eq_true, not_true_eq_false, Nat.reduceLT, Nat.reduceBEq, Nat.reduceEqDiff, Nat.reduceAdd, Int.reduceEq, Int.reduceLT, Int.reduceLE, Int.reduceGT, Int.reduceGE, beq_self_eq_true, List.getElem?_toArray, List.getElem?_cons_zero, List.getElem?_cons_succ, List.append_nil, List.nil_append, List.cons_append, List.append_eq, rc_nil]
  refine ⟨rc_load (ha := rfl) rfl m5.2.2.2.2.2.2.2.1 rfl <| rc_conv (ha := rfl) rfl (cvd h5) rfl rc_nil, ?_⟩
  simp only [RS, xs_some, Option.bind_some, Option.map_some, if_true, if_false, decide_true, decide_false, true_and, and_true, Bool.not_true, Bool.not_false, Bool.false_eq_true, not_false_eq_true, not_true_eq_false, Nat.reduceLT, Nat.reduceBEq, Nat.reduceEqDiff, Nat.reduceAdd, Int.reduceEq, Int.reduceLT, Int.reduceLE, Int.reduceGT, Int.reduceGE, beq_self_eq_true, List.getElem?_toArray, List.getElem?_cons_zero, List.getElem?_cons_succ, List.append_nil, List.nil_append, List.cons_append, List.append_eq, rc_nil, bslS]
  have wC : WF C5 := h5.wf (f1.wf hw)
  have q1 := Fr.pushArr C5 (rowS x [] [] [])
  have sole := Sole.new (cs := rowS x [] [] []) wC
  have row := push_row C5 ⟨rowS x [] [] [], .arr C5.blk.length 0⟩
  have e0 : (C5.push ⟨[V.str (digits w1), V.str (digits w2), V.str (digits w3), V.str (digits w4), V.str (digits w5), V.str [], V.str x.data, V.str [], V.str []], .arr C5.blk.length 0⟩) = C5.push ⟨rowS x [] [] [], .arr C5.blk.length 0⟩ := by
    simp only [rowS, hw1, hw2, hw3, hw4, hw5, Int.toNat_natCast]
  rw [e0]
  clear e0 k1 k2 k3 k4 k5 l1 m1 m2 m3 m4 m5
  generalize C5.push ⟨rowS x [] [] [], .arr C5.blk.length 0⟩ = A2 at *
  have f2 : Fr S0 A1 A2 := h5.then0 q1
  have hN : A1.blk.length ≤ C5.blk.length := h5.len
  generalize C5.blk.length = b at *
  clear g1 g2 g3 g4 g5 h2 h3 h4 h5 q1 wC
  have adr : ∀ i : Nat, i < 9 → evIndexAddr Try.prog 82 (.sl b 0 9 1) (.int .i64 (i : Int)) = some (.ptr b i) := fun i hi => by
    have := sl_addr (P := Try.prog) (t := 82) (b := b) (o := 0) (n := 9) (k := .i64) (i := i) Try.underlying82 sz9 hi
    simpa using this
  have ad5 : evIndexAddr Try.prog 82 (.sl b 0 9 1) (.int .i64 5) = some (.ptr b 5) := adr 5 (by decide)
  have ad7 : evIndexAddr Try.prog 82 (.sl b 0 9 1) (.int .i64 7) = some (.ptr b 7) := adr 7 (by decide)
  have ad8 : evIndexAddr Try.prog 82 (.sl b 0 9 1) (.int .i64 8) = some (.ptr b 8) := adr 8 (by decide)
  have hne : b ≠ A.blk.length := by omega
  have keep : ∀ {B C : AS}, Fr (· = .row b) B C → B.blk[A.blk.length]? = some ⟨mc x dv iv lv, .var⟩ → C.blk[A.blk.length]? = some ⟨mc x dv iv lv, .var⟩ := fun q z => q.rowNe z (by omega)
  have r2 := f2.row0 r1
  have hm2 := hmB f2
  have fA2 : Fr S0 A A2 := f1.then0 f2
  have hbm : m b = none := hm.fresh (by omega)
  clear ld hmB cvd
  have ld := ldM r2 h.id
  simp only [RS, xs_some, Option.bind_some, Option.map_some, if_true, if_false, decide_true, decide_false, true_and, and_true, Bool.not_true, Bool.not_false, Bool.false_eq_true, not_false_eq_true, not_true_eq_false, Nat.reduceLT, Nat.reduceBEq, Nat.reduceEqDiff, Nat.reduceAdd, Int.reduceEq, Int.reduceLT, Int.reduceLE, Int.reduceGT, Int.reduceGE, beq_self_eq_true, List.getElem?_toArray, List.getElem?_cons_zero, List.getElem?_cons_succ, List.append_nil, List.nil_append, List.cons_append, List.append_eq, fa, ld, bldZ, eqI h.id (rfl : zero32.length = 32)]
  refine condK_cut (fun z e B => Is z .normal ∧ e.get 1 = .ptr A.blk.length 0 ∧ e.get 3 = .sl b 0 9 1 ∧ Fr S0 A B ∧ m.on B ∧ B.blk[A.blk.length]? = some ⟨mc x dv iv lv, .var⟩ ∧ Sole B b b ∧ B.blk[b]? = some ⟨rowS x (if x.id = zero32 then [] else x.id) [] [], .arr b 0⟩) ?_ ?_
  · refine condK_dec (fun g => ?_) (fun g => ?_)
    rotate_left
    · simp only [RS, xs_some, Option.bind_some, Option.map_some, if_true, if_false, decide_true, decide_false, true_and, and_true, Bool.not_true, Bool.not_false, Bool.false_eq_true, not_false_eq_true, not_true_eq_false, Nat.reduceLT, Nat.reduceBEq, Nat.reduceEqDiff, Nat.reduceAdd, Int.reduceEq, Int.reduceLT, Int.reduceLE, Int.reduceGT, Int.reduceGE, beq_self_eq_true, List.getElem?_toArray, List.getElem?_cons_zero, List.getElem?_cons_succ, List.append_nil, List.nil_append, List.cons_append, List.append_eq, fa, ld]
      obtain ⟨_, B1, k1, rfl, k2⟩ := refText_spec (A := A2) h.id
      refine run_call1 k1 ?_
      obtain ⟨B2, s1, s2, s3, s4, s5⟩ := store_sole (P := Try.prog) (t := 9) (o := 5) (x := .str x.id) (sole.fr k2 fun q => q) (k2.row0 row) rfl sz9 (by simp [rowS]) rfl
      simp only [RS, xs_some, Option.bind_some, Option.map_some, if_true, if_false, decide_true, decide_false, true_and, and_true, Bool.not_true, Bool.not_false, Bool.false_eq_true, not_false_eq_true, not_true_eq_false, Nat.reduceLT, Nat.reduceBEq, Nat.reduceEqDiff, Nat.reduceAdd, Int.reduceEq, Int.reduceLT, Int.reduceLE, Int.reduceGT, Int.reduceGE, beq_self_eq_true, List.getElem?_toArray, List.getElem?_cons_zero, List.getElem?_cons_succ, List.append_nil, List.nil_append, List.cons_append, List.append_eq, ad5, s1]
      refine ⟨rfl, (fA2.then0 k2).row_ s2 (by omega), (hm2.fr0 k2).row s2 hbm, keep s2 (k2.row0 r2), s5, ?_⟩
      rw [if_neg g]; exact s3
    · simp only [RS, xs_some, Option.bind_some, Option.map_some, if_true, if_false, decide_true, decide_false, true_and, and_true, Bool.not_true, Bool.not_false, Bool.false_eq_true, not_false_eq_true, not_true_eq_false, Nat.reduceLT, Nat.reduceBEq, Nat.reduceEqDiff, Nat.reduceAdd, Int.reduceEq, Int.reduceLT, Int.reduceLE, Int.reduceGT, Int.reduceGE, beq_self_eq_true, List.getElem?_toArray, List.getElem?_cons_zero, List.getElem?_cons_succ, List.append_nil, List.nil_append, List.cons_append, List.append_eq]
      refine ⟨rfl, fA2, hm2, r2, sole, ?_⟩
      rw [if_pos (by simpa using g)]; exact row
  clear ld row sole r2 hm2 fA2 f2
  rintro z e B ⟨rfl, h1, h3, fB, hmB, rB, sole, row⟩
  simp only [RS, xs_some, Option.bind_some, Option.map_some, if_true, if_false, decide_true, decide_false, true_and, and_true, Bool.not_true, Bool.not_false, Bool.false_eq_true, not_false_eq_true, not_true_eq_false, Nat.reduceLT, Nat.reduceBEq, Nat.reduceEqDiff, Nat.reduceAdd, Int.reduceEq, Int.reduceLT, Int.reduceLE, Int.reduceGT, Int.reduceGE, beq_self_eq_true, List.getElem?_toArray, List.getElem?_cons_zero, List.getElem?_cons_succ, List.append_nil, List.nil_append, List.cons_append, List.append_eq]
  have ilen := fun B => h.ids.len (P := Try.prog) Try.underlying39 B
  have llen := fun B => h.list.len (P := Try.prog) Try.underlying33 B
  have hflat : ∀ i, (x.ids.take i).flatten.length ≤ 2048 := fun i => by
    rw [flatten_len _ (fun b hb => hid32 b (List.mem_of_mem_take hb)), List.length_take]
    have := hok.ids; omega
  have hfl : ∀ i, ((x.list.take i).flatMap runB).length ≤ 131264 := fun i => by
    rw [flatMap_runB_len, List.length_take]
    have := hok.size; have := hok.list; have := lens_take_le x.list i; omega
  refine run_loop_j (fun n e B => e.get 1 = .ptr A.blk.length 0 ∧ e.get 3 = .sl b 0 9 1 ∧ Fr S0 A B ∧ m.on B ∧ B.blk[A.blk.length]? = some ⟨mc x dv iv lv, .var⟩ ∧ Sole B b b ∧ ∃ i : Nat, n = x.ids.length - i ∧ i ≤ x.ids.length ∧ e.get 4 = .int .i64 i ∧ B.blk[b]? = some ⟨rowS x (if x.id = zero32 then [] else x.id) (x.ids.take i).flatten [], .arr b 0⟩)
    (fun z e B => Is z (.exit 0) ∧ e.get 1 = .ptr A.blk.length 0 ∧ e.get 3 = .sl b 0 9 1 ∧ Fr S0 A B ∧ m.on B ∧ B.blk[A.blk.length]? = some ⟨mc x dv iv lv, .var⟩ ∧ Sole B b b ∧ B.blk[b]? = some ⟨rowS x (if x.id = zero32 then [] else x.id) x.ids.flatten [], .arr b 0⟩)
    ⟨_, h1, h3, fB, hmB, rB, sole, 0, rfl, by simp, rfl, row⟩ ?_ ?_
  · clear h1 h3 fB hmB rB sole row
    rintro n e B ⟨h1, h3, fB, hmB, rB, sole, i, rfl, hi, h4, row⟩
    have ld := ldM rB h.id
    simp only [RS, xs_some, Option.bind_some, Option.map_some, if_true, if_false, decide_true, decide_false, true_and, and_true, Bool.not_true, Bool.not_false, Bool.false_eq_true, not_false_eq_true, not_true_eq_false, Nat.reduceLT, Nat.reduceBEq, Nat.reduceEqDiff, Nat.reduceAdd, Int.reduceEq, Int.reduceLT, Int.reduceLE, Int.reduceGT, Int.reduceGE, beq_self_eq_true, List.getElem?_toArray, List.getElem?_cons_zero, List.getElem?_cons_succ, List.append_nil, List.nil_append, List.cons_append, List.append_eq, h4, h1, fa, ld, ilen]
    refine condK_of (fun g => ?_) (fun g => ?_)
    · obtain ⟨y, hy⟩ := get_lt (l := x.ids) (i := i) (by omega)
      obtain ⟨b1, o, c, q1, q2, q3⟩ := h.ids.at (P := Try.prog) (k := .i64) hmB Try.underlying39 sz37 ag37 hy
      obtain ⟨rfl, hyl⟩ := eB_W.1 q3
      have ld7 : evLoad Try.prog 9 (.ptr b 7) B = some (.str (x.ids.take i).flatten) := by rw [load_at ag9 row]; rfl
      simp only [RS, xs_some, Option.bind_some, Option.map_some, if_true, if_false, decide_true, decide_false, true_and, and_true, Bool.not_true, Bool.not_false, Bool.false_eq_true, not_false_eq_true, not_true_eq_false, Nat.reduceLT, Nat.reduceBEq, Nat.reduceEqDiff, Nat.reduceAdd, Int.reduceEq, Int.reduceLT, Int.reduceLE, Int.reduceGT, Int.reduceGE, beq_self_eq_true, List.getElem?_toArray, List.getElem?_cons_zero, List.getElem?_cons_succ, List.append_nil, List.nil_append, List.cons_append, List.append_eq]
      simp only [RS, xs_some, Option.bind_some, Option.map_some, if_true, if_false, decide_true, decide_false, true_and, and_true, Bool.not_true, Bool.not_false, Bool.false_eq_true, not_false_eq_true, not_true_eq_false, Nat.reduceLT, Nat.reduceBEq, Nat.reduceEqDiff, Nat.reduceAdd, Int.reduceEq, Int.reduceLT, Int.reduceLE, Int.reduceGT, Int.reduceGE, beq_self_eq_true, List.getElem?_toArray, List.getElem?_cons_zero, List.getElem?_cons_succ, List.append_nil, List.nil_append, List.cons_append, List.append_eq, pl_59_7, h4, h3, h1, ad7, ld7, fa, ld, q1, q2, rc_nil]
      obtain ⟨_, B1, k1, rfl, k2⟩ := refText_spec (A := B) hyl
      refine run_call1 k1 ?_
      have ld7' : evLoad Try.prog 9 (.ptr b 7) B1 = some (.str (x.ids.take i).flatten) := by rw [load_at ag9 (k2.row0 row)]; rfl
      have hfi := hflat i
      have hadd : evBin Try.prog .add 9 (.str (x.ids.take i).flatten) (.str y) = some (.str ((x.ids.take i).flatten ++ y)) := str_add (by omega)
      obtain ⟨B2, s1, s2, s3, s4, s5⟩ := store_sole (P := Try.prog) (t := 9) (o := 7) (x := .str ((x.ids.take i).flatten ++ y)) (sole.fr k2 fun q => q) (k2.row0 row) rfl sz9 (by simp [rowS]) rfl
      simp only [RS, xs_some, Option.bind_some, Option.map_some, if_true, if_false, decide_true, decide_false, true_and, and_true, Bool.not_true, Bool.not_false, Bool.false_eq_true, not_false_eq_true, not_true_eq_false, Nat.reduceLT, Nat.reduceBEq, Nat.reduceEqDiff, Nat.reduceAdd, Int.reduceEq, Int.reduceLT, Int.reduceLE, Int.reduceGT, Int.reduceGE, beq_self_eq_true, List.getElem?_toArray, List.getElem?_cons_zero, List.getElem?_cons_succ, List.append_nil, List.nil_append, List.cons_append, List.append_eq, rc_nil]
      refine ⟨rc_load (ha := rfl) rfl ld7' rfl rc_nil, ?_⟩
      simp only [RS, xs_some, Option.bind_some, Option.map_some, if_true, if_false, decide_true, decide_false, true_and, and_true, Bool.not_true, Bool.not_false, Bool.false_eq_true, not_false_eq_true, not_true_eq_false, Nat.reduceLT, Nat.reduceBEq, Nat.reduceEqDiff, Nat.reduceAdd, Int.reduceEq, Int.reduceLT, Int.reduceLE, Int.reduceGT, Int.reduceGE, beq_self_eq_true, List.getElem?_toArray, List.getElem?_cons_zero, List.getElem?_cons_succ, List.append_nil, List.nil_append, List.cons_append, List.append_eq, hadd, ad7, h3, h4, s1, rc_nil]
      refine ⟨x.ids.length - (i + 1), by omega, h1, (fB.then0 k2).row_ s2 (by omega), (hmB.fr0 k2).row s2 hbm, keep s2 (k2.row0 rB), s5, i + 1, rfl, by omega, by rw [wrapS (by have := hok.ids; omega)], ?_⟩
      rw [flat_succ hy]; exact s3
    · simp only [RS, xs_some, Option.bind_some, Option.map_some, if_true, if_false, decide_true, decide_false, true_and, and_true, Bool.not_true, Bool.not_false, Bool.false_eq_true, not_false_eq_true, not_true_eq_false, Nat.reduceLT, Nat.reduceBEq, Nat.reduceEqDiff, Nat.reduceAdd, Int.reduceEq, Int.reduceLT, Int.reduceLE, Int.reduceGT, Int.reduceGE, beq_self_eq_true, List.getElem?_toArray, List.getElem?_cons_zero, List.getElem?_cons_succ, List.append_nil, List.nil_append, List.cons_append, List.append_eq]
      rw [List.take_of_length_le (by omega)] at row
      exact ⟨rfl, h1, h3, fB, hmB, rB, sole, row⟩
  clear h1 h3 fB hmB rB sole row
  rintro z e B hz ⟨rfl, h1, h3, fB, hmB, rB, sole, row⟩
  simp only [RS, xs_some, Option.bind_some, Option.map_some, if_true, if_false, decide_true, decide_false, true_and, and_true, Bool.not_true, Bool.not_false, Bool.false_eq_true, not_false_eq_true, not_true_eq_false, Nat.reduceLT, Nat.reduceBEq, Nat.reduceEqDiff, Nat.reduceAdd, Int.reduceEq, Int.reduceLT, Int.reduceLE, Int.reduceGT, Int.reduceGE, beq_self_eq_true, List.getElem?_toArray, List.getElem?_cons_zero, List.getElem?_cons_succ, List.append_nil, List.nil_append, List.cons_append, List.append_eq]
  refine run_loop_j (fun n e B => e.get 1 = .ptr A.blk.length 0 ∧ e.get 3 = .sl b 0 9 1 ∧ Fr S0 A B ∧ m.on B ∧ B.blk[A.blk.length]? = some ⟨mc x dv iv lv, .var⟩ ∧ Sole B b b ∧ ∃ i : Nat, n = x.list.length - i ∧ i ≤ x.list.length ∧ e.get 5 = .int .i64 i ∧ B.blk[b]? = some ⟨rowS x (if x.id = zero32 then [] else x.id) x.ids.flatten ((x.list.take i).flatMap runB), .arr b 0⟩)
    (fun z e B => Is z (.exit 2) ∧ e.get 3 = .sl b 0 9 1 ∧ Fr S0 A B ∧ B.blk[b]? = some ⟨rowS x (if x.id = zero32 then [] else x.id) x.ids.flatten (x.list.flatMap runB), .arr b 0⟩)
    ⟨_, h1, h3, fB, hmB, rB, sole, 0, rfl, by simp, rfl, row⟩ ?_ ?_
  · clear h1 h3 fB hmB rB sole row
    rintro n e B ⟨h1, h3, fB, hmB, rB, sole, i, rfl, hi, h5, row⟩
    have ld := ldM rB h.id
    simp only [RS, xs_some, Option.bind_some, Option.map_some, if_true, if_false, decide_true, decide_false, true_and, and_true, Bool.not_true, Bool.not_false, Bool.false_eq_true, not_false_eq_true, not_true_eq_false, Nat.reduceLT, Nat.reduceBEq, Nat.reduceEqDiff, Nat.reduceAdd, Int.reduceEq, Int.reduceLT, Int.reduceLE, Int.reduceGT, Int.reduceGE, beq_self_eq_true, List.getElem?_toArray, List.getElem?_cons_zero, List.getElem?_cons_succ, List.append_nil, List.nil_append, List.cons_append, List.append_eq, h5, h1, fa, ld, llen]
    refine condK_of (fun g => ?_) (fun g => ?_)
    · obtain ⟨y, hy⟩ := get_lt (l := x.list) (i := i) (by omega)
      obtain ⟨b1, o, c, q1, q2, q3⟩ := h.list.at (P := Try.prog) (k := .i64) hmB Try.underlying33 sz38 ag38 hy
      rw [eSl_W] at q3
      have q4 := cnv_text (P := Try.prog) (s := 38) (d := 9) (by decide) q3 hmB Try.underlying38 Try.underlying5 Try.underlying9
      have hs := lens_succ hy
      have := lens_take_le x.list (i + 1)
      have := hok.size
      have ld8 : evLoad Try.prog 9 (.ptr b 8) B = some (.str ((x.list.take i).flatMap runB)) := by rw [load_at ag9 row]; rfl
      simp only [RS, xs_some, Option.bind_some, Option.map_some, if_true, if_false, decide_true, decide_false, true_and, and_true, Bool.not_true, Bool.not_false, Bool.false_eq_true, not_false_eq_true, not_true_eq_false, Nat.reduceLT, Nat.reduceBEq, Nat.reduceEqDiff, Nat.reduceAdd, Int.reduceEq, Int.reduceLT, Int.reduceLE, Int.reduceGT, Int.reduceGE, beq_self_eq_true, List.getElem?_toArray, List.getElem?_cons_zero, List.getElem?_cons_succ, List.append_nil, List.nil_append, List.cons_append, List.append_eq]
      simp only [RS, xs_some, Option.bind_some, Option.map_some, if_true, if_false, decide_true, decide_false, true_and, and_true, Bool.not_true, Bool.not_false, Bool.false_eq_true, not_false_eq_true, not_true_eq_false, Nat.reduceLT, Nat.reduceBEq, Nat.reduceEqDiff, Nat.reduceAdd, Int.reduceEq, Int.reduceLT, Int.reduceLE, Int.reduceGT, Int.reduceGE, beq_self_eq_true, List.getElem?_toArray, List.getElem?_cons_zero, List.getElem?_cons_succ, List.append_nil, List.nil_append, List.cons_append, List.append_eq, pl_59_11, h5, h3, h1, ad8, ld8, fa, ld, q1, q2, q4, rc_nil]
      obtain ⟨_, B1, k1, rfl, k2⟩ := refRun_spec (A := B) (b := y) (by omega)
      refine run_call1 k1 ?_
      have ld8' : evLoad Try.prog 9 (.ptr b 8) B1 = some (.str ((x.list.take i).flatMap runB)) := by rw [load_at ag9 (k2.row0 row)]; rfl
      have hfi := hfl i
      have hrl := runB_len y
      have hadd : evBin Try.prog .add 9 (.str ((x.list.take i).flatMap runB)) (.str (runB y)) = some (.str ((x.list.take i).flatMap runB ++ runB y)) := str_add (by omega)
      obtain ⟨B2, s1, s2, s3, s4, s5⟩ := store_sole (P := Try.prog) (t := 9) (o := 8) (x := .str ((x.list.take i).flatMap runB ++ runB y)) (sole.fr k2 fun q => q) (k2.row0 row) rfl sz9 (by simp [rowS]) rfl
      simp only [RS, xs_some, Option.bind_some, Option.map_some, if_true, if_false, decide_true, decide_false, true_and, and_true, Bool.not_true, Bool.not_false, Bool.false_eq_true, not_false_eq_true, not_true_eq_false, Nat.reduceLT, Nat.reduceBEq, Nat.reduceEqDiff, Nat.reduceAdd, Int.reduceEq, Int.reduceLT, Int.reduceLE, Int.reduceGT, Int.reduceGE, beq_self_eq_true, List.getElem?_toArray, List.getElem?_cons_zero, List.getElem?_cons_succ, List.append_nil, List.nil_append, List.cons_append, List.append_eq, rc_nil]
      refine ⟨rc_load (ha := rfl) rfl ld8' rfl rc_nil, ?_⟩
      simp only [RS, xs_some, Option.bind_some, Option.map_some, if_true, if_false, decide_true, decide_false, true_and, and_true, Bool.not_true, Bool.not_false, Bool.false_eq_true, not_false_eq_true, not_true_eq_false, Nat.reduceLT, Nat.reduceBEq, Nat.reduceEqDiff, Nat.reduceAdd, Int.reduceEq, Int.reduceLT, Int.reduceLE, Int.reduceGT, Int.reduceGE, beq_self_eq_true, List.getElem?_toArray, List.getElem?_cons_zero, List.getElem?_cons_succ, List.append_nil, List.nil_append, List.cons_append, List.append_eq, hadd, ad8, h3, h5, s1, rc_nil]
      refine ⟨x.list.length - (i + 1), by omega, h1, (fB.then0 k2).row_ s2 (by omega), (hmB.fr0 k2).row s2 hbm, keep s2 (k2.row0 rB), s5, i + 1, rfl, by omega, by rw [wrapS (by have := hok.list; omega)], ?_⟩
      rw [flatMap_succ hy]; exact s3
    · simp only [RS, xs_some, Option.bind_some, Option.map_some, if_true, if_false, decide_true, decide_false, true_and, and_true, Bool.not_true, Bool.not_false, Bool.false_eq_true, not_false_eq_true, not_true_eq_false, Nat.reduceLT, Nat.reduceBEq, Nat.reduceEqDiff, Nat.reduceAdd, Int.reduceEq, Int.reduceLT, Int.reduceLE, Int.reduceGT, Int.reduceGE, beq_self_eq_true, List.getElem?_toArray, List.getElem?_cons_zero, List.getElem?_cons_succ, List.append_nil, List.nil_append, List.cons_append, List.append_eq]
      rw [List.take_of_length_le (by omega)] at row
      exact ⟨rfl, h3, fB, row⟩
  rintro z e B hz ⟨rfl, h3, fB, row⟩
  simp only [RS, xs_some, Option.bind_some, Option.map_some, if_true, if_false, decide_true, decide_false, true_and, and_true, Bool.not_true, Bool.not_false, Bool.false_eq_true, not_false_eq_true, not_true_eq_false, Nat.reduceLT, Nat.reduceBEq, Nat.reduceEqDiff, Nat.reduceAdd, Int.reduceEq, Int.reduceLT, Int.reduceLE, Int.reduceGT, Int.reduceGE, beq_self_eq_true, List.getElem?_toArray, List.getElem?_cons_zero, List.getElem?_cons_succ, List.append_nil, List.nil_append, List.cons_append, List.append_eq, h3]
  exact ⟨fB, b, b, 0, rfl, by rw [← rowS_done]; exact row⟩
end Go.Sv.Try
namespace Go.Sv.Try
open Go Go.Proofs
set_option linter.unusedVariables false
set_option linter.unusedSimpArgs false
theorem fieldsB_succ {l : List Bts} {i : Nat} {b : Bts} (h : l[i]? = some b) (hb : b ≠ []) : (optAll 1 (l.take (i + 1))).flatMap fieldB = (optAll 1 (l.take i)).flatMap fieldB ++ (UInt8.ofNat (i + 1) :: runB b) := by
  rw [opt_succ h, opt1, if_neg hb, List.flatMap_append, List.flatMap_cons, List.flatMap_nil, List.append_nil, Nat.add_comm]; rfl
theorem fieldsB_same {l : List Bts} {i : Nat} (h : l[i]? = some []) : (optAll 1 (l.take (i + 1))).flatMap fieldB = (optAll 1 (l.take i)).flatMap fieldB := by
  rw [opt_succ h, opt1, if_pos rfl, List.append_nil]
theorem fieldsB_len : ∀ (l : List Bts) (t : Nat), (∀ b ∈ l, b.length ≤ 200000) → ((optAll t l).flatMap fieldB).length ≤ l.length * 200010
  | [], t, _ => by simp [optAll]
  | b :: l, t, hl => by
    have h1 := fieldsB_len l (t + 1) (fun c hc => hl c (List.mem_cons_of_mem _ hc))
    have h2 := hl b (List.mem_cons_self)
    simp only [optAll, List.flatMap_append, List.length_append, List.length_cons, Nat.succ_mul, opt1]
    split
    · rw [List.flatMap_nil, List.length_nil]; omega
    · rw [List.flatMap_cons, List.flatMap_nil, List.append_nil]
      have : (fieldB (t, b)).length = b.length + 4 := by simp [fieldB, runB_len]
      omega
set_option maxRecDepth 10000 in
set_option maxHeartbeats 16000000 in
theorem refWrite_spec {m : Hp} {A : AS} {x : M} {dv iv lv : V} (hw : WF A) (hm : m.on A) (h : MsgIn m x dv iv lv) (hz : Sized x) :
    ∃ w A', EvF Try.prog HH 24 [.agg (mc x dv iv lv)] A w A' ∧ Fr S0 A A' ∧ w = .tup [.str (if checkM x = 0 then writeB x else []), .int .i64 (checkM x)] := by
  refine run_fn2 rfl Try.func24 (by unfold Try.f24; rfl) Try.ntmps24 (by unfold Try.f24; rfl) (by simp) ?_
  simp only [RS, xs_some, Option.bind_some, Option.map_some, if_true, if_false, decide_true, decide_false, true_and, and_true, Bool.not_true, Bool.not_false, Bool.false_eq_true, not_false_eq_true, not_true_eq_false, Nat.reduceLT, Nat.reduceBEq, Nat.reduceEqDiff, Nat.reduceAdd, Int.reduceEq, Int.reduceLT, Int.reduceLE, Int.reduceGT, Int.reduceGE, beq_self_eq_true, List.getElem?_toArray, List.getElem?_cons_zero, List.getElem?_cons_succ, List.append_nil, List.nil_append, List.cons_append, List.append_eq]
  obtain ⟨A1, e1, f1, r1, n1⟩ := new_var A (mc x dv iv lv)
  rw [← e1]
  have ld := ldM r1 h.id
  simp only [RS, xs_some, Option.bind_some, Option.map_some, if_true, if_false, decide_true, decide_false, true_and, and_true, Bool.not_true, Bool.not_false, Bool.false_eq_true, not_false_eq_true, not_true_eq_false, Nat.reduceLT, Nat.reduceBEq, Nat.reduceEqDiff, Nat.reduceAdd, Int.reduceEq, Int.reduceLT, Int.reduceLE, Int.reduceGT, Int.reduceGE, beq_self_eq_true, List.getElem?_toArray, List.getElem?_cons_zero, List.getElem?_cons_succ, List.append_nil, List.nil_append, List.cons_append, List.append_eq, ld]
  obtain ⟨w, A2, k1, rfl, k2⟩ := refCheck_spec (hm.fr0 f1) h hz.ids hz.data hz.list hz.each
  refine run_call1 k1 ?_
  simp only [RS, xs_some, Option.bind_some, Option.map_some, if_true, if_false, decide_true, decide_false, true_and, and_true, Bool.not_true, Bool.not_false, Bool.false_eq_true, not_false_eq_true, not_true_eq_false, Nat.reduceLT, Nat.reduceBEq, Nat.reduceEqDiff, Nat.reduceAdd, Int.reduceEq, Int.reduceLT, Int.reduceLE, Int.reduceGT, Int.reduceGE, beq_self_eq_true, List.getElem?_toArray, List.getElem?_cons_zero, List.getElem?_cons_succ, List.append_nil, List.nil_append, List.cons_append, List.append_eq]
  refine condK_of (fun g => ?_) (fun g => ?_)
  · simp only [RS, xs_some, Option.bind_some, Option.map_some, if_true, if_false, decide_true, decide_false, true_and, and_true, Bool.not_true, Bool.not_false, Bool.false_eq_true, not_false_eq_true, not_true_eq_false, Nat.reduceLT, Nat.reduceBEq, Nat.reduceEqDiff, Nat.reduceAdd, Int.reduceEq, Int.reduceLT, Int.reduceLE, Int.reduceGT, Int.reduceGE, beq_self_eq_true, List.getElem?_toArray, List.getElem?_cons_zero, List.getElem?_cons_succ, List.append_nil, List.nil_append, List.cons_append, List.append_eq]
    exact ⟨f1.then0 k2, by rw [if_neg g]⟩
  have g0 : checkM x = 0 := by omega
  have hok := okM_of g0
  have hkind := hok.kind
  obtain ⟨kd, hkd⟩ := Int.eq_ofNat_of_zero_le (show 0 ≤ x.kind by omega)
  have f2 := f1.then0 k2
  have ld2 := ldM (k2.row0 r1) h.id
  have fa := faM A.blk.length
  have hcv : cnv Try.prog 38 9 (some (.sl A2.blk.length 0 1 1)) (A2.push ⟨[.int .u8 ((UInt8.ofNat kd).toNat : Int)], .arr A2.blk.length 0⟩) = some (.val (.str [UInt8.ofNat kd])) := cnv_row (l := [UInt8.ofNat kd]) (by decide) Try.underlying38 Try.underlying5 Try.underlying9 (push_row A2 _)
  have q1 := Fr.pushArr A2 [.int .u8 ((UInt8.ofNat kd).toNat : Int)]
  have ld3 := ldM (q1.row0 (k2.row0 r1)) h.id
  simp only [RS, xs_some, Option.bind_some, Option.map_some, if_true, if_false, decide_true, decide_false, true_and, and_true, Bool.not_true, Bool.not_false, Bool.false_eq_true, not_false_eq_true, not_true_eq_false, Nat.reduceLT, Nat.reduceBEq, Nat.reduceEqDiff, Nat.reduceAdd, Int.reduceEq, Int.reduceLT, Int.reduceLE, Int.reduceGT, Int.reduceGE, beq_self_eq_true, List.getElem?_toArray, List.getElem?_cons_zero, List.getElem?_cons_succ, List.append_nil, List.nil_append, List.cons_append, List.append_eq, fa, ld2, cnv8, hkd, u8wrap, bsl1, hcv, ld3]
  generalize A2.push ⟨[.int .u8 ((UInt8.ofNat kd).toNat : Int)], .arr A2.blk.length 0⟩ = A3 at *
  have f3 := f2.then0 q1
  obtain ⟨w, A4, p1, p2, b, fm, base, rfl, row⟩ := refParts9_spec (f3.wf hw) (hm.fr0 f3) h hok
  refine run_call1 p1 ?_
  simp only [RS, xs_some, Option.bind_some, Option.map_some, if_true, if_false, decide_true, decide_false, true_and, and_true, Bool.not_true, Bool.not_false, Bool.false_eq_true, not_false_eq_true, not_true_eq_false, Nat.reduceLT, Nat.reduceBEq, Nat.reduceEqDiff, Nat.reduceAdd, Int.reduceEq, Int.reduceLT, Int.reduceLE, Int.reduceGT, Int.reduceGE, beq_self_eq_true, List.getElem?_toArray, List.getElem?_cons_zero, List.getElem?_cons_succ, List.append_nil, List.nil_append, List.cons_append, List.append_eq]
  have hid32 := eId_len h.ids
  have hsz := P9_size hok h.id hid32
  have hwl : ∀ i, ((optAll 1 ((P9 x).take i)).flatMap fieldB).length ≤ 9 * 200010 := fun i => by
    have h1 := fieldsB_len ((P9 x).take i) 1 (fun b hb => hsz b (List.mem_of_mem_take hb))
    have h3 : (P9 x).length = 9 := rfl
    rw [List.length_take, h3] at h1
    exact Nat.le_trans h1 (Nat.mul_le_mul_right _ (Nat.min_le_right _ _))
  refine run_loop_j (fun n e B => Fr S0 A B ∧ B.blk[b]? = some ⟨(P9 x).map .str, .arr fm base⟩ ∧ ∃ i : Nat, n = 9 - i ∧ i ≤ 9 ∧ e.get 7 = .int .i64 i ∧ e.get 6 = .sl b 0 9 1 ∧ e.get 5 = .str (UInt8.ofNat kd :: (optAll 1 ((P9 x).take i)).flatMap fieldB))
    (fun z e B => Fr S0 A B ∧ Is z (.exit 0) ∧ e.get 5 = .str (writeB x))
    ?_ ?_ ?_
  · refine ⟨9, f3.then0 p2, row, 0, ?_⟩
    refine ⟨rfl, by omega, ?_⟩
    refine ⟨rfl, ?_⟩
    refine ⟨rfl, ?_⟩
    simp [optAll, Env.get]
  · clear row p1 p2
    rintro n e B ⟨hf, row, i, rfl, hi, h7, h6, h5⟩
    simp only [RS, xs_some, Option.bind_some, Option.map_some, if_true, if_false, decide_true, decide_false, true_and, and_true, Bool.not_true, Bool.not_false, Bool.false_eq_true, not_false_eq_true, not_true_eq_false, Nat.reduceLT, Nat.reduceBEq, Nat.reduceEqDiff, Nat.reduceAdd, Int.reduceEq, Int.reduceLT, Int.reduceLE, Int.reduceGT, Int.reduceGE, beq_self_eq_true, List.getElem?_toArray, List.getElem?_cons_zero, List.getElem?_cons_succ, List.append_nil, List.nil_append, List.cons_append, List.append_eq, h7]
    refine condK_of (fun g1 => ?_) (fun g1 => ?_)
    · obtain ⟨y, hy⟩ := get_lt (l := P9 x) (i := i) (by show i < 9; omega)
      have hyl := hsz y (List.mem_of_getElem? hy)
      have had : evIndexAddr Try.prog 82 (.sl b 0 9 1) (.int .i64 (i : Int)) = some (.ptr b i) := by
        have := sl_addr (P := Try.prog) (t := 82) (b := b) (o := 0) (n := 9) (k := .i64) (i := i) Try.underlying82 sz9 (by omega)
        simpa using this
      have hld : evLoad Try.prog 9 (.ptr b i) B = some (.str y) := by rw [load_at ag9 row, List.getElem?_map, hy]; rfl
      simp only [RS, xs_some, Option.bind_some, Option.map_some, if_true, if_false, decide_true, decide_false, true_and, and_true, Bool.not_true, Bool.not_false, Bool.false_eq_true, not_false_eq_true, not_true_eq_false, Nat.reduceLT, Nat.reduceBEq, Nat.reduceEqDiff, Nat.reduceAdd, Int.reduceEq, Int.reduceLT, Int.reduceLE, Int.reduceGT, Int.reduceGE, beq_self_eq_true, List.getElem?_toArray, List.getElem?_cons_zero, List.getElem?_cons_succ, List.append_nil, List.nil_append, List.cons_append, List.append_eq, h7, h6, had, hld]
      refine condK_of (fun g2 => ?_) (fun g2 => ?_)
      · have hcv : cnv Try.prog 38 9 (some (.sl B.blk.length 0 1 1)) (B.push ⟨[.int .u8 ((UInt8.ofNat (i + 1)).toNat : Int)], .arr B.blk.length 0⟩) = some (.val (.str [UInt8.ofNat (i + 1)])) := cnv_row (l := [UInt8.ofNat (i + 1)]) (by decide) Try.underlying38 Try.underlying5 Try.underlying9 (push_row B _)
        have qB := Fr.pushArr B [.int .u8 ((UInt8.ofNat (i + 1)).toNat : Int)]
        have hld' : evLoad Try.prog 9 (.ptr b i) (B.push ⟨[.int .u8 ((UInt8.ofNat (i + 1)).toNat : Int)], .arr B.blk.length 0⟩) = some (.str y) := by rw [load_at ag9 (qB.row0 row), List.getElem?_map, hy]; rfl
        have rowN := push_row B ⟨[V.int .u8 ((UInt8.ofNat (i + 1)).toNat : Int)], .arr B.blk.length 0⟩
        obtain ⟨_, B1, k1, rfl, k2⟩ := refRun_spec (A := B.push ⟨[.int .u8 ((UInt8.ofNat (i + 1)).toNat : Int)], .arr B.blk.length 0⟩) (b := y) (by omega)
        have hcv' : cnv Try.prog 38 9 (some (.sl B.blk.length 0 1 1)) B1 = some (.val (.str [UInt8.ofNat (i + 1)])) := cnv_row (l := [UInt8.ofNat (i + 1)]) (by decide) Try.underlying38 Try.underlying5 Try.underlying9 (k2.row0 rowN)
        have hadd1 : evBin Try.prog .add 9 (.str [UInt8.ofNat (i + 1)]) (.str (runB y)) = some (.str (UInt8.ofNat (i + 1) :: runB y)) := str_add (by rw [runB_len]; simp; omega)
        have hwi := hwl i
        have hadd2 : evBin Try.prog .add 9 (.str (UInt8.ofNat kd :: (optAll 1 ((P9 x).take i)).flatMap fieldB)) (.str (UInt8.ofNat (i + 1) :: runB y)) = some (.str (UInt8.ofNat kd :: ((optAll 1 ((P9 x).take i)).flatMap fieldB ++ UInt8.ofNat (i + 1) :: runB y))) := str_add (by
          rw [List.length_cons, List.length_cons, runB_len]; omega)
        have hw1 : IntKind.i64.wrap ((i : Int) + 1) = ((i + 1 : Nat) : Int) := wrapS (by omega)
        simp only [RS, xs_some, Option.bind_some, Option.map_some, if_true, if_false, decide_true, decide_false, true_and, and_true, Bool.not_true, Bool.not_false, Bool.false_eq_true, not_false_eq_true, not_true_eq_false, Nat.reduceLT, Nat.reduceBEq, Nat.reduceEqDiff, Nat.reduceAdd, Int.reduceEq, Int.reduceLT, Int.reduceLE, Int.reduceGT, Int.reduceGE, beq_self_eq_true, List.getElem?_toArray, List.getElem?_cons_zero, List.getElem?_cons_succ, List.append_nil, List.nil_append, List.cons_append, List.append_eq]
        simp only [RS, xs_some, Option.bind_some, Option.map_some, if_true, if_false, decide_true, decide_false, true_and, and_true, Bool.not_true, Bool.not_false, Bool.false_eq_true, not_false_eq_true, not_true_eq_false, Nat.reduceLT, Nat.reduceBEq, Nat.reduceEqDiff, Nat.reduceAdd, Int.reduceEq, Int.reduceLT, Int.reduceLE, Int.reduceGT, Int.reduceGE, beq_self_eq_true, List.getElem?_toArray, List.getElem?_cons_zero, List.getElem?_cons_succ, List.append_nil, List.nil_append, List.cons_append, List.append_eq, pl_24_10, h5, h7, h6, hw1, cnv8, u8wrap, bsl1, hcv, had, hld', rc_nil]
        refine run_call1 k1 ?_
        simp only [RS, xs_some, Option.bind_some, Option.map_some, if_true, if_false, decide_true, decide_false, true_and, and_true, Bool.not_true, Bool.not_false, Bool.false_eq_true, not_false_eq_true, not_true_eq_false, Nat.reduceLT, Nat.reduceBEq, Nat.reduceEqDiff, Nat.reduceAdd, Int.reduceEq, Int.reduceLT, Int.reduceLE, Int.reduceGT, Int.reduceGE, beq_self_eq_true, List.getElem?_toArray, List.getElem?_cons_zero, List.getElem?_cons_succ, List.append_nil, List.nil_append, List.cons_append, List.append_eq, rc_nil]
        refine ⟨rc_conv (ha := rfl) rfl hcv' rfl rc_nil, ?_⟩
        simp only [RS, xs_some, Option.bind_some, Option.map_some, if_true, if_false, decide_true, decide_false, true_and, and_true, Bool.not_true, Bool.not_false, Bool.false_eq_true, not_false_eq_true, not_true_eq_false, Nat.reduceLT, Nat.reduceBEq, Nat.reduceEqDiff, Nat.reduceAdd, Int.reduceEq, Int.reduceLT, Int.reduceLE, Int.reduceGT, Int.reduceGE, beq_self_eq_true, List.getElem?_toArray, List.getElem?_cons_zero, List.getElem?_cons_succ, List.append_nil, List.nil_append, List.cons_append, List.append_eq, hadd1, hadd2, h7, hw1, rc_nil]
        refine ⟨9 - (i + 1), by omega, (hf.then0 qB).then0 k2, k2.row0 (qB.row0 row), i + 1, rfl, by omega, rfl, h6, ?_⟩
        rw [fieldsB_succ hy g2]
      · simp only [RS, xs_some, Option.bind_some, Option.map_some, if_true, if_false, decide_true, decide_false, true_and, and_true, Bool.not_true, Bool.not_false, Bool.false_eq_true, not_false_eq_true, not_true_eq_false, Nat.reduceLT, Nat.reduceBEq, Nat.reduceEqDiff, Nat.reduceAdd, Int.reduceEq, Int.reduceLT, Int.reduceLE, Int.reduceGT, Int.reduceGE, beq_self_eq_true, List.getElem?_toArray, List.getElem?_cons_zero, List.getElem?_cons_succ, List.append_nil, List.nil_append, List.cons_append, List.append_eq, h7]
        have hy' : (P9 x)[i]? = some [] := by rw [hy]; simpa using g2
        exact ⟨9 - (i + 1), by omega, hf, row, i + 1, rfl, by omega, by rw [wrapS (by omega)], h6, by rw [fieldsB_same hy']; exact h5⟩
    · simp only [RS, xs_some, Option.bind_some, Option.map_some, if_true, if_false, decide_true, decide_false, true_and, and_true, Bool.not_true, Bool.not_false, Bool.false_eq_true, not_false_eq_true, not_true_eq_false, Nat.reduceLT, Nat.reduceBEq, Nat.reduceEqDiff, Nat.reduceAdd, Int.reduceEq, Int.reduceLT, Int.reduceLE, Int.reduceGT, Int.reduceGE, beq_self_eq_true, List.getElem?_toArray, List.getElem?_cons_zero, List.getElem?_cons_succ, List.append_nil, List.nil_append, List.cons_append, List.append_eq]
      have : i = 9 := by omega
      subst this
      refine ⟨hf, rfl, ?_⟩
      rw [h5, opt_all 9 (by simp [P9])]
      simp only [writeB, hkd, Int.toNat_natCast, fieldList]
  rintro z e B hz ⟨hf, rfl, h5⟩
  simp only [RS, xs_some, Option.bind_some, Option.map_some, if_true, if_false, decide_true, decide_false, true_and, and_true, Bool.not_true, Bool.not_false, Bool.false_eq_true, not_false_eq_true, not_true_eq_false, Nat.reduceLT, Nat.reduceBEq, Nat.reduceEqDiff, Nat.reduceAdd, Int.reduceEq, Int.reduceLT, Int.reduceLE, Int.reduceGT, Int.reduceGE, beq_self_eq_true, List.getElem?_toArray, List.getElem?_cons_zero, List.getElem?_cons_succ, List.append_nil, List.nil_append, List.cons_append, List.append_eq, h5]
  exact ⟨hf, by rw [g0]; simp⟩
end Go.Sv.Try
namespace Go.Sv.Try
open Go Go.Proofs
set_option linter.unusedVariables false
set_option linter.unusedSimpArgs false
theorem Reads.bytes (n : Nat) (hn : 0 < n) : Reads (eB n hn) (.arr n (.int .u8) 1) (fun _ => True) (fun _ => 1) := by
  intro A d cs h
  cases h with
  | @arr n sz e l vs hl hv hh =>
    obtain ⟨r, h1, h2⟩ := choose_list (R := fun i (d : Dat) (x : UInt8) => cs[i]? = some (.int .u8 x.toNat)) l 0 fun i d q => by
      obtain ⟨x, q1, _⟩ := Reads.u8 A d _ (hh i d q)
      refine ⟨x, ?_⟩
      have q1 : (cs.drop (i * 1)).take 1 = [.int .u8 x.toNat] := q1
      rw [Nat.mul_one, List.take_one, List.head?_drop] at q1
      rw [Nat.zero_add]
      cases hc : cs[i]? with
      | none => rw [hc] at q1; simp at q1
      | some c => rw [hc] at q1; simpa using q1
    refine ⟨r, ⟨ext_take (by rw [bc_len]; omega) fun i x hx => ?_, by omega⟩, trivial, by simp [Dat.bulk]⟩
    rw [bc_get] at hx
    cases hr : r[i]? with
    | none => rw [hr] at hx; simp at hx
    | some y =>
      rw [hr] at hx; simp at hx; subst hx
      have hi := (List.getElem?_eq_some_iff.1 hr).1
      have := h2 i l[i] y (List.getElem?_eq_getElem (by omega)) hr
      rwa [Nat.zero_add] at this
def shM : Sh := .struct [(.int .i64, 0, 1), (.int .i64, 1, 1), (.int .i64, 2, 1), (.int .i64, 3, 1), (.int .i64, 4, 1), (.int .i64, 5, 1), (.arr 32 (.int .u8) 1, 6, 32), (.sl (.int .u8) 1, 38, 1), (.sl (.arr 32 (.int .u8) 1) 32, 39, 1), (.sl (.sl (.int .u8) 1) 1, 40, 1)] 41
def bulkM (x : M) : Nat := x.data.length + x.ids.length + x.list.length + lens x.list
theorem lens_le_sum : ∀ l : List Bts, lens l ≤ sumOf (fun b => sumOf (fun _ => 1) b + 1) l
  | [] => by simp [lens, sumOf]
  | x :: l => by
    have := lens_le_sum l
    have h2 := length_le_sumOf (μ := fun _ : UInt8 => 1) (fun _ => Nat.le_refl _) x
    simp only [lens_cons, sumOf]; omega
theorem Reads.msg : Reads eMsg shM (fun x => Sized x ∧ ∀ n ∈ x.heads, IntIn .i64 n) bulkM := by
  intro A d cs hd
  unfold shM at hd
  cases hd with
  | @struct fs total l vs hl hv hh =>
    match l, hl with
    | [d0, d1, d2, d3, d4, d5, d6, d7, d8, d9], _ =>
      obtain ⟨n0, p0, q0, _⟩ := Reads.int .i64 A _ _ (hh 0 _ _ rfl rfl)
      obtain ⟨n1, p1, q1, _⟩ := Reads.int .i64 A _ _ (hh 1 _ _ rfl rfl)
      obtain ⟨n2, p2, q2, _⟩ := Reads.int .i64 A _ _ (hh 2 _ _ rfl rfl)
      obtain ⟨n3, p3, q3, _⟩ := Reads.int .i64 A _ _ (hh 3 _ _ rfl rfl)
      obtain ⟨n4, p4, q4, _⟩ := Reads.int .i64 A _ _ (hh 4 _ _ rfl rfl)
      obtain ⟨n5, p5, q5, _⟩ := Reads.int .i64 A _ _ (hh 5 _ _ rfl rfl)
      obtain ⟨id, ⟨p6, p6'⟩, _, _⟩ := Reads.bytes 32 (by decide) A _ _ (hh 6 _ _ rfl rfl)
      obtain ⟨data, ⟨dv, p7, p7'⟩, ⟨q7, _⟩, b7⟩ := Reads.u8.sl A _ _ (hh 7 _ _ rfl rfl)
      obtain ⟨ids, ⟨iv, p8, p8'⟩, ⟨q8, _⟩, b8⟩ := (Reads.bytes 32 (by decide)).sl A _ _ (hh 8 _ _ rfl rfl)
      obtain ⟨list, ⟨lv, p9, p9'⟩, ⟨q9, q9'⟩, b9⟩ := Reads.u8.sl.sl A _ _ (hh 9 _ _ rfl rfl)
      have e : cs = mc ⟨n0, n1, n2, n3, n4, n5, id, data, ids, list⟩ dv iv lv := by
        have step : ∀ a k, cs.drop a = (cs.drop a).take k ++ cs.drop (a + k) := fun a k => by
          conv => lhs; rw [← List.take_append_drop k (cs.drop a)]
          rw [List.drop_drop]
        have p0 : (cs.drop 0).take 1 = [.int .i64 n0] := p0
        have p1 : (cs.drop 1).take 1 = [.int .i64 n1] := p1
        have p2 : (cs.drop 2).take 1 = [.int .i64 n2] := p2
        have p3 : (cs.drop 3).take 1 = [.int .i64 n3] := p3
        have p4 : (cs.drop 4).take 1 = [.int .i64 n4] := p4
        have p5 : (cs.drop 5).take 1 = [.int .i64 n5] := p5
        have p6 : (cs.drop 6).take 32 = bc id := p6
        have p7 : (cs.drop 38).take 1 = [dv] := p7
        have p8 : (cs.drop 39).take 1 = [iv] := p8
        have p9 : (cs.drop 40).take 1 = [lv] := p9
        have e0 := step 0 1; have e1 := step 1 1; have e2 := step 2 1; have e3 := step 3 1; have e4 := step 4 1; have e5 := step 5 1
        have e6 := step 6 32; have e7 := step 38 1; have e8 := step 39 1; have e9 := step 40 1
        have e10 : cs.drop 41 = [] := List.drop_eq_nil_of_le (by omega)
        rw [p0] at e0; rw [p1] at e1; rw [p2] at e2; rw [p3] at e3; rw [p4] at e4; rw [p5] at e5; rw [p6] at e6; rw [p7] at e7; rw [p8] at e8; rw [p9] at e9
        rw [e10] at e9; rw [e9] at e8; rw [e8] at e7; rw [e7] at e6; rw [e6] at e5; rw [e5] at e4; rw [e4] at e3; rw [e3] at e2; rw [e2] at e1; rw [e1] at e0
        rw [List.drop_zero] at e0
        rw [e0]; rfl
      refine ⟨⟨n0, n1, n2, n3, n4, n5, id, data, ids, list⟩, ⟨dv, iv, lv, e, ⟨p6', p7', p8', p9'⟩⟩, ⟨⟨q8, q7, q9, fun b hb => (q9' b hb).1⟩, ?_⟩, ?_⟩
      · simp only [M.heads, List.mem_cons, List.mem_nil_iff, or_false, forall_eq_or_imp, forall_eq]
        exact ⟨q0, q1, q2, q3, q4, q5⟩
      · have h7 := length_le_sumOf (μ := fun _ : UInt8 => 1) (fun _ => Nat.le_refl _) data
        have h8 := length_le_sumOf (μ := fun _ : Bts => 1) (fun _ => Nat.le_refl _) ids
        have h9 := length_le_sumOf (μ := fun b : Bts => sumOf (fun _ => 1) b + 1) (fun _ => by omega) list
        have h10 := lens_le_sum list
        have h11 : list.length + lens list ≤ sumOf (fun b : Bts => sumOf (fun _ => 1) b + 1) list := by
          clear h9 h10 b9 q9 q9' p9' e
          induction list with
          | nil => simp [lens, sumOf]
          | cons b l ih =>
            have h2 := length_le_sumOf (μ := fun _ : UInt8 => 1) (fun _ => Nat.le_refl _) b
            simp only [lens_cons, sumOf, List.length_cons]; omega
        have b7 : sumOf (fun _ => 1) data + 1 ≤ d7.bulk := b7
        have b8 : sumOf (fun _ => 1) ids + 1 ≤ d8.bulk := b8
        have b9 : sumOf (fun b : Bts => sumOf (fun _ => 1) b + 1) list + 1 ≤ d9.bulk := b9
        simp only [bulkM, Dat.bulk, bulks]
        omega
end Go.Sv.Try
