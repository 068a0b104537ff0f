/- Messages as plain data, and how they are written. -/
import Derived.Test.YtnogkphkjkbbhaaSv4
import Derived.Test.YtnogkphkjkbbhaaSvBase
namespace Go.Sv
open Go
set_option linter.unusedVariables false
structure M where
  kind : Int
  who : Int
  height : Int
  round : Int
  valid : Int
  num : Int
  id : Bts
  data : Bts
  ids : List Bts
  list : List Bts
def M.heads (x : M) : List Int := [x.kind, x.who, x.height, x.round, x.valid, x.num]
def mc (x : M) (dv iv lv : V) : List V := .int .i64 x.kind :: .int .i64 x.who :: .int .i64 x.height :: .int .i64 x.round :: .int .i64 x.valid :: .int .i64 x.num :: (bc x.id ++ [dv, iv, lv])
theorem mc_len {x : M} {dv iv lv : V} (h : x.id.length = 32) : (mc x dv iv lv).length = 41 := by simp [mc, bc_len, h]
structure MsgIn (m : Hp) (x : M) (dv iv lv : V) : Prop where
  id : x.id.length = 32
  data : Slc eU8 m dv x.data
  ids : Slc eId m iv x.ids
  list : Slc (eSl eU8) m lv x.list
theorem MsgIn.mono {m m' : Hp} {x : M} {dv iv lv : V} (hm : m.le m') (h : MsgIn m x dv iv lv) : MsgIn m' x dv iv lv := ⟨h.id, h.data.mono hm, h.ids.mono hm, h.list.mono hm⟩
theorem one_int {k : IntKind} {n : Int} : V.one (.int k n) = true := rfl
theorem mc_one {m : Hp} {x : M} {dv iv lv : V} (h : MsgIn m x dv iv lv) : (mc x dv iv lv).all V.one = true := by
  simp only [mc, List.all_cons, List.all_append, bc_one, h.data.one, h.ids.one, h.list.one, one_int, List.all_nil, Bool.and_self]
def eMsg : Enc M := ⟨41, true, fun m cs x => ∃ dv iv lv, cs = mc x dv iv lv ∧ MsgIn m x dv iv lv, fun ⟨_, _, _, h, q⟩ => by rw [h, mc_len q.id], fun h => by simp at h, fun ⟨_, _, _, h, q⟩ => by rw [h]; exact mc_one q, fun hm ⟨a, b, c, h, q⟩ => ⟨a, b, c, h, q.mono hm⟩⟩
def lens (l : List Bts) : Nat := sumOf List.length l
def digits (n : Nat) : Bts := if h : n = 0 then [] else digits (n / 256) ++ [UInt8.ofNat n]
termination_by n
def runB (b : Bts) : Bts := UInt8.ofNat (b.length / 65536) :: UInt8.ofNat (b.length / 256) :: UInt8.ofNat b.length :: b
def zero32 : Bts := List.replicate 32 0
def P9 (x : M) : List Bts := [digits x.who.toNat, digits x.height.toNat, digits x.round.toNat, digits x.valid.toNat, digits x.num.toNat, if x.id = zero32 then [] else x.id, x.data, x.ids.flatten, x.list.flatMap runB]
def opt1 (t : Nat) (b : Bts) : List (Nat × Bts) := if b = [] then [] else [(t, b)]
def optAll : Nat → List Bts → List (Nat × Bts)
  | _, [] => []
  | t, b :: r => opt1 t b ++ optAll (t + 1) r
def fieldList (x : M) : List (Nat × Bts) := optAll 1 (P9 x)
theorem lens_cons (b : Bts) (l : List Bts) : lens (b :: l) = b.length + lens l := rfl
end Go.Sv
namespace Go.Sv.Try
open Go Go.Proofs
set_option linter.unusedVariables false
set_option linter.unusedSimpArgs false
end Go.Sv.Try
namespace Go.Sv.Try
open Go Go.Proofs
set_option linter.unusedVariables false
set_option linter.unusedSimpArgs false
end Go.Sv.Try
namespace Go.Sv.Try
open Go Go.Proofs
set_option linter.unusedVariables false
set_option linter.unusedSimpArgs false
def RJ (S : Loc → Prop) (A : AS) (lo bx : Nat) (J D : Nat → AS → Prop) (x : M) (j : Nat) (z : Ex) (e : Env) (B : AS) : Prop :=
  Fr S A B ∧ ((z = .normal ∧ e.get 0 = .yield lo ∧ e.get 1 = .ptr bx 0 ∧ J (optAll 1 ((P9 x).take j)).length B) ∨ (z = .ret ∧ ∃ i, i < (fieldList x).length ∧ D i B))
theorem RJ.ok {S : Loc → Prop} {A : AS} {lo bx : Nat} {J D : Nat → AS → Prop} {x : M} {j : Nat} {e : Env} {B : AS} (h1 : Fr S A B) (h2 : e.get 0 = .yield lo) (h3 : e.get 1 = .ptr bx 0) (h4 : J (optAll 1 ((P9 x).take j)).length B) : RJ S A lo bx J D x j .normal e B := ⟨h1, .inl ⟨rfl, h2, h3, h4⟩⟩
theorem RJ.stop {S : Loc → Prop} {A : AS} {lo bx : Nat} {J D : Nat → AS → Prop} {x : M} {j : Nat} {e : Env} {B : AS} (h1 : Fr S A B) (h2 : ∃ i, i < (fieldList x).length ∧ D i B) : RJ S A lo bx J D x j .ret e B := ⟨h1, .inr ⟨rfl, h2⟩⟩
end Go.Sv.Try
namespace Go.Sv.Try
open Go Go.Proofs
set_option linter.unusedVariables false
set_option linter.unusedSimpArgs false
structure Sized (x : M) : Prop where
  ids : x.ids.length ≤ 9223372036854775807
  data : x.data.length ≤ 9223372036854775807
  list : x.list.length ≤ 9223372036854775807
  each : ∀ b ∈ x.list, b.length ≤ 9223372036854775807
end Go.Sv.Try
namespace Go.Sv.Try
open Go Go.Proofs
set_option linter.unusedVariables false
set_option linter.unusedSimpArgs false
end Go.Sv.Try
namespace Go.Sv.Try
open Go Go.Proofs
set_option linter.unusedVariables false
set_option linter.unusedSimpArgs false
end Go.Sv.Try
namespace Go.Sv.Try
open Go Go.Proofs
set_option linter.unusedVariables false
set_option linter.unusedSimpArgs false
theorem Reads.bytes (n : Nat) (hn : 0 < n) : Reads (eB n hn) (.arr n (.int .u8) 1) (fun _ => True) (fun _ => 1) := by
  intro A d cs h
  cases h with
  | @arr n sz e l vs hl hv hh =>
    obtain ⟨r, h1, h2⟩ := choose_list (R := fun i (d : Dat) (x : UInt8) => cs[i]? = some (.int .u8 x.toNat)) l 0 fun i d q => by
      obtain ⟨x, q1, _⟩ := Reads.u8 A d _ (hh i d q)
      refine ⟨x, ?_⟩
      have q1 : (cs.drop (i * 1)).take 1 = [.int .u8 x.toNat] := q1
      rw [Nat.mul_one, List.take_one, List.head?_drop] at q1
      rw [Nat.zero_add]
      cases hc : cs[i]? with
      | none => rw [hc] at q1; simp at q1
      | some c => rw [hc] at q1; simpa using q1
    refine ⟨r, ⟨ext_take (by rw [bc_len]; omega) fun i x hx => ?_, by omega⟩, trivial, by simp [Dat.bulk]⟩
    rw [bc_get] at hx
    cases hr : r[i]? with
    | none => rw [hr] at hx; simp at hx
    | some y =>
      rw [hr] at hx; simp at hx; subst hx
      have hi := (List.getElem?_eq_some_iff.1 hr).1
      have := h2 i l[i] y (List.getElem?_eq_getElem (by omega)) hr
      rwa [Nat.zero_add] at this
def shM : Sh := .struct [(.int .i64, 0, 1), (.int .i64, 1, 1), (.int .i64, 2, 1), (.int .i64, 3, 1), (.int .i64, 4, 1), (.int .i64, 5, 1), (.arr 32 (.int .u8) 1, 6, 32), (.sl (.int .u8) 1, 38, 1), (.sl (.arr 32 (.int .u8) 1) 32, 39, 1), (.sl (.sl (.int .u8) 1) 1, 40, 1)] 41
def bulkM (x : M) : Nat := x.data.length + x.ids.length + x.list.length + lens x.list
theorem lens_le_sum : ∀ l : List Bts, lens l ≤ sumOf (fun b => sumOf (fun _ => 1) b + 1) l
  | [] => by simp [lens, sumOf]
  | x :: l => by
    have := lens_le_sum l
    have h2 := length_le_sumOf (μ := fun _ : UInt8 => 1) (fun _ => Nat.le_refl _) x
    simp only [lens_cons, sumOf]; omega
theorem Reads.msg : Reads eMsg shM (fun x => Sized x ∧ ∀ n ∈ x.heads, IntIn .i64 n) bulkM := by
  intro A d cs hd
  unfold shM at hd
  cases hd with
  | @struct fs total l vs hl hv hh =>
    match l, hl with
    | [d0, d1, d2, d3, d4, d5, d6, d7, d8, d9], _ =>
      obtain ⟨n0, p0, q0, _⟩ := Reads.int .i64 A _ _ (hh 0 _ _ rfl rfl)
      obtain ⟨n1, p1, q1, _⟩ := Reads.int .i64 A _ _ (hh 1 _ _ rfl rfl)
      obtain ⟨n2, p2, q2, _⟩ := Reads.int .i64 A _ _ (hh 2 _ _ rfl rfl)
      obtain ⟨n3, p3, q3, _⟩ := Reads.int .i64 A _ _ (hh 3 _ _ rfl rfl)
      obtain ⟨n4, p4, q4, _⟩ := Reads.int .i64 A _ _ (hh 4 _ _ rfl rfl)
      obtain ⟨n5, p5, q5, _⟩ := Reads.int .i64 A _ _ (hh 5 _ _ rfl rfl)
      obtain ⟨id, ⟨p6, p6'⟩, _, _⟩ := Reads.bytes 32 (by decide) A _ _ (hh 6 _ _ rfl rfl)
      obtain ⟨data, ⟨dv, p7, p7'⟩, ⟨q7, _⟩, b7⟩ := Reads.u8.sl A _ _ (hh 7 _ _ rfl rfl)
      obtain ⟨ids, ⟨iv, p8, p8'⟩, ⟨q8, _⟩, b8⟩ := (Reads.bytes 32 (by decide)).sl A _ _ (hh 8 _ _ rfl rfl)
      obtain ⟨list, ⟨lv, p9, p9'⟩, ⟨q9, q9'⟩, b9⟩ := Reads.u8.sl.sl A _ _ (hh 9 _ _ rfl rfl)
      have e : cs = mc ⟨n0, n1, n2, n3, n4, n5, id, data, ids, list⟩ dv iv lv := by
        have step : ∀ a k, cs.drop a = (cs.drop a).take k ++ cs.drop (a + k) := fun a k => by
          conv => lhs; rw [← List.take_append_drop k (cs.drop a)]
          rw [List.drop_drop]
        have p0 : (cs.drop 0).take 1 = [.int .i64 n0] := p0
        have p1 : (cs.drop 1).take 1 = [.int .i64 n1] := p1
        have p2 : (cs.drop 2).take 1 = [.int .i64 n2] := p2
        have p3 : (cs.drop 3).take 1 = [.int .i64 n3] := p3
        have p4 : (cs.drop 4).take 1 = [.int .i64 n4] := p4
        have p5 : (cs.drop 5).take 1 = [.int .i64 n5] := p5
        have p6 : (cs.drop 6).take 32 = bc id := p6
        have p7 : (cs.drop 38).take 1 = [dv] := p7
        have p8 : (cs.drop 39).take 1 = [iv] := p8
        have p9 : (cs.drop 40).take 1 = [lv] := p9
        have e0 := step 0 1; have e1 := step 1 1; have e2 := step 2 1; have e3 := step 3 1; have e4 := step 4 1; have e5 := step 5 1
        have e6 := step 6 32; have e7 := step 38 1; have e8 := step 39 1; have e9 := step 40 1
        have e10 : cs.drop 41 = [] := List.drop_eq_nil_of_le (by omega)
        rw [p0] at e0; rw [p1] at e1; rw [p2] at e2; rw [p3] at e3; rw [p4] at e4; rw [p5] at e5; rw [p6] at e6; rw [p7] at e7; rw [p8] at e8; rw [p9] at e9
        rw [e10] at e9; rw [e9] at e8; rw [e8] at e7; rw [e7] at e6; rw [e6] at e5; rw [e5] at e4; rw [e4] at e3; rw [e3] at e2; rw [e2] at e1; rw [e1] at e0
        rw [List.drop_zero] at e0
        rw [e0]; rfl
      refine ⟨⟨n0, n1, n2, n3, n4, n5, id, data, ids, list⟩, ⟨dv, iv, lv, e, ⟨p6', p7', p8', p9'⟩⟩, ⟨⟨q8, q7, q9, fun b hb => (q9' b hb).1⟩, ?_⟩, ?_⟩
      · simp only [M.heads, List.mem_cons, List.mem_nil_iff, or_false, forall_eq_or_imp, forall_eq]
        exact ⟨q0, q1, q2, q3, q4, q5⟩
      · have h7 := length_le_sumOf (μ := fun _ : UInt8 => 1) (fun _ => Nat.le_refl _) data
        have h8 := length_le_sumOf (μ := fun _ : Bts => 1) (fun _ => Nat.le_refl _) ids
        have h9 := length_le_sumOf (μ := fun b : Bts => sumOf (fun _ => 1) b + 1) (fun _ => by omega) list
        have h10 := lens_le_sum list
        have h11 : list.length + lens list ≤ sumOf (fun b : Bts => sumOf (fun _ => 1) b + 1) list := by
          clear h9 h10 b9 q9 q9' p9' e
          induction list with
          | nil => simp [lens, sumOf]
          | cons b l ih =>
            have h2 := length_le_sumOf (μ := fun _ : UInt8 => 1) (fun _ => Nat.le_refl _) b
            simp only [lens_cons, sumOf, List.length_cons]; omega
        have b7 : sumOf (fun _ => 1) data + 1 ≤ d7.bulk := b7
        have b8 : sumOf (fun _ => 1) ids + 1 ≤ d8.bulk := b8
        have b9 : sumOf (fun b : Bts => sumOf (fun _ => 1) b + 1) list + 1 ≤ d9.bulk := b9
        simp only [bulkM, Dat.bulk, bulks]
        omega
end Go.Sv.Try
