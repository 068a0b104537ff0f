/- Parts of writing messages: what they come to. -/
import Derived.Test.YtjhnciflgaijjaaSvBase
import Derived.Test.YtjhnciflgaijjaaAu0
namespace Go.Sv.Try
open Go Go.Proofs
set_option linter.unusedVariables false
set_option linter.unusedSimpArgs false
theorem bsl1 (a : Int) : bsl Try.prog 44 1 (some [(0, .int .u8 a)]) = some (.newSl [.int .u8 a] 1 1) := by kernel_rfl
end Go.Sv.Try
namespace Go.Sv.Try
open Go Go.Proofs
set_option linter.unusedVariables false
set_option linter.unusedSimpArgs false
end Go.Sv.Try
namespace Go.Sv.Try
open Go Go.Proofs
set_option linter.unusedVariables false
set_option linter.unusedSimpArgs false
def RJ (S : Loc → Prop) (A : AS) (lo bx : Nat) (J D : Nat → AS → Prop) (x : M) (j : Nat) (z : Ex) (e : Env) (B : AS) : Prop :=
  Fr S A B ∧ ((z = .normal ∧ e.get 0 = .yield lo ∧ e.get 1 = .ptr bx 0 ∧ J (optAll 1 ((P9 x).take j)).length B) ∨ (z = .ret ∧ ∃ i, i < (fieldList x).length ∧ D i B))
theorem RJ.ok {S : Loc → Prop} {A : AS} {lo bx : Nat} {J D : Nat → AS → Prop} {x : M} {j : Nat} {e : Env} {B : AS} (h1 : Fr S A B) (h2 : e.get 0 = .yield lo) (h3 : e.get 1 = .ptr bx 0) (h4 : J (optAll 1 ((P9 x).take j)).length B) : RJ S A lo bx J D x j .normal e B := ⟨h1, .inl ⟨rfl, h2, h3, h4⟩⟩
theorem RJ.stop {S : Loc → Prop} {A : AS} {lo bx : Nat} {J D : Nat → AS → Prop} {x : M} {j : Nat} {e : Env} {B : AS} (h1 : Fr S A B) (h2 : ∃ i, i < (fieldList x).length ∧ D i B) : RJ S A lo bx J D x j .ret e B := ⟨h1, .inr ⟨rfl, h2⟩⟩
end Go.Sv.Try
namespace Go.Sv.Try
open Go Go.Proofs
set_option linter.unusedVariables false
set_option linter.unusedSimpArgs false
end Go.Sv.Try
namespace Go.Sv.Try
open Go Go.Proofs
set_option linter.unusedVariables false
set_option linter.unusedSimpArgs false
end Go.Sv.Try
namespace Go.Sv.Try
open Go Go.Proofs
set_option linter.unusedVariables false
set_option linter.unusedSimpArgs false
end Go.Sv.Try
namespace Go.Sv.Try
open Go Go.Proofs
set_option linter.unusedVariables false
set_option linter.unusedSimpArgs false
theorem Reads.bytes (n : Nat) (hn : 0 < n) : Reads (eB n hn) (.arr n (.int .u8) 1) (fun _ => True) (fun _ => 1) := by
  intro A d cs h
  cases h with
  | @arr n sz e l vs hl hv hh =>
    obtain ⟨r, h1, h2⟩ := choose_list (R := fun i (d : Dat) (x : UInt8) => cs[i]? = some (.int .u8 x.toNat)) l 0 fun i d q => by
      obtain ⟨x, q1, _⟩ := Reads.u8 A d _ (hh i d q)
      refine ⟨x, ?_⟩
      have q1 : (cs.drop (i * 1)).take 1 = [.int .u8 x.toNat] := q1
      rw [Nat.mul_one, List.take_one, List.head?_drop] at q1
      rw [Nat.zero_add]
      cases hc : cs[i]? with
      | none => rw [hc] at q1; simp at q1
      | some c => rw [hc] at q1; simpa using q1
    refine ⟨r, ⟨ext_take (by rw [bc_len]; omega) fun i x hx => ?_, by omega⟩, trivial, by simp [Dat.bulk]⟩
    rw [bc_get] at hx
    cases hr : r[i]? with
    | none => rw [hr] at hx; simp at hx
    | some y =>
      rw [hr] at hx; simp at hx; subst hx
      have hi := (List.getElem?_eq_some_iff.1 hr).1
      have := h2 i l[i] y (List.getElem?_eq_getElem (by omega)) hr
      rwa [Nat.zero_add] at this
end Go.Sv.Try
namespace Go.Sv.Try
open Go Go.Proofs
set_option linter.unusedVariables false
set_option linter.unusedSimpArgs false
theorem byte_at {m : Hp} {A : AS} {v : V} {l : Bts} (h : Slc eU8 m v l) (hm : m.on A) {i : Nat} {x : UInt8} (hx : l[i]? = some x) : ∃ b o, evIndexAddr Try.prog 44 v (.int .i64 (i : Int)) = some (.ptr b o) ∧ evLoad Try.prog 5 (.ptr b o) A = some (.int .u8 x.toNat) := by
  obtain ⟨b, o, w, h1, h2, h3⟩ := h.at (P := Try.prog) (k := .i64) hm Try.underlying44 sz5 ag5 hx
  rw [eU8_W] at h3
  subst h3
  exact ⟨b, o, h1, h2⟩
end Go.Sv.Try
