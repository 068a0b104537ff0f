/- Rounds in memory: a round, and a count beside it. -/
import Derived.Test.YtajbkniodcbcjaaRdC
namespace Go.Sv
set_option linter.unusedVariables false
end Go.Sv
namespace Go.Sv.Try
open Go Go.Proofs
set_option linter.unusedVariables false
set_option linter.unusedSimpArgs false
section
variable {A B C : AS} {rp cp : Nat} {r r' : Rd} {vb : Nat → Nat} {fk : Option Nat} {cp2 n : Nat} {vb2 : Nat → Nat} {v2 : Vt}
structure J2 (A B : AS) (rp cp : Nat) (vb : Nat → Nat) (r : Rd) (fk : Option Nat) (cp2 n : Nat) (vb2 : Nat → Nat) (v2 : Vt) : Prop where
  fr : Fr S0 A B
  gk : Gr A none fk
  rd : IsRd B rp r cp vb fk none
  nr : NewR A rp vb
  c2 : IsCnt B cp2 n v2 vb2
  n2 : A.blk.length ≤ cp2 ∧ ∀ j, j < 24 → A.blk.length ≤ vb2 j
  ne : ∀ i j, i < 24 → j < 24 → vb i ≠ vb2 j
  nf : ∀ j, j < 24 → fk ≠ some (vb2 j)
  nc : rp ≠ cp2
theorem J2.s0 (h : J2 A B rp cp vb r fk cp2 n vb2 v2) (hf : Fr S0 B C) : J2 A C rp cp vb r fk cp2 n vb2 v2 :=
  { h with fr := h.fr.then0 hf, rd := h.rd.fr0 hf, c2 := h.c2.fr0 hf }
theorem rdS_new (hw : WF A) (hf : Fr S0 A B) (hn : NewR A rp vb) (gk : Gr A none fk) {x : Loc} (q : rdS B rp vb fk none x) : x.newTo A := by
  rcases rdS_back (A := A) (B := B) (rp := rp) (vb := vb) (fk := none) (fa := none) hf gk (.inl rfl) hw (hf.wf hw) q with q | q
  · rcases q with rfl | ⟨j, hj, rfl⟩ | q | q
    · exact hn.1
    · exact hn.2 j hj
    · exact q.elim
    · exact q.elim
  · exact q
theorem frNew {S : Loc → Prop} (h : Fr S0 A B) (k : Fr S B C) (hs : ∀ x, S x → x.newTo A) : Fr S0 A C := h.trans k fun x q => .inr (hs x q)
theorem J2.give (hw : WF A) (h : J2 A B rp cp vb r fk cp2 n vb2 v2) {x : Rd × List Act} {w : V} (k : GRes B rp cp vb fk none C x w) :
    ∃ fk' fo, J2 A C rp cp vb x.1 fk' cp2 n vb2 v2 ∧ Lst eAct Hp.emp C w x.2 fo ∧ (∀ j, j < 24 → fo ≠ some (vb2 j)) ∧ KV rp B C ∧ ∀ (mr : Nat) (mo : MapO), B.maps[mr]? = some mo → C.maps[mr]? = some mo := by
  obtain ⟨fk', fo, k1, k2, k3, k4, k5, k6, k7⟩ := k
  have lt2 : ∀ j, j < 24 → vb2 j < B.blk.length := fun j hj => h.c2.lt hj
  have off : ∀ j, j < 24 → ¬ rdS B rp vb fk none (.row (vb2 j)) ∧ ¬ rdS B rp vb fk none (.fam (vb2 j)) := by
    intro j hj
    have hr := h.c2.row j hj
    constructor
    · rintro (q | ⟨i, hi, q⟩ | q | q)
      · injection q with q
        obtain ⟨_, _, b, _⟩ := h.rd.box
        rw [q, b] at hr; simp at hr
      · injection q with q; exact h.ne i j hi hj q.symm
      · cases hfk : fk with
        | none => rw [hfk] at q; exact q
        | some f =>
          rw [hfk] at q
          obtain ⟨k, base, z1, z2⟩ := q
          rw [hr] at z1; cases z1; cases z2
          exact h.nf j hj hfk
      · exact q
    · rintro (q | ⟨i, hi, q⟩ | q | q)
      · cases q
      · cases q
      · cases hfk : fk with
        | none => rw [hfk] at q; exact q
        | some f =>
          rw [hfk] at q
          exact h.nf j hj (by rw [hfk]; exact congrArg some (show f = vb2 j from (show vb2 j = f from q).symm))
      · exact q
  refine ⟨fk', fo, { fr := frNew h.fr k1 fun x q => rdS_new hw h.fr h.nr h.gk q, gk := h.gk.trans k2 h.fr.len, rd := k4, nr := h.nr, c2 := ?_, n2 := h.n2, ne := h.ne, nf := ?_, nc := h.nc }, k5, ?_, h.rd.keeps k1, fun mr mo q => k1.map mr mo q ?_⟩
  · refine h.c2.fr k1 ?_ off
    rintro (q | ⟨j, hj, q⟩ | q | q)
    · injection q with q; exact h.nc q.symm
    · injection q with q; exact h.rd.cnt.nevar hj h.c2.box q.symm
    · exact inFamO_var h.c2.box q
    · exact q
  · intro j hj q
    rcases k2.or q with y | y
    · exact h.nf j hj y
    · have := lt2 j hj; omega
  · intro j hj q
    rcases k3.or q with y | y
    · cases y
    · have := lt2 j hj; omega
  · rintro (q | ⟨i, hi, q⟩ | q | q)
    · cases q
    · cases q
    · cases hfk : fk with
      | none => rw [hfk] at q; exact q
      | some f => rw [hfk] at q; exact q
    · exact q
theorem offVb {E : Enc Act} {fo : Option Nat} (h : IsCnt B cp2 n v2 vb2) (hfo : ∀ j, j < 24 → fo ≠ some (vb2 j)) : Off fo B (vbS vb2) := by
  intro b q f k base hf hk
  obtain ⟨j, hj, q⟩ := q
  injection q with q; subst q
  rw [h.row j hj] at hk; cases hk
  intro z
  injection z with z1 z2
  exact hfo j hj (by rw [hf, z1])
theorem offVb' {fo : Option Nat} (h : IsCnt B cp2 n v2 vb2) (hfo : ∀ j, j < 24 → fo ≠ some (vb2 j)) : Off fo B (vbS vb2) := offVb (E := eAct) h hfo
theorem J2.put (h : J2 A B rp cp vb r fk cp2 n vb2 v2) {v' : Vt} (hf : Fr (vbS vb2) B C) (hc : IsCnt C cp2 n v' vb2) : J2 A C rp cp vb r fk cp2 n vb2 v' := by
  refine { h with fr := frNew h.fr hf ?_, rd := h.rd.fr hf ?_ ?_ ?_ ?_ ?_, c2 := hc }
  · rintro x ⟨j, hj, rfl⟩; exact h.n2.2 j hj
  · rintro ⟨j, hj, q⟩
    obtain ⟨_, _, b, _⟩ := h.rd.box
    injection q with q; exact h.c2.nevar hj b q.symm
  · rintro ⟨j, hj, q⟩
    injection q with q; exact h.c2.nevar hj h.rd.cnt.box q.symm
  · refine fun i hi => ⟨?_, ?_⟩
    · rintro ⟨j, hj, q⟩; injection q with q; exact h.ne i j hi hj q
    · rintro ⟨j, hj, q⟩; cases q
  · exact offVb' h.c2 h.nf
  · exact offVb' h.c2 fun j hj q => by cases q
theorem J2.var (h : J2 A B rp cp vb r fk cp2 n vb2 v2) {b : Nat} {cs : List V} (hb : B.blk[b]? = some ⟨cs, .var⟩) (h1 : b ≠ rp) (h2 : b ≠ cp) (h3 : b ≠ cp2) (h4 : A.blk.length ≤ b) (hf : Fr (· = .row b) B C) : J2 A C rp cp vb r fk cp2 n vb2 v2 := by
  refine { h with fr := h.fr.row_ hf h4, rd := h.rd.fr hf ?_ ?_ ?_ ?_ ?_, c2 := h.c2.fr hf ?_ ?_ }
  · intro q; injection q with q; exact h1 q.symm
  · intro q; injection q with q; exact h2 q.symm
  · exact fun j hj => ⟨fun q => by injection q with q; exact h.rd.cnt.nevar hj hb q, fun q => by cases q⟩
  · exact .box hb
  · exact .box hb
  · intro q; injection q with q; exact h3 q.symm
  · exact fun j hj => ⟨fun q => by injection q with q; exact h.c2.nevar hj hb q, fun q => by cases q⟩
theorem J2.map (h : J2 A B rp cp vb r fk cp2 n vb2 v2) {mr : Nat} (h4 : A.maps.length ≤ mr) (hf : Fr (· = .map mr) B C) : J2 A C rp cp vb r fk cp2 n vb2 v2 := by
  refine { h with fr := frNew h.fr hf (fun x q => by subst q; exact h4), rd := h.rd.fr hf ?_ ?_ ?_ ?_ ?_, c2 := h.c2.fr hf ?_ ?_ }
  · intro q; cases q
  · intro q; cases q
  · exact fun j hj => ⟨fun q => (by cases q), fun q => (by cases q)⟩
  · intro b q; cases q
  · intro b q; cases q
  · intro q; cases q
  · exact fun j hj => ⟨fun q => (by cases q), fun q => (by cases q)⟩
theorem J2.new {A2 : AS} (hA : Fr S0 A A2) (hR : IsRd A2 rp r cp vb none none) (hN : NewR A rp vb) (f : Fr S0 A2 B) (hc : IsCnt B cp2 n v2 vb2) (hcp : A2.blk.length ≤ cp2) (hvb : ∀ j, j < 24 → A2.blk.length ≤ vb2 j) : J2 A B rp cp vb r none cp2 n vb2 v2 := by
  have hl := hA.len
  refine { fr := hA.then0 f, gk := .inl rfl, rd := hR.fr0 f, nr := hN, c2 := hc, n2 := ⟨by omega, fun j hj => by have := hvb j hj; omega⟩, ne := fun i j hi hj q => ?_, nf := fun j hj q => (by cases q), nc := fun q => ?_ }
  · have := hR.cnt.lt hi; have := hvb j hj; omega
  · obtain ⟨_, _, b, _⟩ := hR.box
    have := row_lt b; omega
end
end Go.Sv.Try
namespace Go.Sv
set_option linter.unusedVariables false
theorem ok_vote {n me : Nat} {known : List Bts} {s : Led} {a : Act} (h : s.ok n me known a) (k : a.kind = 2) : putC n s.v a.round a.num me a.id = 0 ∧ (a.id = n32 ∨ (a.num = 1 ∧ sureN n s.v a.round 0 = some a.id) ∨ (a.num = 0 ∧ s.lk.1 ≤ a.round ∧ (s.lk.1 = 0 ∨ s.lk.2 = a.id ∨ ∃ k : Int, s.lk.1 - 1 ≤ k ∧ k < a.round ∧ 0 ≤ k ∧ sureN n s.v k 0 = some a.id))) := by
  cases h with
  | send R val id _ _ _ _ => exact absurd k (by show ¬ ((1 : Int) = 2); omega)
  | tim R K _ _ _ _ _ _ => exact absurd k (by show ¬ ((3 : Int) = 2); omega)
  | done R id _ _ _ => exact absurd k (by show ¬ ((4 : Int) = 2); omega)
  | vote R K id hd c1 c2 c3 => exact ⟨c1, c3⟩
theorem after_kind2 {me : Nat} {s : Led} {a : Act} (k : a.kind = 2) : s.after me a = { s with v := setV s.v a.round.toNat a.num.toNat me a.id, top := a.round, lk := if a.num = 1 ∧ a.id ≠ n32 then (a.round + 1, a.id) else s.lk } := by
  unfold Led.after; rw [if_neg (by omega), if_pos k]
end Go.Sv
namespace Go.Sv.Try
open Go Go.Proofs
set_option linter.unusedVariables false
set_option linter.unusedSimpArgs false
section
variable {A B C : AS} {rp cp : Nat} {r r' : Rd} {vb : Nat → Nat} {fk : Option Nat} {cp2 n : Nat} {vb2 : Nat → Nat} {v2 : Vt}
end
end Go.Sv.Try
