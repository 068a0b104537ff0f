/- AuditBook: two books, of which the one has some batches more; the longest list. -/
import Derived.Test.YtjhnciflgaijjaaBkD
import Derived.Test.YtjhnciflgaijjaaAuD
set_option linter.unusedSimpArgs false
set_option linter.unusedVariables false
namespace Go.Sv.Try
open Go Go.Proofs
def HdOk (L : List Bts) (Hs : List HdP) : Prop := ∀ h ∈ Hs, rightD L h /\ h.2.2.length = 32
theorem Ba4 {L : List Bts} {h : HdP} (t : List Bts) (q : rightD L h) : rightD (L ++ t) h := by
 obtain ⟨q1, q2, q3⟩ := q
 refine ⟨q1, by rw [List.length_append]; omega, ?_⟩
 rw [<- q3, List.map_append, List.take_append_of_le_length (by rw [List.length_map]; omega)]
theorem HdOk.app {L : List Bts} {Hs : List HdP} (h : HdOk L Hs) (t : List Bts) : HdOk (L ++ t) Hs := fun x q => ⟨Ba4 t (h x q).1, (h x q).2⟩
theorem HdOk.add {L : List Bts} {Hs : List HdP} (h : HdOk L Hs) : HdOk L (Hs ++ [hdOf Hs L]) := fun x q => by
 rcases List.mem_append.1 q with q | q
 . exact h x q
 . rw [List.mem_singleton.1 q]
   refine ⟨⟨by show (0 : Int) <= (L.length : Int); omega, by show (L.length : Int) <= _; omega, ?_⟩, Ad6 fun y hy => ?_⟩
   . show rootR ((L.map leafH).take (L.length : Int).toNat) = rootR (L.map leafH)
     rw [List.take_of_length_le (by rw [List.length_map]; omega)]
   . obtain ⟨b, _, rfl⟩ := List.mem_map.1 hy
     exact AC0 b
theorem HdOk.apply {L : List Bts} {Hs : List HdP} (h : HdOk L Hs) (x : Bts) : HdOk (applyB L x) (Hs ++ [hdOf Hs (applyB L x)]) := by
 obtain ⟨t, ht⟩ := AR8 L x
 rw [ht]
 exact (h.app t).add
section
variable {A B C : AS} {m : Hp}
set_option maxRecDepth 10000 in
def cells2 (k : Nat) (v w : V) : List V := if k = 0 then [v, w] else [w, v]
structure Wr (B0 B : AS) (b9 k : Nat) (v w : V) (l : List Bts) (fo : Option Nat) : Prop where
 fr : Fr (· = .row b9) B0 B
 bx : B.blk[b9]? = some ⟨cells2 k v w, .var⟩
 li : Lst (eSl eU8) (qHp (zOf fo) B) B v l fo
 lf : ∀ x, fo = some x -> B0.blk.length <= x
theorem Wr.fr0 {b9 k : Nat} {v w : V} {l : List Bts} {fo : Option Nat} (h : Wr A B b9 k v w l fo) (hf : Fr S0 B C) : Wr A C b9 k v w l fo :=
 ⟨h.fr.then0 hf, hf.row0 h.bx, (h.li.fr0 hf).mono (At2 hf), h.lf⟩
theorem BY7 {k : Nat} {v v' w : V} (hk : k < 2) : putAt (cells2 k v w) k [v'] = cells2 k v' w := by
 match k, hk with
 | 0, _ => rfl
 | 1, _ => rfl
theorem Wr.push {D : AS} {b9 k c N : Nat} {v w : V} {l : List Bts} {fo : Option Nat} {x : Bts} (hk : k < 2) (h : Wr A D b9 k v w l fo) (hw : WF A) (hf : Fr S0 D B) (hc : B.blk[c]? = some ⟨bc x, .arr N 0⟩) (hN : D.blk.length <= N) (hl : l.length <= 1000000) :
 ∃ v' C E fo', evAppend Try.prog 22 22 v (.sl B.blk.length 0 1 1) (B.push ⟨[.sl c 0 x.length 1], .arr B.blk.length 0⟩) = some (v', C) /\ evStore Try.prog 22 (.ptr b9 k) v' C = some E /\ Wr A E b9 k v' w (l ++ [x]) fo' := by
 have hB := h.fr0 hf
 have hwD := h.fr.wf hw
 have hwB := hB.fr.wf hw
 have hx : Slc eU8 (qHp (zOf fo) B) (.sl c 0 x.length 1) x := AP0 hc fun q => by have := h.li.famLt _ q; omega
 obtain ⟨v', C, fo', p1, p2, p3, p4⟩ := hB.li.push (P := Try.prog) (t := 22) (tx := 22) (n := 1) rfl BO2 Try.underlying22 hwB (y := x) (cs' := [.sl c 0 x.length 1]) ⟨_, rfl, hx⟩ (by omega) (by omega)
 have bC := p3.row _ _ hB.bx (Ac3 hB.bx)
 have hwC := p3.wf hwB
 obtain ⟨E, s1, s2, s3, s4⟩ := Ab7 (P := Try.prog) (t := 22) (o := k) (x := v') (cs := [v']) bC (one_cells p2.one) BO8 (by
  match k, hk with
  | 0, _ => show 0 + 1 <= 2; omega
  | 1, _ => show 1 + 1 <= 2; omega) (by simp [p2.one])
 refine ⟨v', C, E, fo', p1, s1, ⟨?_, ?_, (p2.fr s2 (.box bC)).mono (Hp.le_trans (An3 p3 (.famO fun f q => q) hwB fun f q => p4.or q) (An3 s2 (.box bC) hwC fun f q => .inl q)), fun f q => ?_⟩⟩
 . refine (hB.fr.trans p3 fun z q => ?_).trans s2 fun z q => .inl q
   rcases Ad9 hB.fr q with y | y
   . right
     cases fo with
     | none => exact y.elim
     | some f =>
      have := h.lf f rfl
      cases z with
      | row b => obtain ⟨k, base, z1, z2⟩ := y; have := hw b k _ base z1 z2; omega
      | fam g => show A.blk.length <= g; rw [show g = f from y]; exact this
      | map r => exact y.elim
      | loop r => exact y.elim
      | it r => exact y.elim
   . exact .inr y
 . rw [s3, BY7 hk]
 . rcases p4.or q with y | y
   . exact h.lf f y
   . have := hB.fr.len; omega
end
end Go.Sv.Try
