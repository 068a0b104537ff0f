/- A book, with the document's beside it. -/
import Derived.Test.YtjhnciflgaijjaaBpA
set_option linter.unusedSimpArgs false
set_option linter.unusedVariables false
namespace Go.Sv.Try
open Go Go.Proofs
structure PlB (Z : Nat -> Prop) (A B : AS) (bp tp r b6 : Nat) (L : List Bts) (Hs : List HdP) (lv sv : V) (fl ft fh : Option Nat) : Prop where
 fr : Fr S0 A B
 bk : IsBk Z B bp tp r L Hs fl ft fh
 bx : B.blk[b6]? = some ⟨[lv, sv], .var⟩
 li : Slc eStr (qHp (bkX Z fl ft fh) B) lv L
 si : Slc (eInt .i64) (qHp (bkX Z fl ft fh) B) sv (sizesH Hs)
 n1 : b6 ≠ bp
 n2 : b6 ≠ tp
 lf : ∀ f, bkF fl ft fh f -> A.blk.length <= f
 l1 : A.blk.length <= bp
 l2 : A.blk.length <= tp
 l3 : A.maps.length <= r
 l4 : A.blk.length <= b6
 ok : HdOk L Hs
 nu : NumOk Hs
 on : OnceN L
section
variable {A B C : AS} {m : Hp} {Z : Nat -> Prop} {bp tp r b6 : Nat} {L : List Bts} {Hs : List HdP} {fl ft fh : Option Nat} {lv sv : V}
theorem PlB.fr0 (h : PlB Z A B bp tp r b6 L Hs lv sv fl ft fh) (hf : Fr S0 B C) : PlB Z A C bp tp r b6 L Hs lv sv fl ft fh :=
 { h with fr := h.fr.then0 hf, bk := h.bk.fr0 hf, bx := hf.row0 h.bx, li := h.li.mono (At2 hf), si := h.si.mono (At2 hf) }
theorem PlB.app (h : PlB Z A B bp tp r b6 L Hs lv sv fl ft fh) (hw : WF A) (hZ : ∀ f, Z f -> f < B.blk.length) (hd : ∀ f, bkF fl ft fh f -> ¬ Z f) (hm : m.on B) (h6 : m b6 = none) {v : V} {b : Bts} (hv : Slc eU8 m v b) (hb : b.length <= 1000000000) (hH : Hs.length <= 1000) :
 ∃ lv' sv' C D E fl' ft' fh', EvF Try.prog HH 49 [.agg [lv, sv], .str b] B (.agg [lv', sv']) C /\ Fr S0 B C /\ evStore Try.prog 99 (.ptr b6 0) (.agg [lv', sv']) C = some D /\ D.blk[b6]? = some ⟨[lv', sv'], .var⟩ /\
  (∀ X, evLen Try.prog 43 lv' X = some (.int .i64 (applyB L b).length)) /\ (∀ X, evLen Try.prog 52 sv' X = some (.int .i64 ((Hs.length + 1 : Nat) : Int))) /\
  EvF Try.prog HH 44 [.ptr bp 0, v] D (.int .i64 (((applyB L b).length : Int) - L.length)) E /\ Fr (fun z => z = .row b6 ∨ bkS B bp tp r fl ft fh z) B E /\
  PlB Z A E bp tp r b6 (applyB L b) (Hs ++ [hdOf Hs (applyB L b)]) lv' sv' fl' ft' fh' /\ ∀ f, bkF fl' ft' fh' f -> bkF fl ft fh f ∨ B.blk.length <= f := by
 have hwB := h.fr.wf hw
 obtain ⟨o1, o2, o3, o4, o5⟩ := h.bk.raw.lt
 have hlt : ∀ f, bkX Z fl ft fh f -> f < B.blk.length := fun f q => by
  rcases q with q | q | q | q
  . exact hZ f q
  . exact o3 f q
  . exact o4 f q
  . exact o5 f q
 have hln : (sizesH Hs).length = Hs.length := by unfold sizesH; rw [List.length_map]
 obtain ⟨_, C, k1, f1, lv', sv', g1, g2, rfl, q1, q2, q3, q4, q5, q6⟩ := AL8 hwB (Bv1 _ B) h.li h.si h.bk.ent h.bk.len (by omega) hb
 have wC := f1.wf hwB
 have bxC := f1.row0 h.bx
 obtain ⟨D, s1, s2, s3⟩ := BH3 bxC (v' := lv') (w' := sv') q1.one q2.one
 have wD := s2.wf wC
 have bkD : IsBk Z D bp tp r L Hs fl ft fh := ⟨(h.bk.raw.fr0 f1).row wC s2 bxC h.n1 h.n2, h.bk.ent, h.bk.len⟩
 have nb : ∀ {fo : Option Nat}, Off fo C (· = .row b6) := .box bxC
 have q1D := q1.fr s2 nb
 have q2D := q2.fr s2 nb
 have l1 := f1.len
 have l2 := s2.len
 obtain ⟨_, E, k2, rfl, f3, fl', ft', fh', kE, e1, e2, e3⟩ := Am0 wD (fun f q => by have := hZ f q; omega) bkD ((hm.fr0 f1).fr s2 fun c q => by cases q; exact h6) hv (by omega) (by omega)
 have tc := Bd6 (X := bkX Z fl ft fh) bkD.raw fun f q => .inr q
 have gr : ∀ f, bkF fl' ft' fh' f -> bkF fl ft fh f ∨ D.blk.length <= f := fun f q => by
  rcases q with q | q | q
  . exact (e1.or q).imp .inl id
  . exact (e2.or q).imp (fun z => .inr (.inl z)) id
  . exact (e3.or q).imp (fun z => .inr (.inr z)) id
 have hq := An3 (Y := bkX Z fl' ft' fh') f3 tc wD fun f q => by
  rcases q with q | q
  . exact .inl (.inl q)
  . exact (gr f q).imp .inr id
 have s1E := (q1D.slcQ (X := bkX Z fl ft fh) (fun _ _ q => by cases q) fun f z q => by have := q3 f z; have := hlt f q; omega).mono hq
 have s2E := (q2D.slcQ (X := bkX Z fl ft fh) (fun _ _ q => by cases q) fun f z q => by have := q4 f z; have := hlt f q; omega).mono hq
 have bxE := f3.row _ _ s3 (AY9 s3 h.n1 h.n2)
 have hsz : sizesH Hs ++ [((applyB L b).length : Int)] = sizesH (Hs ++ [hdOf Hs (applyB L b)]) := by unfold sizesH; rw [List.map_append]; rfl
 rw [hsz] at s2E
 have fBD : Fr (fun z => z = .row b6) B D := f1.after0 s2
 have lo1 : ∀ f, fl = some f -> A.blk.length <= f := fun f q => h.lf f (.inl q)
 have lo2 : ∀ f, ft = some f -> A.blk.length <= f := fun f q => h.lf f (.inr (.inl q))
 have lo3 : ∀ f, fh = some f -> A.blk.length <= f := fun f q => h.lf f (.inr (.inr q))
 have fAD : Fr S0 A D := h.fr.trans fBD fun z q => .inr (by subst q; exact h.l4)
 have hAB := h.fr.len
 have fBE : Fr (fun z => z = .row b6 ∨ bkS B bp tp r fl ft fh z) B E := (fBD.mono fun z q => .inl q).trans f3 fun z q => by
  rcases q with q | q | q | q | q | q
  . exact .inl (.inr (.inl q))
  . exact .inl (.inr (.inr (.inl q)))
  . exact .inl (.inr (.inr (.inr (.inl q))))
  . exact (Ad9 fBD q).imp (fun y => .inr (.inr (.inr (.inr (.inl y))))) id
  . exact (Ad9 fBD q).imp (fun y => .inr (.inr (.inr (.inr (.inr (.inl y)))))) id
  . exact (Ad9 fBD q).imp (fun y => .inr (.inr (.inr (.inr (.inr (.inr y)))))) id
 refine ⟨lv', sv', C, D, E, fl', ft', fh', k1, f1, s1, s3, fun X => q1.len (P := Try.prog) Try.underlying43 X, fun X => ?_, k2, fBE, { fr := ?_, bk := kE, bx := bxE, li := s1E, si := s2E, n1 := h.n1, n2 := h.n2, lf := fun f q => ?_, l1 := h.l1, l2 := h.l2, l3 := h.l3, l4 := h.l4, ok := h.ok.apply b, nu := h.nu.add, on := A84 h.on b }, fun f q => (gr f q).imp id fun z => by omega⟩
 . rw [q2.len (P := Try.prog) Try.underlying52 X, List.length_append, hln]; rfl
 . exact fAD.trans f3 fun z y => .inr (AD1 hw fAD h.l1 h.l2 h.l3 lo1 lo2 lo3 z y)
 . rcases gr f q with y | y
   . exact h.lf f y
   . omega
end
end Go.Sv.Try
