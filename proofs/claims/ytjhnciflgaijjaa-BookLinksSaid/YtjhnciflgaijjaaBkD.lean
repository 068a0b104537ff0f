/- BookOnce: two books, and what was there before. -/
import Derived.Test.YtjhnciflgaijjaaBkC
set_option linter.unusedSimpArgs false
set_option linter.unusedVariables false
namespace Go.Sv.Try
open Go Go.Proofs
theorem At9 : ∀ {L : List Bts} {k : Int × Int} (n : Nat), lookL ((L.zipIdx n).map fun p => (nmOf p.1, p.2)) k = none -> ∀ x ∈ L, nmOf x ≠ k
 | [], k, n, h => fun x q => by cases q
 | y :: L, k, n, h => by
  have h : lookL ((nmOf y, n) :: (L.zipIdx (n + 1)).map fun p => (nmOf p.1, p.2)) k = none := h
  unfold lookL at h
  by_cases q : k = nmOf y
  . rw [if_pos q] at h; cases h
  . rw [if_neg q] at h
    intro x hx
    rcases List.mem_cons.1 hx with rfl | hx
    . exact fun z => q z.symm
    . exact At9 (n + 1) h x hx
theorem A83 {L : List Bts} {k : Int × Int} (h : lookL (mapOf L) k = none) : ∀ x ∈ L, nmOf x ≠ k := At9 0 h
def OnceN (L : List Bts) : Prop := (L.map nmOf).Nodup
theorem Bm1 {L : List Bts} {x : Bts} (h : OnceN L) : OnceN (addE L x) := by
 by_cases q : entC x = 0 /\ lookL (mapOf L) (nmOf x) = none /\ L.length < 1000
 . rw [At7 q.1 q.2.1 q.2.2]
   unfold OnceN
   rw [List.map_append, List.nodup_append]
   refine ⟨h, by simp, fun a ha b hb => ?_⟩
   obtain ⟨y, hy, rfl⟩ := List.mem_map.1 ha
   have hb : b = nmOf x := by simpa using hb
   subst hb
   exact A83 q.2.1 y hy
 . rw [Ao2 q]; exact h
theorem AR7 : ∀ {l L : List Bts}, OnceN L -> OnceN (l.foldl addE L)
 | [], L, h => h
 | x :: l, L, h => AR7 (l := l) (Bm1 h)
theorem Bw5 (L : List Bts) (x : Bts) : ∃ t, addE L x = L ++ t := by
 by_cases q : entC x = 0 /\ lookL (mapOf L) (nmOf x) = none /\ L.length < 1000
 . exact ⟨[x], At7 q.1 q.2.1 q.2.2⟩
 . exact ⟨[], by rw [Ao2 q, List.append_nil]⟩
theorem A41 : ∀ (l L : List Bts), ∃ t, l.foldl addE L = L ++ t
 | [], L => ⟨[], by simp⟩
 | x :: l, L => by
  obtain ⟨t, h⟩ := Bw5 L x
  obtain ⟨t', h'⟩ := A41 l (addE L x)
  exact ⟨t ++ t', by rw [List.foldl_cons, h', h, List.append_assoc]⟩
theorem A84 {L : List Bts} (h : OnceN L) (b : Bts) : OnceN (applyB L b) := AR7 h
theorem AR8 (L : List Bts) (b : Bts) : ∃ t, applyB L b = L ++ t := A41 _ L
noncomputable def hdOf (Hs : List HdP) (L : List Bts) : HdP := (((Hs.length + 1 : Nat) : Int), (L.length : Int), rootR (L.map leafH))
def bkF (fl ft fh : Option Nat) : Nat -> Prop := fun f => fl = some f ∨ ft = some f ∨ fh = some f
def bkZ (fl ft fh fo : Option Nat) : Nat -> Prop := fun f => bkF fl ft fh f ∨ fo = some f
structure TwoB (A B : AS) (p q : Nat × Nat × Nat) (L1 : List Bts) (H1 : List HdP) (L2 : List Bts) (H2 : List HdP) (bw : V) (T : List Bts) (fl ft fh fl' ft' fh' fo : Option Nat) : Prop where
 a : IsBk (bkZ fl' ft' fh' fo) B p.1 p.2.1 p.2.2 L1 H1 fl ft fh
 b : IsBk (bkZ fl ft fh fo) B q.1 q.2.1 q.2.2 L2 H2 fl' ft' fh'
 t : Lst eStr Hp.emp B bw T fo
 fr : Fr S0 A B
 d1 : ∀ f, bkF fl ft fh f -> ¬ bkF fl' ft' fh' f
 d2 : ∀ f, bkF fl ft fh f -> fo ≠ some f
 d3 : ∀ f, bkF fl' ft' fh' f -> fo ≠ some f
 l1 : ∀ f, bkF fl ft fh f -> A.blk.length <= f
 l2 : ∀ f, bkF fl' ft' fh' f -> A.blk.length <= f
 l3 : ∀ f, fo = some f -> A.blk.length <= f
 b1 : A.blk.length <= p.1 /\ A.blk.length <= p.2.1 /\ A.maps.length <= p.2.2
 b2 : A.blk.length <= q.1 /\ A.blk.length <= q.2.1 /\ A.maps.length <= q.2.2
 ne : p.1 ≠ q.1 /\ p.1 ≠ q.2.1 /\ p.2.1 ≠ q.1 /\ p.2.1 ≠ q.2.1 /\ p.2.2 ≠ q.2.2
section
variable {A B C : AS} {m : Hp} {Z : Nat -> Prop} {bp tp r : Nat} {M : List ((Int × Int) × Nat)} {N L L1 L2 T : List Bts} {Hs H1 H2 : List HdP} {fl ft fh fl' ft' fh' fo : Option Nat} {p q : Nat × Nat × Nat} {bw v : V}
theorem Bd6 {X : Nat -> Prop} (h : BkR Z B bp tp r M N L Hs fl ft fh) (hX : ∀ f, bkF fl ft fh f -> X f) : Tch X B (bkS B bp tp r fl ft fh) := by
 obtain ⟨⟨_, x1⟩, _, x2⟩ := h.box
 exact .or (.box x1) (.or (.box x2) (.or (fun b k y => by cases y) (.or (.famO fun f y => hX f (.inl y)) (.or (.famO fun f y => hX f (.inr (.inl y))) (.famO fun f y => hX f (.inr (.inr y)))))))
theorem AL7 {f1 : Option Nat} (h : ∀ f, f1 = some f -> fo ≠ some f) : Off fo B (inFamO B f1) := by
 cases f1 with
 | none => exact .s0
 | some g => exact .fam (h g rfl)
theorem Bw6 (h : BkR Z B bp tp r M N L Hs fl ft fh) (hX : ∀ f, bkF fl ft fh f -> fo ≠ some f) : Off fo B (bkS B bp tp r fl ft fh) := by
 obtain ⟨⟨_, x1⟩, _, x2⟩ := h.box
 exact .or (.box x1) (.or (.box x2) (.or (fun b y => by cases y) (.or (AL7 fun f y => hX f (.inl y)) (.or (AL7 fun f y => hX f (.inr (.inl y))) (AL7 fun f y => hX f (.inr (.inr y)))))))
theorem AY9 {b : Nat} {cs : List V} (hb : B.blk[b]? = some ⟨cs, .var⟩) (n1 : b ≠ bp) (n2 : b ≠ tp) : ¬ bkS B bp tp r fl ft fh (.row b) := by
 rintro (y | y | y | y | y | y)
 . cases y; exact n1 rfl
 . cases y; exact n2 rfl
 . cases y
 . exact Ac3 hb y
 . exact Ac3 hb y
 . exact Ac3 hb y
theorem Bw7 {k : Nat} (n : k ≠ r) : ¬ bkS B bp tp r fl ft fh (.map k) := by
 rintro (y | y | y | y | y | y)
 . cases y
 . cases y
 . cases y; exact n rfl
 . cases fl <;> exact y.elim
 . cases ft <;> exact y.elim
 . cases fh <;> exact y.elim
theorem TwoB.fr0 (h : TwoB A B p q L1 H1 L2 H2 bw T fl ft fh fl' ft' fh' fo) (hf : Fr S0 B C) : TwoB A C p q L1 H1 L2 H2 bw T fl ft fh fl' ft' fh' fo :=
 { h with a := h.a.fr0 hf, b := h.b.fr0 hf, t := h.t.fr0 hf, fr := h.fr.then0 hf }
theorem TwoB.app (h : TwoB A B p q L1 H1 L2 H2 bw T fl ft fh fl' ft' fh' fo) (hw : WF A) {b : Bts} (hm : m.on B) (hv : Slc eU8 m v b) (hb : b.length <= 1000000000000) (hH : H1.length <= 100000) :
 ∃ C fl2 ft2 fh2, EvF Try.prog HH 44 [.ptr p.1 0, v] B (.int .i64 (((applyB L1 b).length : Int) - L1.length)) C /\ TwoB A C p q (applyB L1 b) (H1 ++ [hdOf H1 (applyB L1 b)]) L2 H2 bw T fl2 ft2 fh2 fl' ft' fh' fo := by
 have hwB := h.fr.wf hw
 obtain ⟨_, _, y3, y4, y5⟩ := h.b.raw.lt
 have y6 := h.t.famLt
 have hlt : ∀ f, bkF fl' ft' fh' f -> f < B.blk.length := fun f y => by
  rcases y with y | y | y
  . exact y3 f y
  . exact y4 f y
  . exact y5 f y
 obtain ⟨_, C, k1, rfl, f1, fl2, ft2, fh2, k2, g1, g2, g3⟩ := Am0 hwB (fun f y => by
  rcases y with y | y
  . exact hlt f y
  . exact y6 f y) h.a hm hv hb hH
 have gg : ∀ f, bkF fl2 ft2 fh2 f -> bkF fl ft fh f ∨ B.blk.length <= f := fun f y => by
  rcases y with y | y | y
  . exact (g1.or y).imp .inl id
  . exact (g2.or y).imp (fun z => .inr (.inl z)) id
  . exact (g3.or y).imp (fun z => .inr (.inr z)) id
 obtain ⟨⟨_, x1⟩, _, x2⟩ := h.b.raw.box
 have hlA := h.fr.len
 refine ⟨C, fl2, ft2, fh2, k1, { a := k2, b := h.b.oth hwB f1 (AY9 x1 h.ne.1.symm h.ne.2.2.1.symm) (AY9 x2 h.ne.2.1.symm h.ne.2.2.2.1.symm) (Bw7 h.ne.2.2.2.2.symm) (Bd6 h.a.raw fun f y => .inl y) (fun f y z => ?_) (fun f y => ?_), t := h.t.fr f1 (Bw6 h.a.raw h.d2), fr := h.fr.trans f1 fun z y => .inr (AD1 hw h.fr h.b1.1 h.b1.2.1 h.b1.2.2 (fun f y => h.l1 f (.inl y)) (fun f y => h.l1 f (.inr (.inl y))) (fun f y => h.l1 f (.inr (.inr y))) z y), d1 := fun f y z => ?_, d2 := fun f y z => ?_, d3 := h.d3, l1 := fun f y => ?_, l2 := h.l2, l3 := h.l3, b1 := h.b1, b2 := h.b2, ne := h.ne }⟩
 . rcases z with z | z
   . exact h.d1 f z y
   . exact h.d3 f y z
 . rcases y with y | y
   . exact (gg f y).imp .inl id
   . exact .inl (.inr y)
 . rcases gg f y with w | w
   . exact h.d1 f w z
   . have := hlt f z; omega
 . rcases gg f y with w | w
   . exact h.d2 f w z
   . have := y6 f z; omega
 . rcases gg f y with w | w
   . exact h.l1 f w
   . omega
end
end Go.Sv.Try
namespace Go.Sv.Try
open Go Go.Proofs
section
variable {A B C : AS} {L1 L2 T : List Bts} {H1 H2 : List HdP} {fl ft fh fl' ft' fh' fo : Option Nat} {p q : Nat × Nat × Nat} {bw : V}
end
end Go.Sv.Try
