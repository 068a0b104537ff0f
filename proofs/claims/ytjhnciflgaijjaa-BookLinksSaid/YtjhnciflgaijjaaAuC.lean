/- Trees: the document's sum of leaves. -/
import Derived.Test.YtjhnciflgaijjaaAuB
import Derived.Test.YtjhnciflgaijjaaSv4
set_option linter.unusedSimpArgs false
set_option linter.unusedVariables false
open Nat renaming reduceLT → Q0, reduceBEq → Q1, reduceEqDiff → Q2, reduceAdd → Q3
open Int renaming reduceEq → Q4, reduceLT → Q5, reduceLE → Q6, reduceGT → Q7, reduceGE → Q8
namespace Go.Sv.Try
open Go Go.Proofs
section
variable {A : AS} {r : Nat} {k : BK}
def eI : Enc Bts := eB 32 (by decide)
theorem Bt8 {m : Hp} {w : V} {x : Bts} : eI.W m w x ↔ w = .agg (bc x) /\ x.length = 32 := BX8
theorem A76 {m : Hp} {v : V} {l : List Bts} (h : Slc eI m v l) : ∀ x ∈ l, x.length = 32 := by
 intro x hx
 rcases h with ⟨_, rfl⟩ | ⟨b, o, cs, _, _, _, h4⟩
 . cases hx
 . obtain ⟨i, hi⟩ := List.getElem?_of_mem hx
   exact (h4 i x hi).2
end
end Go.Sv.Try
namespace Go.Sv
open Go
theorem BO6 {n : Nat} (h : n < 9223372036854775808) : evBits .and .i64 (n : Int) 1 = some (.int .i64 ((n % 2 : Nat) : Int)) := by
 unfold evBits
 have e1 : (BitVec.ofInt IntKind.i64.bits (n : Int) &&& BitVec.ofInt IntKind.i64.bits 1).toNat = n % 2 := by
  show (BitVec.ofInt 64 (n : Int) &&& BitVec.ofNat 64 1).toNat = n % 2
  rw [BitVec.toNat_and, BitVec.ofInt_natCast, BitVec.toNat_ofNat, BitVec.toNat_ofNat, Nat.mod_eq_of_lt (show n < 2 ^ 64 by omega), show (1 : Nat) % 2 ^ 64 = 2 ^ 1 - 1 by rfl, Nat.and_two_pow_sub_one_eq_mod]
 simp only [e1]
 rw [Ac6 (by omega) (by omega)]
theorem Bl5 {a p : Nat} (hp : 0 < p) (h : a % (p * 2) = 0) : (a + p) / p / 2 = a / (p * 2) := by
 obtain ⟨t, rfl⟩ := Nat.dvd_of_mod_eq_zero h
 have e : p * 2 * t + p = p * (2 * t + 1) := by rw [Nat.mul_add, Nat.mul_one, Nat.mul_assoc]
 rw [e, Nat.mul_div_cancel_left _ hp, Nat.mul_div_cancel_left _ (by omega)]
 omega
end Go.Sv
namespace Go.Sv.Try
open Go Go.Proofs
section
variable {A B C : AS} {rp : Nat} {L : Peaks} {fo fo' : Option Nat} {m : Hp}
structure RgN (A : AS) (rp n : Nat) (L : Peaks) (fo : Option Nat) : Prop where
 ex : ∃ tv, A.blk[rp]? = some ⟨[.int .i64 (n : Int), tv], .var⟩ /\ Lst eI Hp.emp A tv (Pk.tops L) fo
 ok : Pk.ok L
 l32 : ∀ x ∈ Pk.cat L, x.length = 32
def IsRg (A : AS) (rp : Nat) (L : Peaks) (fo : Option Nat) : Prop := RgN A rp (Pk.cat L).length L fo
def rgS (rp : Nat) (A : AS) (fo : Option Nat) : Loc -> Prop := fun z => z = .row rp ∨ inFamO A fo z
theorem RgN.fr0 {n : Nat} (h : RgN A rp n L fo) (hf : Fr S0 A B) : RgN B rp n L fo := by
 obtain ⟨tv, h1, h2⟩ := h.ex
 exact { h with ex := ⟨tv, hf.row0 h1, h2.fr0 hf⟩ }
theorem RgN.row {n b : Nat} {cs : List V} (h : RgN A rp n L fo) (hf : Fr (· = .row b) A B) (hb : A.blk[b]? = some ⟨cs, .var⟩) (hne : rp ≠ b) : RgN B rp n L fo := by
 obtain ⟨tv, h1, h2⟩ := h.ex
 exact { h with ex := ⟨tv, hf.row _ _ h1 (fun q => by cases q; exact hne rfl), h2.fr hf (.box hb)⟩ }
theorem BX3 (b : Nat) : evFieldAddr Try.prog 166 (.ptr b 0) 0 = some (.ptr b 0) /\ evFieldAddr Try.prog 166 (.ptr b 0) 1 = some (.ptr b 1) := ⟨by kernel_rfl, by kernel_rfl⟩
theorem Ba3 {v1 v2 : V} {k : BK} (h : A.blk[rp]? = some ⟨[v1, v2], k⟩) : evLoad Try.prog 3 (.ptr rp 0) A = some v1 /\ evLoad Try.prog 36 (.ptr rp 1) A = some v2 :=
 ⟨by rw [Ab9 ag3 h]; rfl, by rw [Ab9 BY1 h]; rfl⟩
theorem Bt9 {n tv w : V} (h : A.blk[rp]? = some ⟨[n, tv], .var⟩) (hw : w.one = true) : ∃ A', evStore Try.prog 36 (.ptr rp 1) w A = some A' /\ Fr (· = .row rp) A A' /\ A'.blk[rp]? = some ⟨[n, w], .var⟩ := by
 obtain ⟨A', s1, s2, s3, s4⟩ := Ab7 (P := Try.prog) (t := 36) (o := 1) (x := w) (cs := [w]) h (one_cells hw) BV1 (by simp) (by simp [hw])
 exact ⟨A', s1, s2, s3⟩
theorem BF7 {n tv : V} {k : Int} (h : A.blk[rp]? = some ⟨[n, tv], .var⟩) : ∃ A', evStore Try.prog 3 (.ptr rp 0) (.int .i64 k) A = some A' /\ Fr (· = .row rp) A A' /\ A'.blk[rp]? = some ⟨[.int .i64 k, tv], .var⟩ := by
 obtain ⟨A', s1, s2, s3, s4⟩ := Ab7 (P := Try.prog) (t := 3) (o := 0) (x := .int .i64 k) (cs := [.int .i64 k]) h rfl sz3 (by simp) rfl
 exact ⟨A', s1, s2, s3⟩
theorem A77 {x : Bts} (h : x.length = 32) : bsl Try.prog 36 1 (some [(0, .agg (bc x))]) = some (.newSl (bc x) 1 32) := A25 Try.underlying36 As0 BX9 rfl (by rw [Aa5, h]) (by decide)
theorem Ak8 (L : Peaks) : (Pk.tops L).length = L.length := by simp [Pk.tops]
theorem A37 (L M : Peaks) : Pk.tops (L ++ M) = Pk.tops L ++ Pk.tops M := by simp [Pk.tops]
theorem RgN.top {n : Nat} (h : RgN A rp n L fo) : ∀ p ∈ L, (rootR p.2).length = 32 := fun p hp => Ad6 fun x hx => h.l32 x (List.mem_flatMap.2 ⟨p, hp, hx⟩)
theorem AR2 : ∀ {L : Peaks}, Pk.ok L -> L.length <= (Pk.cat L).length
 | [], _ => Nat.zero_le _
 | p :: L, h => by
  have := AR2 (L := L) ⟨fun q hq => h.1 q (by simp [hq]), (List.pairwise_cons.1 h.2).2⟩
  rw [Pk.cat_cons, List.length_append, h.1 p (by simp), List.length_cons]
  have : 0 < 2 ^ p.1 := Nat.pow_pos (by decide)
  omega
def Apart (m : Hp) (rp : Nat) (A : AS) (fo : Option Nat) : Prop := ∀ b, rgS rp A fo (.row b) -> m b = none
theorem Apart.on {fo : Option Nat} (h : Apart m rp A fo) (hm : m.on A) (hf : Fr (rgS rp A fo) A B) : m.on B := hm.fr hf h
set_option maxRecDepth 10000 in
set_option maxHeartbeats 32000000 in
theorem An9 {v : V} {ls : List Bts} (hw : WF A) (h : IsRg A rp L fo) (hm : m.on A) (hap : Apart m rp A fo) (hs : Slc eI m v ls) (hn : (Pk.cat L).length + ls.length <= 1000000000) :
 ∃ w A', EvF Try.prog HH 76 [.ptr rp 0, v] A w A' /\ w = .int .i64 0 /\ Fr (rgS rp A fo) A A' /\ ∃ L' fo', IsRg A' rp L' fo' /\ Pk.cat L' = Pk.cat L ++ ls /\ Gr A fo fo' := by
 have hlen := fun B => hs.len (P := Try.prog) Try.underlying36 B
 have h32 := A76 hs
 obtain ⟨tv, b1, b2⟩ := h.ex
 have fa := BX3 rp
 have hrp := Ac9 b1
 have back : ∀ {B : AS} {fo' : Option Nat} {z : Loc}, Fr (rgS rp A fo) A B -> Gr A fo fo' -> inFamO B fo' z -> rgS rp A fo z ∨ z.newTo A := fun q w y => (A27 hw q w y).imp .inr id
 refine Aa6 rfl Try.func76 (by unfold Try.f76; rfl) Try.ntmps76 (by unfold Try.f76; rfl) (by simp) ?_
 simp only [RT, Q0, Q1, Q2, Q3, Q4, Q5, Q6, Q7, Q8, hlen, fa, Ba3 b1, Ac6 (show -9223372036854775808 <= 1099511627776 - ((Pk.cat L).length : Int) by omega) (show 1099511627776 - ((Pk.cat L).length : Int) <= 9223372036854775807 by omega), decide_eq_false (show ¬ ((ls.length : Int) > 1099511627776 - ((Pk.cat L).length : Int)) by omega)]
 refine Aa2 (fun z e B => ∃ (i : Nat) (L' : Peaks) (fo' : Option Nat), z = ls.length - i /\ i <= ls.length /\ e.get 19 = .int .i64 i /\ e.get 0 = .ptr rp 0 /\ e.get 17 = v /\ e.get 18 = .int .i64 ls.length /\ Fr (rgS rp A fo) A B /\ IsRg B rp L' fo' /\ Pk.cat L' = Pk.cat L ++ ls.take i /\ Gr A fo fo')
  (fun z e B => Is z (.exit 0) /\ Fr (rgS rp A fo) A B /\ ∃ (L' : Peaks) (fo' : Option Nat), IsRg B rp L' fo' /\ Pk.cat L' = Pk.cat L ++ ls /\ Gr A fo fo')
  ⟨_, 0, L, fo, rfl, by omega, rfl, rfl, rfl, rfl, .refl _ _, h, by simp, .inl rfl⟩ ?_ ?_
 rotate_left
 . rintro z e B hz ⟨rfl, q1, q2⟩
   simp only [RT, Q0, Q1, Q2, Q3, Q4, Q5, Q6, Q7, Q8]
   exact ⟨q1, q2⟩
 clear b1 b2 h tv
 rintro z e B ⟨i, L1, fo1, rfl, hi, h19, h0, h17, h18, hf, h, hcat, hgr⟩
 simp only [RT, Q0, Q1, Q2, Q3, Q4, Q5, Q6, Q7, Q8, h18, h19]
 refine Aa1 (fun q1 => ?_) (fun q1 => ?_)
 rotate_left
 . have : i = ls.length := by omega
   subst this
   rw [List.take_length] at hcat
   simp only [RT, Q0, Q1, Q2, Q3, Q4, Q5, Q6, Q7, Q8]
   exact ⟨rfl, hf, L1, fo1, h, hcat, hgr⟩
 obtain ⟨x, hx⟩ := Ad0 (l := ls) (i := i) (by omega)
 have hx32 := h32 x (List.mem_of_getElem? hx)
 have hcl : (Pk.cat L1).length = (Pk.cat L).length + i := by rw [hcat, List.length_append, List.length_take]; omega
 obtain ⟨b, o, c, g3, g4, g5⟩ := hs.at (P := Try.prog) (k := .i64) (hap.on hm hf) Try.underlying36 As0 AW4 hx
 obtain ⟨rfl, _⟩ := Bt8.1 g5
 obtain ⟨B1, s1, s2, s3⟩ := BQ1 (A := B) x hx32
 obtain ⟨b6, hb6⟩ : ∃ b, b = B.blk.length := ⟨_, rfl⟩
 rw [<- hb6] at s1 s3
 obtain ⟨n, hnn⟩ : ∃ n, n = (Pk.cat L1).length := ⟨_, rfl⟩
 have hrg1 : RgN B1 rp n L1 fo1 := by rw [hnn]; exact h.fr0 s2
 obtain ⟨tv, b1, b2⟩ := hrg1.ex
 have hwi : IntKind.i64.wrap ((i : Int) + 1) = ((i + 1 : Nat) : Int) := by rw [Af3 (by omega)]
 have hlB := hf.len
 have hne6 : rp ≠ b6 := by omega
 have nb6 : (Loc.row b6).newTo A := by show A.blk.length <= b6; omega
 simp only [RT, Q0, Q1, Q2, Q3, Q4, Q5, Q6, Q7, Q8, h17, h19, g3, g4, Bc6, <- hb6, s1, h0, fa, Ba3 b1]
 refine Aa2 (fun z e C => ∃ (j : Nat) (M : Peaks) (cc : List Bts) (fo' : Option Nat), z = M.length /\ e.get 7 = .int .i64 (((Pk.cat M).length / 2 ^ j : Nat) : Int) /\ e.get 19 = .int .i64 i /\ e.get 0 = .ptr rp 0 /\ e.get 17 = v /\ e.get 18 = .int .i64 ls.length /\ e.get 6 = .ptr b6 0 /\ Fr (rgS rp A fo) A C /\ RgN C rp n M fo' /\ (∀ p ∈ M, j <= p.1) /\ cc.length = 2 ^ j /\ Pk.cat M ++ cc = Pk.cat L1 ++ [x] /\ (∀ y ∈ cc, y.length = 32) /\ C.blk[b6]? = some ⟨bc (rootR cc), .var⟩ /\ Gr A fo fo')
  (fun z e C => Is z (.exit 2) /\ ∃ (j : Nat) (M : Peaks) (cc : List Bts) (fo' : Option Nat), e.get 19 = .int .i64 i /\ e.get 0 = .ptr rp 0 /\ e.get 17 = v /\ e.get 18 = .int .i64 ls.length /\ e.get 6 = .ptr b6 0 /\ Fr (rgS rp A fo) A C /\ RgN C rp n M fo' /\ Pk.ok (M ++ [(j, cc)]) /\ Pk.cat M ++ cc = Pk.cat L1 ++ [x] /\ (∀ y ∈ cc, y.length = 32) /\ C.blk[b6]? = some ⟨bc (rootR cc), .var⟩ /\ Gr A fo fo')
  ⟨_, 0, L1, [x], fo1, rfl, by rw [Nat.pow_zero, Nat.div_one, <- hnn]; rfl, h19, h0, h17, h18, rfl, hf.then0 s2, hrg1, fun _ _ => Nat.zero_le _, rfl, rfl, fun y hy => by rw [List.mem_singleton.1 hy]; exact hx32, s3, hgr⟩ ?_ ?_
 . clear b1 b2 hrg1 g3 g4 s1 s3 h19 h0 h17 h18 hf
   rintro z e C ⟨j, M, cc, fo2, rfl, h7, h19, h0, h17, h18, h6, hfC, hC, hj, hcc, hcat2, hc32, hid, hg2⟩
   have hpj : 0 < 2 ^ j := Nat.pow_pos (by decide)
   obtain ⟨od1, od2⟩ := Pk.odd hC.ok hj
   have hMl : (Pk.cat M).length <= 1000000000 := by
    have := congrArg List.length hcat2
    simp only [List.length_append, List.length_singleton] at this
    omega
   have hq : (Pk.cat M).length / 2 ^ j <= (Pk.cat M).length := Nat.div_le_self _ _
   simp only [RT, Q0, Q1, Q2, Q3, Q4, Q5, Q6, Q7, Q8, h7, Az8, BO6 (n := (Pk.cat M).length / 2 ^ j) (by omega)]
   refine Aa1 (fun q2 => ?_) (fun q2 => ?_)
   rotate_left
   . simp only [RT, Q0, Q1, Q2, Q3, Q4, Q5, Q6, Q7, Q8]
     refine ⟨rfl, j, M, cc, fo2, h19, h0, h17, h18, h6, hfC, hC, Pk.push hC.ok hj hcc (fun w => ?_), hcat2, hc32, hid, hg2⟩
     have := od1.2 w
     omega
   obtain ⟨c', M', hM⟩ := od1.1 (by omega)
   have hok := hC.ok
   rw [hM] at hok
   obtain ⟨hok', hj', hc'⟩ := Pk.pop hok
   obtain ⟨tv, b1, b2⟩ := hC.ex
   have hc'32 : ∀ y ∈ c', y.length = 32 := fun y hy => hC.l32 y (by rw [hM, Pk.cat_app]; exact List.mem_append.2 (.inr (by simp [Pk.cat, hy])))
   have hr' : (rootR c').length = 32 := Ad6 hc'32
   have hr : (rootR cc).length = 32 := Ad6 hc32
   have htops : Pk.tops M = Pk.tops M' ++ [rootR c'] := by rw [hM, A37]; rfl
   have hml : M.length = M'.length + 1 := by rw [hM]; simp
   have hgm : M.length <= 1000000000 := Nat.le_trans (AR2 hC.ok) hMl
   have hlt : ∀ D, evLen Try.prog 36 tv D = some (.int .i64 (M.length : Int)) := fun D => by rw [b2.len (P := Try.prog) Try.underlying36 D, Ak8]
   have w1 : IntKind.i64.wrap ((M.length : Int) - 1) = ((M'.length : Nat) : Int) := by rw [Ac6 (by omega) (by omega)]; omega
   obtain ⟨bt, ot, ct, g3, g4, g5⟩ := b2.at (P := Try.prog) (k := .i64) (x := rootR c') (i := M'.length) (Hp.on_emp C) Try.underlying36 As0 AW4 (by rw [htops, List.getElem?_append_right (by rw [Ak8]; exact Nat.le_refl _), Ak8, Nat.sub_self]; rfl)
   obtain ⟨rfl, _⟩ := Bt8.1 g5
   obtain ⟨_, D, k1, f1, rfl⟩ := Ap1 (A := C) (hfC.wf hw) hr' hr
   rw [<- AH3 hc' hcc] at k1
   obtain ⟨E, t1, t2, t3⟩ := Bk0 (l' := rootR (c' ++ cc)) (f1.row0 hid) hr (by rw [AH3 hc' hcc]; exact Al9 _ _)
   have hCE : Fr (· = .row b6) C E := f1.after0 t2
   have b1E := hCE.row _ _ b1 (fun q => by cases q; exact hne6 rfl)
   have b2E := b2.fr hCE (.box hid)
   obtain ⟨w, u1, u2⟩ := b2E.toN (P := Try.prog) (t := 36) Try.underlying36 As0 (hi := M'.length) (by rw [Ak8]; omega) (kh := .i64) E
   have u2 : Lst eI Hp.emp E w (Pk.tops M') fo2 := by
    rw [htops, List.take_left' (Ak8 M')] at u2; exact u2
   obtain ⟨F, v1, v2, v3⟩ := Bt9 b1E u2.one
   have hAE : Fr (rgS rp A fo) A E := hfC.trans hCE fun y q => .inr (by subst q; exact nb6)
   have hAF : Fr (rgS rp A fo) A F := hAE.trans v2 fun y q => .inl (.inl q)
   have hF : RgN F rp n M' fo2 := ⟨⟨w, v3, u2.fr v2 (.box b1E)⟩, hok', fun y hy => hC.l32 y (by rw [hM, Pk.cat_app]; exact List.mem_append.2 (.inl hy))⟩
   have hidF := v2.row _ _ t3 (fun q => by cases q; exact hne6 rfl)
   have sh : evShift .shr .i64 (((Pk.cat M).length / 2 ^ j : Nat) : Int) 1 = some (.int .i64 (((Pk.cat M').length / 2 ^ (j + 1) : Nat) : Int)) := by
    have := At1 (k := .i64) ((Pk.cat M).length / 2 ^ j) 1 (by decide)
    have e : (Pk.cat M).length = (Pk.cat M').length + 2 ^ j := by rw [hM, Pk.cat_app, List.length_append]; simp [Pk.cat, hc']
    have hm0 := (Pk.odd hok' hj').2
    rw [Nat.pow_succ] at hm0
    rw [show (2 : Nat) ^ 1 = 2 by rfl, e, Bl5 hpj hm0, <- Nat.pow_succ, <- e] at this
    exact this
   simp only [RT, Q0, Q1, Q2, Q3, Q4, Q5, Q6, Q7, Q8, h0, fa, Ba3 b1, hlt, w1]
   rw [Bs3, Aa8 (by rfl)]
   simp only [RT, Q0, Q1, Q2, Q3, Q4, Q5, Q6, Q7, Q8, h0, fa, Ba3 b1, g3, g4, h6, ldI hid hr]
   refine Aa0 k1 ?_
   simp only [RT, Q0, Q1, Q2, Q3, Q4, Q5, Q6, Q7, Q8, h6, t1, h0, fa, Ba3 b1E, u1, v1, h7, Ar9, sh]
   have hcat3 : Pk.cat M' ++ (c' ++ cc) = Pk.cat L1 ++ [x] := by
    rw [<- hcat2, hM, Pk.cat_app, List.append_assoc]
    simp [Pk.cat]
   have hl2 : (c' ++ cc).length = 2 ^ (j + 1) := by rw [List.length_append, hc', hcc, Nat.pow_succ]; omega
   have hc2 : ∀ y ∈ c' ++ cc, y.length = 32 := fun y hy => (List.mem_append.1 hy).elim (hc'32 y) (hc32 y)
   refine ⟨M'.length, by omega, j + 1, M', c' ++ cc, fo2, rfl, ?_⟩
   and_intros <;> first | rfl | assumption
 . rintro z e C hz ⟨rfl, j, M, cc, fo2, h19, h0, h17, h18, h6, hfC, hC, hok, hcat2, hc32, hid, hg2⟩
   obtain ⟨tv, b1, b2⟩ := hC.ex
   have hr : (rootR cc).length = 32 := Ad6 hc32
   have hMl : (Pk.cat M).length <= 1000000000 := by
    have := congrArg List.length hcat2
    simp only [List.length_append, List.length_singleton] at this
    omega
   have hgm : M.length <= 1000000000 := Nat.le_trans (AR2 hC.ok) hMl
   obtain ⟨v4, D, fo3, p1, p2, p3, p4⟩ := b2.push (P := Try.prog) (t := 36) (tx := 36) (n := 32) rfl Bv2 Try.underlying36 (hfC.wf hw) (y := rootR cc) (cs' := bc (rootR cc)) ⟨rfl, hr⟩ (by rw [Ak8]; omega) (by rw [Ak8]; omega)
   have b1D := p3.row _ _ b1 (Ac3 b1)
   obtain ⟨E, t1, t2, t3⟩ := Bt9 b1D p2.one
   obtain ⟨F, u1, u2, u3⟩ := BF7 (k := ((n + 1 : Nat) : Int)) t3
   have hwn : IntKind.i64.wrap ((n : Int) + 1) = ((n + 1 : Nat) : Int) := by rw [Af3 (by omega)]
   have p5 := (p2.fr t2 (.box b1D)).fr u2 (.box t3)
   simp only [RT, Q0, Q1, Q2, Q3, Q4, Q5, Q6, Q7, Q8]
   rw [Bs4, Aa8 (by rfl)]
   simp only [RT, Q0, Q1, Q2, Q3, Q4, Q5, Q6, Q7, Q8, h0, fa, Ba3 b1, h6, ldI hid hr, A77 hr, p1, t1, Ba3 t3, hwn, u1, h19, hwi]
   have hAD : Fr (rgS rp A fo) A D := hfC.trans p3 fun y q => back hfC hg2 q
   have hAF : Fr (rgS rp A fo) A F := (hAD.trans t2 fun y q => .inl (.inl q)).trans u2 fun y q => .inl (.inl q)
   have hcL : Pk.cat (M ++ [(j, cc)]) = Pk.cat L1 ++ [x] := by rw [Pk.cat_app, <- hcat2]; simp [Pk.cat]
   have hcl2 : (Pk.cat (M ++ [(j, cc)])).length = n + 1 := by rw [hcL, List.length_append, hnn]; rfl
   have hF : IsRg F rp (M ++ [(j, cc)]) fo3 := by
    unfold IsRg
    rw [hcl2]
    exact ⟨⟨v4, u3, by rw [A37]; exact p5⟩, hok, fun y hy => by
     rw [Pk.cat_app] at hy
     rcases List.mem_append.1 hy with hy | hy
     . exact hC.l32 y hy
     . exact hc32 y (by simpa [Pk.cat] using hy)⟩
   have hcat4 : Pk.cat (M ++ [(j, cc)]) = Pk.cat L ++ ls.take (i + 1) := by rw [hcL, hcat, Ag5 hx, List.append_assoc]
   have hg5 : Gr A fo fo3 := hg2.trans p4 hfC.len
   refine ⟨ls.length - (i + 1), by omega, i + 1, M ++ [(j, cc)], fo3, rfl, by omega, ?_⟩
   and_intros <;> first | rfl | assumption
end
end Go.Sv.Try
namespace Go.Sv.Try
open Go Go.Proofs
section
variable {A B C : AS} {rp : Nat} {L : Peaks} {fo fo' : Option Nat} {m : Hp}
theorem Bu0 : evBuild Try.prog 166 [] = some (.agg [.int .i64 0, .snil]) := by kernel_rfl
theorem rg0 (h : A.blk[rp]? = some ⟨[.int .i64 0, .snil], .var⟩) : IsRg A rp [] none := ⟨⟨.snil, h, Lst.nil⟩, ⟨fun p hp => (by cases hp), List.Pairwise.nil⟩, fun x hx => (by cases hx)⟩
theorem AY4 {v : V} {ls : List Bts} (hw : WF A) (hm : m.on A) (hs : Slc eI m v ls) (hn : ls.length <= 1000000000) :
 ∃ w A', EvF Try.prog HH 65 [v] A w A' /\ Fr S0 A A' /\ w = .ptr A.blk.length 0 /\ ∃ L fo, IsRg A' A.blk.length L fo /\ Pk.cat L = ls := by
 refine Aa6 rfl Try.func65 (by unfold Try.f65; rfl) Try.ntmps65 (by unfold Try.f65; rfl) (by simp) ?_
 obtain ⟨A1, e1, f1, r1, n1⟩ := Aa9 A [.int .i64 0, .snil]
 have hap : Apart m A.blk.length A1 none := fun b q => by
  rcases q with q | q
  . cases q; exact hm.fresh (Nat.le_refl _)
  . exact q.elim
 obtain ⟨_, A2, k2, rfl, f2, L, fo, h1, h2, h3⟩ := An9 (f1.wf hw) (rg0 r1) (hm.fr0 f1) hap hs (by show 0 + _ <= _; omega)
 simp only [RT, Q0, Q1, Q2, Q3, Q4, Q5, Q6, Q7, Q8, Bu0, <- e1]
 refine Aa0 k2 ?_
 simp only [RT, Q0, Q1, Q2, Q3, Q4, Q5, Q6, Q7, Q8]
 refine ⟨f1.trans f2 fun z q => .inr ?_, L, fo, h1, h2⟩
 rcases q with q | q
 . subst q; exact Nat.le_refl _
 . cases z <;> exact q.elim
theorem AI0 {L : Peaks} (h : ∀ x ∈ Pk.cat L, x.length = 32) (hok : Pk.ok L) : (Pk.root L).length = 32 := by rw [Pk.root_eq hok]; exact Ad6 h
set_option maxRecDepth 10000 in
set_option maxHeartbeats 8000000 in
theorem AC7 {n : Nat} (hw : WF A) (h : RgN A rp n L fo) (hn : n = (Pk.cat L).length) (hl : n <= 1000000000) :
 ∃ w A', EvF Try.prog HH 66 [.ptr rp 0] A w A' /\ Fr S0 A A' /\ w = .agg (bc (rootR (Pk.cat L))) := by
 have fa := BX3 rp
 have h32 := h.l32
 have hok := h.ok
 have htop := h.top
 refine Aa6 rfl Try.func66 (by unfold Try.f66; rfl) Try.ntmps66 (by unfold Try.f66; rfl) (by simp) ?_
 obtain ⟨A1, e1, f1, r1, n1⟩ := Aa9 A (bc z32s)
 obtain ⟨b0, hb1⟩ : ∃ b, b = A.blk.length := ⟨_, rfl⟩
 rw [<- hb1] at r1 n1
 have w1 := f1.wf hw
 have hR := h.fr0 f1
 obtain ⟨tv, b1, b2⟩ := hR.ex
 have hrp : rp < A.blk.length := by obtain ⟨_, q, _⟩ := h.ex; exact Ac9 q
 by_cases q0 : n = 0
 . have hcat : Pk.cat L = [] := List.eq_nil_of_length_eq_zero (by omega)
   obtain ⟨_, A2, k2, f2, rfl⟩ := Aw9 (A := A1) (v := .snil) (m := Hp.emp) (ls := []) w1 (Hp.on_emp _) (.inl ⟨rfl, rfl⟩) (by simp) (by simp)
   obtain ⟨A3, u1, u2, u3⟩ := Bk0 (f2.row0 r1) (by simp [z32s]) (An8 ([] : List Bts).flatten)
   simp only [RT, Q0, Q1, Q2, Q3, Q4, Q5, Q6, Q7, Q8, Bc6, <- e1, <- hb1, fa, Ba3 b1, decide_eq_true (show ((n : Int) = 0) by omega)]
   refine Aa0 k2 ?_
   simp only [RT, Q0, Q1, Q2, Q3, Q4, Q5, Q6, Q7, Q8, u1, ldI u3 (An8 _)]
   exact ⟨(f1.then0 f2).row_ u2 (by omega), by rw [hcat, Bb3]; rfl⟩
 simp only [RT, Q0, Q1, Q2, Q3, Q4, Q5, Q6, Q7, Q8, Bc6, <- e1, <- hb1, fa, Ba3 b1, decide_eq_false (show ¬ ((n : Int) = 0) by omega)]
 have hne : L ≠ [] := fun q => by rw [q] at hn; exact q0 hn
 have hL0 : 0 < L.length := List.length_pos_iff.2 hne
 have hLn : L.length <= 1000000000 := Nat.le_trans (AR2 hok) (by omega)
 have hlt : ∀ D, evLen Try.prog 36 tv D = some (.int .i64 (L.length : Int)) := fun D => by rw [b2.len (P := Try.prog) Try.underlying36 D, Ak8]
 obtain ⟨p, hp⟩ := Ad0 (l := L) (i := L.length - 1) (by omega)
 have hp32 := htop p (List.mem_of_getElem? hp)
 obtain ⟨bt, ot, ct, g3, g4, g5⟩ := b2.at (P := Try.prog) (k := .i64) (x := rootR p.2) (i := L.length - 1) (Hp.on_emp A1) Try.underlying36 As0 AW4 (by unfold Pk.tops; rw [List.getElem?_map, hp]; rfl)
 obtain ⟨rfl, _⟩ := Bt8.1 g5
 have wl1 : IntKind.i64.wrap ((L.length : Int) - 1) = ((L.length - 1 : Nat) : Int) := by rw [Ac6 (by omega) (by omega)]; omega
 have wl2 : IntKind.i64.wrap ((L.length : Int) - 2) = ((L.length : Int) - 1) - 1 := by rw [Ac6 (by omega) (by omega)]; omega
 obtain ⟨A2, s1, s2, s3⟩ := BQ1 (A := A1) (rootR p.2) hp32
 obtain ⟨b3, hb3⟩ : ∃ b, b = A1.blk.length := ⟨_, rfl⟩
 rw [<- hb3] at s1 s3
 have b1' := s2.row0 b1
 have f2 := f1.then0 s2
 have r1' := s2.row0 r1
 have hlst : Pk.root (L.drop (L.length - 1)) = rootR p.2 := by
  rw [List.drop_eq_getElem_cons (by omega), List.drop_of_length_le (by omega)]
  have := (List.getElem?_eq_some_iff.1 hp).2
  rw [this]; rfl
 rw [BD0, Aa8 (by rfl)]
 simp only [RT, Q0, Q1, Q2, Q3, Q4, Q5, Q6, Q7, Q8, fa, Ba3 b1, hlt, wl1, g3, g4, Bc6, <- hb3, s1, Ba3 b1', wl2]
 refine Aa2 (fun z e B => ∃ i : Nat, z = i /\ i < L.length /\ e.get 4 = .int .i64 ((i : Int) - 1) /\ e.get 0 = .ptr rp 0 /\ e.get 2 = .ptr b0 0 /\ e.get 3 = .ptr b3 0 /\ Fr (· = .row b3) A2 B /\ B.blk[b3]? = some ⟨bc (Pk.root (L.drop i)), .var⟩)
  (fun z e B => Is z (.exit 0) /\ e.get 2 = .ptr b0 0 /\ e.get 3 = .ptr b3 0 /\ Fr (· = .row b3) A2 B /\ B.blk[b3]? = some ⟨bc (Pk.root L), .var⟩)
  ⟨_, L.length - 1, rfl, by omega, by show V.int .i64 _ = _; congr 1; omega, rfl, rfl, rfl, .refl _ _, by rw [hlst]; exact s3⟩ ?_ ?_
 . rintro z e B ⟨i, rfl, hi, h4, h0, h2, h3, hf, hB⟩
   simp only [RT, Q0, Q1, Q2, Q3, Q4, Q5, Q6, Q7, Q8, h4]
   refine Aa1 (fun q1 => ?_) (fun q1 => ?_)
   rotate_left
   . have : z = 0 := by omega
     subst this
     simp only [RT, Q0, Q1, Q2, Q3, Q4, Q5, Q6, Q7, Q8]
     exact ⟨rfl, h2, h3, hf, hB⟩
   obtain ⟨i, rfl⟩ : ∃ i, z = i + 1 := ⟨z - 1, by omega⟩
   have ei : (((i + 1 : Nat) : Int) - 1) = (i : Int) := by omega
   obtain ⟨q, hq⟩ := Ad0 (l := L) (i := i) (by omega)
   have hq32 := htop q (List.mem_of_getElem? hq)
   have hdr : L.drop i = q :: L.drop (i + 1) := by
    rw [List.drop_eq_getElem_cons (by omega), (List.getElem?_eq_some_iff.1 hq).2]
   have hok2 : Pk.ok (L.drop (i + 1)) := ⟨fun x hx => hok.1 x (List.mem_of_mem_drop hx), hok.2.sublist (List.drop_sublist _ _)⟩
   have hr32 : (Pk.root (L.drop (i + 1))).length = 32 := AI0 (fun x hx => by
    obtain ⟨y, y1, y2⟩ := List.mem_flatMap.1 hx
    exact h32 x (List.mem_flatMap.2 ⟨y, List.mem_of_mem_drop y1, y2⟩)) hok2
   have hroot : Pk.root (L.drop i) = nodeH (rootR q.2) (Pk.root (L.drop (i + 1))) := by
    rw [hdr]
    obtain ⟨x, hx⟩ := Ad0 (l := L) (i := i + 1) (by omega)
    rw [List.drop_eq_getElem_cons (i := i + 1) (by omega)]; rfl
   have b1B := hf.row _ _ b1' (fun w => by cases w; omega)
   have b2B := (b2.fr0 s2).fr hf (.box s3)
   obtain ⟨bt, ot, ct, g3, g4, g5⟩ := b2B.at (P := Try.prog) (k := .i64) (x := rootR q.2) (i := i) (Hp.on_emp B) Try.underlying36 As0 AW4 (by unfold Pk.tops; rw [List.getElem?_map, hq]; rfl)
   obtain ⟨rfl, _⟩ := Bt8.1 g5
   have wB := (f2.row_ hf (by omega)).wf hw
   obtain ⟨_, D, k1, y1, rfl⟩ := Ap1 (A := B) wB hq32 hr32
   obtain ⟨E, t1, t2, t3⟩ := Bk0 (l' := nodeH (rootR q.2) (Pk.root (L.drop (i + 1)))) (y1.row0 hB) hr32 (Al9 _ _)
   have wi : IntKind.i64.wrap ((i : Int) - 1) = (i : Int) - 1 := Ac6 (by omega) (by omega)
   simp only [RT, Q0, Q1, Q2, Q3, Q4, Q5, Q6, Q7, Q8]
   rw [BD1, Aa8 (by rfl)]
   simp only [RT, Q0, Q1, Q2, Q3, Q4, Q5, Q6, Q7, Q8, h0, fa, Ba3 b1B, h4, ei, g3, g4, h3, ldI hB hr32]
   refine Aa0 k1 ?_
   simp only [RT, Q0, Q1, Q2, Q3, Q4, Q5, Q6, Q7, Q8, h3, t1, h4, ei, wi]
   have z1 : Fr (· = .row b3) A2 E := hf.trans (y1.after0 t2) fun y w => .inl w
   rw [<- hroot] at t3
   refine ⟨i, by omega, i, rfl, by omega, ?_⟩
   and_intros <;> first | rfl | assumption
 . rintro z e B hz ⟨rfl, h2, h3, hf, hB⟩
   have hr32 : (Pk.root L).length = 32 := AI0 h32 hok
   obtain ⟨E, t1, t2, t3⟩ := Bk0 (hf.row _ _ r1' (fun w => by cases w; omega)) (by simp [z32s]) hr32
   simp only [RT, Q0, Q1, Q2, Q3, Q4, Q5, Q6, Q7, Q8, h3, ldI hB hr32, h2, t1, ldI t3 hr32]
   exact ⟨(f2.row_ hf (by omega)).row_ t2 (by omega), by rw [Pk.root_eq hok]⟩
theorem Ao0 {v : V} {ls : List Bts} (hw : WF A) (hm : m.on A) (hs : Slc eI m v ls) (hn : ls.length <= 1000000000) :
 ∃ w A', EvF Try.prog HH 23 [v] A w A' /\ Fr S0 A A' /\ w = .agg (bc (rootR ls)) := by
 have hr32 : (rootR ls).length = 32 := Ad6 (A76 hs)
 refine Aa6 rfl Try.func23 (by unfold Try.f23; rfl) Try.ntmps23 (by unfold Try.f23; rfl) (by simp) ?_
 obtain ⟨A1, e1, f1, r1, n1⟩ := Aa9 A (bc z32s)
 obtain ⟨_, A2, k2, f2, rfl, L, fo, h1, h2⟩ := AY4 (f1.wf hw) (hm.fr0 f1) hs hn
 obtain ⟨_, A3, k3, f3, rfl⟩ := AC7 ((f1.then0 f2).wf hw) h1 rfl (by rw [h2]; exact hn)
 rw [h2] at k3
 obtain ⟨A4, u1, u2, u3⟩ := Bk0 (f3.row0 (f2.row0 r1)) (by simp [z32s]) hr32
 simp only [RT, Q0, Q1, Q2, Q3, Q4, Q5, Q6, Q7, Q8, Bc6, <- e1]
 refine Aa0 k2 ?_
 simp only [RT, Q0, Q1, Q2, Q3, Q4, Q5, Q6, Q7, Q8]
 refine Aa0 k3 ?_
 simp only [RT, Q0, Q1, Q2, Q3, Q4, Q5, Q6, Q7, Q8, u1, ldI u3 hr32]
 exact ((f1.then0 f2).then0 f3).row_ u2 (Nat.le_refl _)
set_option maxRecDepth 10000 in
theorem Ay7 {v : V} {ls : List Bts} (hw : WF A) (hm : m.on A) (hs : Slc (eSl eU8) m v ls) (hn : ls.length <= 1000000000) (hl : ∀ x ∈ ls, x.length <= 100000000000) :
 ∃ w A', EvF Try.prog HH 21 [v] A w A' /\ Fr S0 A A' /\ ∃ fo, Lst eI Hp.emp A' w (ls.map leafH) fo /\ ∀ f, fo = some f -> A.blk.length <= f := by
 have hlen := fun B => hs.len (P := Try.prog) Try.underlying22 B
 refine Aa6 rfl Try.func21 (by unfold Try.f21; rfl) Try.ntmps21 (by unfold Try.f21; rfl) (by simp) ?_
 simp only [RT, Q0, Q1, Q2, Q3, Q4, Q5, Q6, Q7, Q8, hlen]
 refine Aa2 (fun z e B => ∃ (i : Nat) (w : V) (fo : Option Nat), z = ls.length - i /\ i <= ls.length /\ e.get 8 = .int .i64 i /\ e.get 6 = v /\ e.get 7 = .int .i64 ls.length /\ e.get 3 = w /\ Fr S0 A B /\ Lst eI Hp.emp B w ((ls.take i).map leafH) fo /\ ∀ f, fo = some f -> A.blk.length <= f)
  (fun z e B => Is z (.exit 0) /\ ∃ (w : V) (fo : Option Nat), e.get 3 = w /\ Fr S0 A B /\ Lst eI Hp.emp B w (ls.map leafH) fo /\ ∀ f, fo = some f -> A.blk.length <= f)
  ⟨_, 0, .snil, none, rfl, by omega, rfl, rfl, rfl, rfl, .refl _ _, .nil, fun f q => by cases q⟩ ?_ ?_
 . rintro z e B ⟨i, w, fo, rfl, hi, h8, h6, h7, h3, hf, hL, hfo⟩
   simp only [RT, Q0, Q1, Q2, Q3, Q4, Q5, Q6, Q7, Q8, h7, h8]
   refine Aa1 (fun q1 => ?_) (fun q1 => ?_)
   rotate_left
   . have : i = ls.length := by omega
     subst this
     rw [List.take_length] at hL
     simp only [RT, Q0, Q1, Q2, Q3, Q4, Q5, Q6, Q7, Q8]
     exact ⟨rfl, w, fo, h3, hf, hL, hfo⟩
   obtain ⟨x, hx⟩ := Ad0 (l := ls) (i := i) (by omega)
   obtain ⟨b, o, c, g3, g4, g5⟩ := hs.at (P := Try.prog) (k := .i64) (hm.fr0 hf) Try.underlying22 A28 A66 hx
   have g5 := AV4.1 g5
   obtain ⟨_, C, k1, f1, rfl⟩ := Bc7 (hf.wf hw) (hm.fr0 hf) g5 (hl x (List.mem_of_getElem? hx))
   obtain ⟨v4, D, fo', p1, p2, p3, p4⟩ := (hL.fr0 f1).push (P := Try.prog) (t := 36) (tx := 36) (n := 32) rfl Bv2 Try.underlying36 ((hf.then0 f1).wf hw) (y := leafH x) (cs' := bc (leafH x)) ⟨rfl, AC0 x⟩ (by rw [List.length_map, List.length_take]; omega) (by rw [List.length_map, List.length_take]; omega)
   have hwi : IntKind.i64.wrap ((i : Int) + 1) = ((i + 1 : Nat) : Int) := by rw [Af3 (by omega)]
   simp only [RT, Q0, Q1, Q2, Q3, Q4, Q5, Q6, Q7, Q8, h6, h8, g3, g4]
   refine Aa0 k1 ?_
   simp only [RT, Q0, Q1, Q2, Q3, Q4, Q5, Q6, Q7, Q8, A77 (AC0 x), h3, p1, h8, hwi]
   have hfC := hf.then0 f1
   have hfD : Fr S0 A D := hfC.newFam hw p3 hfo
   have hfo' : ∀ f, fo' = some f -> A.blk.length <= f := fun f q => by
    rcases p4.or q with y | y
    . exact hfo f y
    . have := hfC.len; omega
   have e : (ls.take i).map leafH ++ [leafH x] = (ls.take (i + 1)).map leafH := by rw [Ag5 hx]; simp
   rw [e] at p2
   exact ⟨ls.length - (i + 1), by omega, i + 1, v4, fo', rfl, by omega, rfl, h6, h7, rfl, hfD, p2, hfo'⟩
 rintro z e B hz ⟨rfl, w, fo, h3, hf, hL, hfo⟩
 simp only [RT, Q0, Q1, Q2, Q3, Q4, Q5, Q6, Q7, Q8, h3]
 exact ⟨hf, fo, hL, hfo⟩
end
end Go.Sv.Try
