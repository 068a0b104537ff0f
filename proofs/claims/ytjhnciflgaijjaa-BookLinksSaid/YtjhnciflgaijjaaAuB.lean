/- Sums: words are turned, a block is taken in. -/
import Derived.Test.YtjhnciflgaijjaaSvBase
import Derived.Test.YtjhnciflgaijjaaAu0
import Derived.Test.YtjhnciflgaijjaaSv4
import Derived.Test.YtjhnciflgaijjaaAuA
set_option linter.unusedSimpArgs false
set_option linter.unusedVariables false
open Nat renaming reduceLT → Q0, reduceBEq → Q1, reduceEqDiff → Q2, reduceAdd → Q3
open Int renaming reduceEq → Q4, reduceLT → Q5, reduceLE → Q6, reduceGT → Q7, reduceGE → Q8
namespace Go.Sv
open Go
theorem BE8 (x y z w : Nat) (hx : x < 256) (hy : y < 256) (hz : z < 256) (hw : w < 256) : BitVec.ofNat 32 x <<< 24 ||| BitVec.ofNat 32 y <<< 16 ||| BitVec.ofNat 32 z <<< 8 ||| BitVec.ofNat 32 w = (BitVec.ofNat 32 (((x * 256 + y) * 256 + z) * 256 + w) : W32) := by
 apply BitVec.eq_of_toNat_eq
 simp only [BitVec.toNat_or, BitVec.toNat_shiftLeft, BitVec.toNat_ofNat]
 have e1 : (x % 2 ^ 32) <<< 24 % 2 ^ 32 = x <<< 24 := by simp only [Nat.shiftLeft_eq]; omega
 have e2 : (y % 2 ^ 32) <<< 16 % 2 ^ 32 = y <<< 16 := by simp only [Nat.shiftLeft_eq]; omega
 have e3 : (z % 2 ^ 32) <<< 8 % 2 ^ 32 = z <<< 8 := by simp only [Nat.shiftLeft_eq]; omega
 have e4 : w % 2 ^ 32 = w := by omega
 rw [e1, e2, e3, e4]
 rw [<- Nat.shiftLeft_add_eq_or_of_lt (b := y <<< 16) (i := 24) (by simp only [Nat.shiftLeft_eq]; omega) x]
 have e5 : x <<< 24 + y <<< 16 = (x * 256 + y) <<< 16 := by simp only [Nat.shiftLeft_eq]; omega
 rw [e5, <- Nat.shiftLeft_add_eq_or_of_lt (b := z <<< 8) (i := 16) (by simp only [Nat.shiftLeft_eq]; omega)]
 have e6 : (x * 256 + y) <<< 16 + z <<< 8 = ((x * 256 + y) * 256 + z) <<< 8 := by simp only [Nat.shiftLeft_eq]; omega
 rw [e6, <- Nat.shiftLeft_add_eq_or_of_lt (b := w) (i := 8) (by omega)]
 simp only [Nat.shiftLeft_eq]; omega
theorem A74 (l : Bts) (i : Nat) : gb l i < 256 := UInt8.toNat_lt _
theorem BE9 (l : Bts) (i : Nat) : (BitVec.ofNat 32 (gb l i) : W32).toNat = gb l i := by
 rw [BitVec.toNat_ofNat]; have := A74 l i; omega
theorem A36 {l : List W32} {i n : Nat} (h : l.length = i) (hi : i < n) (x z : W32) : (l ++ List.replicate (n - i) z).set i x = l ++ [x] ++ List.replicate (n - (i + 1)) z := by
 obtain ⟨k, hk⟩ : ∃ k, n - i = k + 1 := ⟨n - i - 1, by omega⟩
 rw [hk, show n - (i + 1) = k by omega, List.replicate_succ, List.set_append, if_neg (by omega), <- h, Nat.sub_self]
 simp
def mx8 (s v : S8) (i : Nat) : List W32 := (s8l (add8 s v)).take i ++ (s8l s).drop i
theorem Bc4 {s v : S8} {i : Nat} (h : i <= 8) : (mx8 s v i).length = 8 := by simp [mx8, s8l]; omega
theorem Bl3 {s v : S8} {i : Nat} (h : i < 8) : gw (mx8 s v i) i = gw (s8l s) i /\ (mx8 s v i).set i (gw (s8l s) i + gw (s8l v) i) = mx8 s v (i + 1) := by
 have : i = 0 ∨ i = 1 ∨ i = 2 ∨ i = 3 ∨ i = 4 ∨ i = 5 ∨ i = 6 ∨ i = 7 := by omega
 rcases this with rfl | rfl | rfl | rfl | rfl | rfl | rfl | rfl <;> exact ⟨rfl, rfl⟩
end Go.Sv
namespace Go.Sv.Try
open Go Go.Proofs
section
variable {A : AS} {r : Nat} {k : BK}
theorem AY1 (x y : W32) : evBits .xor .u32 (x.toNat : Int) (y.toNat : Int) = some (.int .u32 ((x ^^^ y).toNat : Int)) := BE1 (.inl rfl) x y
theorem BF0 (x y : W32) : evBits .and .u32 (x.toNat : Int) (y.toNat : Int) = some (.int .u32 ((x &&& y).toNat : Int)) := BE2 (.inl rfl) x y
theorem BP3 (x y : W32) : evBits .or .u32 (x.toNat : Int) (y.toNat : Int) = some (.int .u32 ((x ||| y).toNat : Int)) := BO9 (.inl rfl) x y
theorem Bl4 (x : W32) {n : Nat} (h : n <= 32) : evShift .shr .u32 (x.toNat : Int) (n : Int) = some (.int .u32 ((x >>> n).toNat : Int)) := BE3 (.inl rfl) x h
theorem BZ3 (n : Int) (A : AS) : cnv Try.prog 3 157 (some (.int .i64 n)) A = some (.val (.int .u64 (IntKind.u64.wrap n))) := At0 (by decide) Try.underlying3 Try.underlying157
theorem BP4 (l : Bts) (j : Nat) (A : AS) : cnv Try.prog 5 194 (some (.int .u8 (gb l j : Int))) A = some (.val (.int .u32 ((BitVec.ofNat 32 (gb l j) : W32).toNat : Int))) := by
 rw [At0 (by decide) Try.underlying5 Try.underlying194, BE9, AA6]
 have := A74 l j
 rw [Int.emod_eq_of_lt (by omega) (by omega)]
theorem Af2 {x : W32} {n : Nat} (h1 : 1 <= n) (h2 : n <= 31) {y : Int} (hy : y = -(n : Int)) : EvF Try.prog HH 119 [.int .u32 (x.toNat : Int), .int .i64 y] A (.int .u32 ((rot x n).toNat : Int)) A := by
 suffices h : ∃ w A', EvF Try.prog HH 119 [.int .u32 (x.toNat : Int), .int .i64 y] A w A' /\ A' = A /\ w = .int .u32 ((rot x n).toNat : Int) by
  obtain ⟨w, A', h, rfl, rfl⟩ := h; exact h
 have e1 : evBits .and .u64 (IntKind.u64.wrap y) 31 = some (.int .u64 ((32 - n : Nat) : Int)) := by
  rw [Aq5, hy]
  unfold evBits
  have a1 : BitVec.ofInt IntKind.u64.bits (-(n : Int) % 18446744073709551616) = BitVec.ofNat IntKind.u64.bits (18446744073709551616 - n) := by
   rw [show -(n : Int) % 18446744073709551616 = ((18446744073709551616 - n : Nat) : Int) by omega, BitVec.ofInt_natCast]
  have a2 : (BitVec.ofNat IntKind.u64.bits (18446744073709551616 - n) &&& BitVec.ofInt IntKind.u64.bits 31).toNat = 32 - n := by
   show ((BitVec.ofNat 64 (18446744073709551616 - n) : BitVec 64) &&& (BitVec.ofNat 64 31 : BitVec 64)).toNat = 32 - n
   rw [BitVec.toNat_and, BitVec.toNat_ofNat, BitVec.toNat_ofNat, Nat.mod_eq_of_lt (by omega), show (31 : Nat) % 2 ^ 64 = 2 ^ 5 - 1 by rfl, Nat.and_two_pow_sub_one_eq_mod]
   omega
  simp only [a1, a2]
  rw [Aq5]; congr 2; omega
 have e2 : IntKind.u64.wrap (32 - ((32 - n : Nat) : Int)) = (n : Int) := by rw [Aq5]; omega
 refine Aa6 rfl Try.func119 (by unfold Try.f119; rfl) Try.ntmps119 (by unfold Try.f119; rfl) (by simp) ?_
 simp only [RT, Q0, Q1, Q2, Q3, Q4, Q5, Q6, Q7, Q8, BZ3, Az8, e1, A61, A32 x (n := 32 - n) (by omega), Ar9, e2, Bl4 x (n := n) (by omega), Bp7, BP3]
 unfold rot
 rw [BitVec.or_comm]
theorem Bt7 {r j : Nat} (h : j < 64) : evIndexAddr Try.prog 212 (.ptr r 0) (.int .i64 (j : Int)) = some (.ptr r j) := by
 rw [Ar1 Try.underlying212 BD4 h, Nat.zero_add, Nat.mul_one]
theorem AR1 {r j : Nat} (h : j < 64) : evIndexAddr Try.prog 200 (.ptr r 0) (.int .i64 (j : Int)) = some (.ptr r j) := by
 rw [Ar1 Try.underlying200 sz5 h, Nat.zero_add, Nat.mul_one]
theorem ax8 {r j : Nat} (h : j < 8) : evIndexAddr Try.prog 196 (.ptr r 0) (.int .i64 (j : Int)) = some (.ptr r j) := by
 rw [Ar1 Try.underlying196 BD4 h, Nat.zero_add, Nat.mul_one]
theorem BZ4 (r : Nat) : evIndexAddr Try.prog 196 (.ptr r 0) (.int .i64 0) = some (.ptr r 0) /\ evIndexAddr Try.prog 196 (.ptr r 0) (.int .i64 1) = some (.ptr r 1) /\ evIndexAddr Try.prog 196 (.ptr r 0) (.int .i64 2) = some (.ptr r 2) /\ evIndexAddr Try.prog 196 (.ptr r 0) (.int .i64 3) = some (.ptr r 3) /\ evIndexAddr Try.prog 196 (.ptr r 0) (.int .i64 4) = some (.ptr r 4) /\ evIndexAddr Try.prog 196 (.ptr r 0) (.int .i64 5) = some (.ptr r 5) /\ evIndexAddr Try.prog 196 (.ptr r 0) (.int .i64 6) = some (.ptr r 6) /\ evIndexAddr Try.prog 196 (.ptr r 0) (.int .i64 7) = some (.ptr r 7) :=
 ⟨ax8 (j := 0) (by decide), ax8 (j := 1) (by decide), ax8 (j := 2) (by decide), ax8 (j := 3) (by decide), ax8 (j := 4) (by decide), ax8 (j := 5) (by decide), ax8 (j := 6) (by decide), ax8 (j := 7) (by decide)⟩
theorem ldW {l : List W32} (hb : A.blk[r]? = some ⟨wc .u32 l, k⟩) {j : Nat} (h : j < l.length) : evLoad Try.prog 194 (.ptr r j) A = some (.int .u32 ((gw l j).toNat : Int)) := by
 rw [Ab9 BW3 hb, BD9 h]
theorem ld8 {s : S8} (hb : A.blk[r]? = some ⟨wc .u32 (s8l s), k⟩) : evLoad Try.prog 194 (.ptr r 0) A = some (.int .u32 (s.a.toNat : Int)) /\ evLoad Try.prog 194 (.ptr r 1) A = some (.int .u32 (s.b.toNat : Int)) /\ evLoad Try.prog 194 (.ptr r 2) A = some (.int .u32 (s.c.toNat : Int)) /\ evLoad Try.prog 194 (.ptr r 3) A = some (.int .u32 (s.d.toNat : Int)) /\ evLoad Try.prog 194 (.ptr r 4) A = some (.int .u32 (s.e.toNat : Int)) /\ evLoad Try.prog 194 (.ptr r 5) A = some (.int .u32 (s.f.toNat : Int)) /\ evLoad Try.prog 194 (.ptr r 6) A = some (.int .u32 (s.g.toNat : Int)) /\ evLoad Try.prog 194 (.ptr r 7) A = some (.int .u32 (s.h.toNat : Int)) :=
 ⟨ldW hb (j := 0) (by decide : 0 < 8), ldW hb (j := 1) (by decide : 1 < 8), ldW hb (j := 2) (by decide : 2 < 8), ldW hb (j := 3) (by decide : 3 < 8), ldW hb (j := 4) (by decide : 4 < 8), ldW hb (j := 5) (by decide : 5 < 8), ldW hb (j := 6) (by decide : 6 < 8), ldW hb (j := 7) (by decide : 7 < 8)⟩
theorem ldB {l : Bts} (hb : A.blk[r]? = some ⟨bc l, k⟩) {j : Nat} (h : j < l.length) : evLoad Try.prog 5 (.ptr r j) A = some (.int .u8 (gb l j : Int)) := by
 rw [Ab9 ag5 hb, Aw1, List.getElem?_eq_getElem h]
 unfold gb
 rw [List.getD_eq_getElem?_getD, List.getElem?_eq_getElem h]; rfl
theorem stW {l : List W32} (hb : A.blk[r]? = some ⟨wc .u32 l, .var⟩) {j : Nat} (h : j < l.length) (x : W32) : ∃ A', evStore Try.prog 194 (.ptr r j) (.int .u32 (x.toNat : Int)) A = some A' /\ Fr (· = .row r) A A' /\ A'.blk[r]? = some ⟨wc .u32 (l.set j x), .var⟩ := by
 obtain ⟨A', s1, s2, s3, s4⟩ := Ab7 (P := Try.prog) (t := 194) (o := j) (x := .int .u32 (x.toNat : Int)) (cs := [.int .u32 (x.toNat : Int)]) hb rfl BD4 (by rw [Ar2]; exact h) rfl
 rw [Bt5 h] at s3
 exact ⟨A', s1, s2, s3⟩
theorem BZ5 : evBuild Try.prog 212 [(0, .int .u32 1116352408), (1, .int .u32 1899447441), (2, .int .u32 3049323471), (3, .int .u32 3921009573), (4, .int .u32 961987163), (5, .int .u32 1508970993), (6, .int .u32 2453635748), (7, .int .u32 2870763221), (8, .int .u32 3624381080), (9, .int .u32 310598401), (10, .int .u32 607225278), (11, .int .u32 1426881987), (12, .int .u32 1925078388), (13, .int .u32 2162078206), (14, .int .u32 2614888103), (15, .int .u32 3248222580), (16, .int .u32 3835390401), (17, .int .u32 4022224774), (18, .int .u32 264347078), (19, .int .u32 604807628), (20, .int .u32 770255983), (21, .int .u32 1249150122), (22, .int .u32 1555081692), (23, .int .u32 1996064986), (24, .int .u32 2554220882), (25, .int .u32 2821834349), (26, .int .u32 2952996808), (27, .int .u32 3210313671), (28, .int .u32 3336571891), (29, .int .u32 3584528711), (30, .int .u32 113926993), (31, .int .u32 338241895), (32, .int .u32 666307205), (33, .int .u32 773529912), (34, .int .u32 1294757372), (35, .int .u32 1396182291), (36, .int .u32 1695183700), (37, .int .u32 1986661051), (38, .int .u32 2177026350), (39, .int .u32 2456956037), (40, .int .u32 2730485921), (41, .int .u32 2820302411), (42, .int .u32 3259730800), (43, .int .u32 3345764771), (44, .int .u32 3516065817), (45, .int .u32 3600352804), (46, .int .u32 4094571909), (47, .int .u32 275423344), (48, .int .u32 430227734), (49, .int .u32 506948616), (50, .int .u32 659060556), (51, .int .u32 883997877), (52, .int .u32 958139571), (53, .int .u32 1322822218), (54, .int .u32 1537002063), (55, .int .u32 1747873779), (56, .int .u32 1955562222), (57, .int .u32 2024104815), (58, .int .u32 2227730452), (59, .int .u32 2361852424), (60, .int .u32 2428436474), (61, .int .u32 2756734187), (62, .int .u32 3204031479), (63, .int .u32 3329325298)] = some (.agg (wc .u32 shK)) := by kernel_rfl
theorem zcW : (zeroT Try.prog 212).bind V.cells = some (wc .u32 (List.replicate 64 0)) := by kernel_rfl
theorem zcS : (zeroT Try.prog 196).bind V.cells = some (wc .u32 (List.replicate 8 0)) := by kernel_rfl
theorem BZ6 (a b c d e f g h : Int) : evBuild Try.prog 196 [(0, .int .u32 a), (1, .int .u32 b), (2, .int .u32 c), (3, .int .u32 d), (4, .int .u32 e), (5, .int .u32 f), (6, .int .u32 g), (7, .int .u32 h)] = some (.agg [.int .u32 a, .int .u32 b, .int .u32 c, .int .u32 d, .int .u32 e, .int .u32 f, .int .u32 g, .int .u32 h]) := by kernel_rfl
theorem BP5 (l0 l : List W32) {n : Nat} {t : TypeId} (h0 : l0.length = n) (h1 : l.length = n) (hs : szT Try.prog t = some n) : ∃ A', evStore Try.prog t (.ptr A.blk.length 0) (.agg (wc .u32 l)) (A.push ⟨wc .u32 l0, .var⟩) = some A' /\ Fr S0 A A' /\ A'.blk[A.blk.length]? = some ⟨wc .u32 l, .var⟩ := by
 obtain ⟨A2, s1, s2, s3, s4⟩ := Ag4 (P := Try.prog) A (z := wc .u32 l0) (t := t) (x := .agg (wc .u32 l)) (cs := wc .u32 l) rfl (by rw [Ar2, h1]; exact hs) (by rw [Ar2, Ar2, h0, h1]) (Bt4 _ _)
 exact ⟨A2, s1, s2, s3⟩
end
end Go.Sv.Try
namespace Go.Sv.Try
open Go Go.Proofs
section
variable {A : AS} {r : Nat} {k : BK}
set_option maxRecDepth 20000 in
set_option maxHeartbeats 32000000 in
theorem A75 {bs bb : Nat} {s : S8} {b : Bts} (hs : A.blk[bs]? = some ⟨wc .u32 (s8l s), .var⟩) (hb : A.blk[bb]? = some ⟨bc b, .var⟩) (hl : b.length = 64) (hne : bs ≠ bb) :
 ∃ w A', EvF Try.prog HH 110 [.ptr bs 0, .ptr bb 0] A w A' /\ Fr (· = .row bs) A A' /\ A'.blk[bs]? = some ⟨wc .u32 (s8l (comp s b)), .var⟩ := by
 refine Aa6 rfl Try.func110 (by unfold Try.f110; rfl) Try.ntmps110 (by unfold Try.f110; rfl) (by simp) ?_
 obtain ⟨A1, e1, f1, r4⟩ := BP5 (A := A) (List.replicate 64 0) shK (n := 64) (t := 212) rfl rfl BW6
 simp only [RT, Q0, Q1, Q2, Q3, Q4, Q5, Q6, Q7, Q8, BZ5, zcW, e1]
 obtain ⟨b4, hb4⟩ : ∃ x, x = A.blk.length := ⟨_, rfl⟩
 rw [<- hb4] at r4 ⊢
 obtain ⟨A2, e2, f2, r5, n5⟩ := Aa9 A1 (wc .u32 (List.replicate 64 0))
 rw [<- e2]
 obtain ⟨b5, hb5⟩ : ∃ x, x = A1.blk.length := ⟨_, rfl⟩
 rw [<- hb5] at r5 ⊢
 have lts := Ac9 hs
 have ltb := Ac9 hb
 have lt4 : b4 < A1.blk.length := Ac9 r4
 have f12 := f1.then0 f2
 obtain ⟨W, hW⟩ : ∃ W : Nat -> List W32, W = wl b := ⟨_, rfl⟩
 have hWl : ∀ i, (W i).length = i := fun i => by rw [hW, Bt3]
 have hWs : ∀ i, W (i + 1) = W i ++ [if i < 16 then be4 b i else gw (W i) (i - 16) + shLow (gw (W i) (i - 15)) + gw (W i) (i - 7) + shHigh (gw (W i) (i - 2))] := fun i => by rw [hW]; rfl
 obtain ⟨R, hRd⟩ : ∃ R : Nat -> S8, R = rl (W 64) s := ⟨_, rfl⟩
 have hRs : ∀ i, R (i + 1) = rnd (gw shK i) (gw (W 64) i) (R i) := fun i => by rw [hRd]; rfl
 have hR0 : R 0 = s := by rw [hRd]; rfl
 have hcomp : comp s b = add8 s (R 64) := by rw [hRd, hW]; rfl
 have r5' : A2.blk[b5]? = some ⟨wc .u32 (W 0 ++ List.replicate (64 - 0) 0), .var⟩ := by rw [show W 0 = [] by rw [hW]; rfl, List.nil_append, Nat.sub_zero]; exact r5
 refine Aa2 (fun z e B => ∃ i : Nat, z = 64 - i /\ i <= 64 /\ e.get 19 = .int .i64 i /\ e.get 0 = .ptr bs 0 /\ e.get 1 = .ptr bb 0 /\ e.get 4 = .ptr b4 0 /\ e.get 5 = .ptr b5 0 /\ Fr (· = .row b5) A2 B /\ B.blk[b5]? = some ⟨wc .u32 (W i ++ List.replicate (64 - i) 0), .var⟩)
  (fun z e B => Is z (.exit 0) /\ e.get 0 = .ptr bs 0 /\ e.get 4 = .ptr b4 0 /\ e.get 5 = .ptr b5 0 /\ Fr (· = .row b5) A2 B /\ B.blk[b5]? = some ⟨wc .u32 (W 64), .var⟩)
  ⟨_, 0, rfl, by omega, rfl, rfl, rfl, rfl, rfl, .refl _ _, r5'⟩ ?_ ?_
 . rintro z e B ⟨i, rfl, hi, h19, h0, h1, h4, h5, hF, hB⟩
   simp only [RT, Q0, Q1, Q2, Q3, Q4, Q5, Q6, Q7, Q8, h19]
   refine Aa1 (fun q1 => ?_) (fun q1 => ?_)
   rotate_left
   . have : i = 64 := by omega
     subst this
     rw [Nat.sub_self, List.replicate_zero, List.append_nil] at hB
     simp only [RT, Q0, Q1, Q2, Q3, Q4, Q5, Q6, Q7, Q8]
     exact ⟨rfl, h0, h4, h5, hF, hB⟩
   have hi : i < 64 := by omega
   have hbB := hF.row _ _ (f12.row0 hb) (fun q => by cases q; omega)
   have hll : (W i ++ List.replicate (64 - i) (0 : W32)).length = 64 := by rw [List.length_append, hWl, List.length_replicate]; omega
   have hwi : IntKind.i64.wrap ((i : Int) + 1) = ((i + 1 : Nat) : Int) := by rw [Af3 (by omega)]
   by_cases q16 : i < 16
   . simp only [RT, Q0, Q1, Q2, Q3, Q4, Q5, Q6, Q7, Q8, h19, decide_eq_true (show ((i : Int) < 16) by omega)]
     rw [Bs7, Aa8 (by rfl)]
     have w0 : IntKind.i64.wrap (4 * (i : Int)) = ((4 * i : Nat) : Int) := by rw [Ac6 (by omega) (by omega)]; omega
     have w1 : IntKind.i64.wrap (((4 * i : Nat) : Int) + 1) = ((4 * i + 1 : Nat) : Int) := by rw [Ac6 (by omega) (by omega)]; omega
     have w2 : IntKind.i64.wrap (((4 * i : Nat) : Int) + 2) = ((4 * i + 2 : Nat) : Int) := by rw [Ac6 (by omega) (by omega)]; omega
     have w3 : IntKind.i64.wrap (((4 * i : Nat) : Int) + 3) = ((4 * i + 3 : Nat) : Int) := by rw [Ac6 (by omega) (by omega)]; omega
     have s24 : ∀ x : W32, evShift .shl .u32 (x.toNat : Int) 24 = some (.int .u32 ((x <<< 24).toNat : Int)) := fun x => A32 x (n := 24) (by decide)
     have s16 : ∀ x : W32, evShift .shl .u32 (x.toNat : Int) 16 = some (.int .u32 ((x <<< 16).toNat : Int)) := fun x => A32 x (n := 16) (by decide)
     have s8 : ∀ x : W32, evShift .shl .u32 (x.toNat : Int) 8 = some (.int .u32 ((x <<< 8).toNat : Int)) := fun x => A32 x (n := 8) (by decide)
     obtain ⟨C, t1, t2, t3⟩ := stW hB (j := i) (by omega) (be4 b i)
     rw [A36 (hWl i) hi] at t3
     have hbe := BE8 (gb b (4 * i)) (gb b (4 * i + 1)) (gb b (4 * i + 2)) (gb b (4 * i + 3)) (A74 _ _) (A74 _ _) (A74 _ _) (A74 _ _)
     simp only [RT, Q0, Q1, Q2, Q3, Q4, Q5, Q6, Q7, Q8, h1, h5, w0, w1, w2, w3, AR1 (r := bb) (show 4 * i < 64 by omega), AR1 (r := bb) (show 4 * i + 1 < 64 by omega), AR1 (r := bb) (show 4 * i + 2 < 64 by omega), AR1 (r := bb) (show 4 * i + 3 < 64 by omega), ldB hbB (show 4 * i < b.length by omega), ldB hbB (show 4 * i + 1 < b.length by omega), ldB hbB (show 4 * i + 2 < b.length by omega), ldB hbB (show 4 * i + 3 < b.length by omega), BP4, A61, Bp7, s24, s16, s8, BP3, Bt7 (r := b5) hi, hbe]
     have t1' : evStore Try.prog 194 (.ptr b5 i) (.int .u32 ((BitVec.ofNat 32 (((gb b (4 * i) * 256 + gb b (4 * i + 1)) * 256 + gb b (4 * i + 2)) * 256 + gb b (4 * i + 3)) : W32).toNat : Int)) B = some C := t1
     simp only [RT, Q0, Q1, Q2, Q3, Q4, Q5, Q6, Q7, Q8, t1', h19, hwi]
     refine ⟨64 - (i + 1), by omega, i + 1, rfl, by omega, rfl, h0, h1, h4, h5, hF.trans t2 fun x q => .inl q, ?_⟩
     rw [hWs, if_pos q16]; exact t3
   . simp only [RT, Q0, Q1, Q2, Q3, Q4, Q5, Q6, Q7, Q8, h19, decide_eq_false (show ¬ ((i : Int) < 16) by omega)]
     have w15 : IntKind.i64.wrap ((i : Int) - 15) = ((i - 15 : Nat) : Int) := by rw [Ac6 (by omega) (by omega)]; omega
     have w2 : IntKind.i64.wrap ((i : Int) - 2) = ((i - 2 : Nat) : Int) := by rw [Ac6 (by omega) (by omega)]; omega
     have w16 : IntKind.i64.wrap ((i : Int) - 16) = ((i - 16 : Nat) : Int) := by rw [Ac6 (by omega) (by omega)]; omega
     have w7 : IntKind.i64.wrap ((i : Int) - 7) = ((i - 7 : Nat) : Int) := by rw [Ac6 (by omega) (by omega)]; omega
     have s3 : ∀ x : W32, evShift .shr .u32 (x.toNat : Int) 3 = some (.int .u32 ((x >>> 3).toNat : Int)) := fun x => Bl4 x (n := 3) (by decide)
     have s10 : ∀ x : W32, evShift .shr .u32 (x.toNat : Int) 10 = some (.int .u32 ((x >>> 10).toNat : Int)) := fun x => Bl4 x (n := 10) (by decide)
     have g : ∀ j, j < i -> evLoad Try.prog 194 (.ptr b5 j) B = some (.int .u32 ((gw (W i) j).toNat : Int)) := fun j hj => by
      rw [ldW hB (by omega), BE0 (by rw [hWl]; exact hj)]
     rw [Bs8, Aa8 (by rfl)]
     simp only [RT, Q0, Q1, Q2, Q3, Q4, Q5, Q6, Q7, Q8, h19, w15, w2, Bt7 (r := b5) (show i - 15 < 64 by omega), Bt7 (r := b5) (show i - 2 < 64 by omega), h5, g (i - 15) (by omega), g (i - 2) (by omega)]
     refine Aa0 (Af2 (n := 7) (by decide) (by decide) rfl) ?_
     simp only [RT, Q0, Q1, Q2, Q3, Q4, Q5, Q6, Q7, Q8]
     refine Aa0 (Af2 (n := 18) (by decide) (by decide) rfl) ?_
     simp only [RT, Q0, Q1, Q2, Q3, Q4, Q5, Q6, Q7, Q8, Az9, AY1, Ar9, s3]
     refine Aa0 (Af2 (n := 17) (by decide) (by decide) rfl) ?_
     simp only [RT, Q0, Q1, Q2, Q3, Q4, Q5, Q6, Q7, Q8]
     refine Aa0 (Af2 (n := 19) (by decide) (by decide) rfl) ?_
     simp only [RT, Q0, Q1, Q2, Q3, Q4, Q5, Q6, Q7, Q8, Az9, AY1, Ar9, s10]
     rw [Bj4, Aa8 (by rfl)]
     obtain ⟨C, t1, t2, t3⟩ := stW hB (j := i) (by omega) (gw (W i) (i - 16) + shLow (gw (W i) (i - 15)) + gw (W i) (i - 7) + shHigh (gw (W i) (i - 2)))
     rw [A36 (hWl i) hi] at t3
     unfold shLow shHigh at t1
     simp only [RT, Q0, Q1, Q2, Q3, Q4, Q5, Q6, Q7, Q8, h19, w16, w7, Bt7 (r := b5) (show i - 16 < 64 by omega), Bt7 (r := b5) (show i - 7 < 64 by omega), h5, g (i - 16) (by omega), g (i - 7) (by omega), AL1, Bt7 (r := b5) hi, t1, hwi]
     refine ⟨64 - (i + 1), by omega, i + 1, rfl, by omega, rfl, h0, h1, h4, hF.trans t2 fun x q => .inl q, ?_⟩
     rw [hWs, if_neg q16]; exact t3
 rintro z e B hz ⟨rfl, h0, h4, h5, hF, hB⟩
 have hsB := hF.row _ _ (f12.row0 hs) (fun q => by cases q; omega)
 have hkB := hF.row _ _ (f2.row0 r4) (fun q => by cases q; omega)
 have ltB : A2.blk.length <= B.blk.length := hF.len
 have lst : evLoad Try.prog 196 (.ptr bs 0) B = some (.agg (wc .u32 (s8l s))) := At.load hsB (At.all _) BW4 Bt1 rfl
 obtain ⟨C, u1, u2, u3⟩ := BP5 (A := B) (List.replicate 8 0) (s8l s) (n := 8) (t := 196) rfl rfl Bt1
 simp only [RT, Q0, Q1, Q2, Q3, Q4, Q5, Q6, Q7, Q8, h0, lst, zcS, u1]
 obtain ⟨b11, hb11⟩ : ∃ x, x = B.blk.length := ⟨_, rfl⟩
 rw [<- hb11] at u3 ⊢
 have hB5 := u2.row0 hB
 have hK4 := u2.row0 hkB
 have hs2 := u2.row0 hsB
 have lt5 : b5 < B.blk.length := Ac9 hB
 have lt4' : b4 < B.blk.length := Ac9 hkB
 have lts' : bs < B.blk.length := Ac9 hsB
 have ax := BZ4 b11
 refine Aa2 (fun z e D => ∃ i : Nat, z = 64 - i /\ i <= 64 /\ e.get 106 = .int .i64 i /\ e.get 0 = .ptr bs 0 /\ e.get 4 = .ptr b4 0 /\ e.get 5 = .ptr b5 0 /\ e.get 11 = .ptr b11 0 /\ Fr (· = .row b11) C D /\ D.blk[b11]? = some ⟨wc .u32 (s8l (R i)), .var⟩)
  (fun z e D => Is z (.exit 2) /\ e.get 0 = .ptr bs 0 /\ e.get 11 = .ptr b11 0 /\ Fr (· = .row b11) C D /\ D.blk[b11]? = some ⟨wc .u32 (s8l (R 64)), .var⟩)
  ⟨_, 0, rfl, by omega, rfl, h0, h4, h5, rfl, .refl _ _, by rw [hR0]; exact u3⟩ ?_ ?_
 . rintro z e D ⟨i, rfl, hi, h106, h0, h4, h5, h11, hG, hD⟩
   simp only [RT, Q0, Q1, Q2, Q3, Q4, Q5, Q6, Q7, Q8, h106]
   refine Aa1 (fun q1 => ?_) (fun q1 => ?_)
   rotate_left
   . have : i = 64 := by omega
     subst this
     simp only [RT, Q0, Q1, Q2, Q3, Q4, Q5, Q6, Q7, Q8]
     exact ⟨rfl, h0, h11, hG, hD⟩
   have hi : i < 64 := by omega
   have hwi : IntKind.i64.wrap ((i : Int) + 1) = ((i + 1 : Nat) : Int) := by rw [Af3 (by omega)]
   obtain ⟨v, hv⟩ : ∃ v, v = R i := ⟨_, rfl⟩
   rw [<- hv] at hD
   have l8 := ld8 hD
   have lw := ldW (hG.row _ _ hB5 (fun q => by cases q; omega)) (j := i) (by rw [hWl]; exact hi)
   have lk := ldW (hG.row _ _ hK4 (fun q => by cases q; omega)) (j := i) (show i < 64 from hi)
   obtain ⟨E, v1, v2, v3, v4⟩ := Ab7 (P := Try.prog) (t := 196) (o := 0) (x := .agg (wc .u32 (s8l (rnd (gw shK i) (gw (W 64) i) v)))) (cs := wc .u32 (s8l (rnd (gw shK i) (gw (W 64) i) v))) hD rfl Bt1 (by rw [Ar2, Ar2]; exact Nat.le_refl _) (Bt4 _ _)
   rw [Ab2 (by rw [Ar2, Ar2]; rfl)] at v3
   have v1' : evStore Try.prog 196 (.ptr b11 0) (.agg [.int .u32 ((one8 (gw shK i) (gw (W 64) i) v + two8 v).toNat : Int), .int .u32 (v.a.toNat : Int), .int .u32 (v.b.toNat : Int), .int .u32 (v.c.toNat : Int), .int .u32 ((v.d + one8 (gw shK i) (gw (W 64) i) v).toNat : Int), .int .u32 (v.e.toNat : Int), .int .u32 (v.f.toNat : Int), .int .u32 (v.g.toNat : Int)]) D = some E := v1
   unfold one8 two8 sg0 sg1 chs maj at v1'
   simp only [RT, Q0, Q1, Q2, Q3, Q4, Q5, Q6, Q7, Q8, h106]
   rw [Bj5, Aa8 (by rfl)]
   simp only [RT, Q0, Q1, Q2, Q3, Q4, Q5, Q6, Q7, Q8, h11, ax, l8, Bj6, h106, h4, h5, Az9, AY1, Az8, BF0, Bt7 (r := b4) hi, Bt7 (r := b5) hi, lw, lk, Aa4]
   refine Aa0 (Af2 (n := 6) (by decide) (by decide) rfl) ?_
   simp only [RT, Q0, Q1, Q2, Q3, Q4, Q5, Q6, Q7, Q8, Aa4]
   refine ⟨Aa3 (ha := rfl) rfl l8.2.2.2.2.2.2.2 rfl (Aa3 (ha := rfl) rfl l8.2.2.2.2.2.2.1 rfl (Aa3 (ha := rfl) rfl l8.2.2.2.2.2.1 rfl (Aa3 (ha := rfl) rfl l8.2.2.2.2.2.2.1 rfl (Aa3 (ha := rfl) rfl lk rfl (Aa3 (ha := rfl) rfl lw rfl Aa4))))), ?_⟩
   refine Aa0 (Af2 (n := 11) (by decide) (by decide) rfl) ?_
   simp only [RT, Q0, Q1, Q2, Q3, Q4, Q5, Q6, Q7, Q8, Aa4]
   refine ⟨Aa3 (ha := rfl) rfl l8.2.2.2.2.2.2.2 rfl (Aa3 (ha := rfl) rfl l8.2.2.2.2.2.2.1 rfl (Aa3 (ha := rfl) rfl l8.2.2.2.2.2.1 rfl (Aa3 (ha := rfl) rfl l8.2.2.2.2.2.2.1 rfl (Aa3 (ha := rfl) rfl lk rfl (Aa3 (ha := rfl) rfl lw rfl Aa4))))), ?_⟩
   simp only [RT, Q0, Q1, Q2, Q3, Q4, Q5, Q6, Q7, Q8, Aa4, Az9, AY1]
   refine Aa0 (Af2 (n := 25) (by decide) (by decide) rfl) ?_
   simp only [RT, Q0, Q1, Q2, Q3, Q4, Q5, Q6, Q7, Q8, Aa4]
   refine ⟨Aa3 (ha := rfl) rfl l8.2.2.2.2.2.2.2 rfl (Aa3 (ha := rfl) rfl l8.2.2.2.2.2.2.1 rfl (Aa3 (ha := rfl) rfl l8.2.2.2.2.2.1 rfl (Aa3 (ha := rfl) rfl l8.2.2.2.2.2.2.1 rfl (Aa3 (ha := rfl) rfl lk rfl (Aa3 (ha := rfl) rfl lw rfl Aa4))))), ?_⟩
   simp only [RT, Q0, Q1, Q2, Q3, Q4, Q5, Q6, Q7, Q8, Aa4, Az9, AY1, AL1, Bj7, h11, ax, l8, Az8, BF0, Bp7, BP3]
   refine Aa0 (Af2 (n := 2) (by decide) (by decide) rfl) ?_
   simp only [RT, Q0, Q1, Q2, Q3, Q4, Q5, Q6, Q7, Q8, Aa4]
   refine ⟨Aa3 (ha := rfl) rfl l8.2.1 rfl (Aa3 (ha := rfl) rfl l8.2.2.1 rfl (Aa3 (ha := rfl) rfl l8.2.1 rfl Aa4)), ?_⟩
   refine Aa0 (Af2 (n := 13) (by decide) (by decide) rfl) ?_
   simp only [RT, Q0, Q1, Q2, Q3, Q4, Q5, Q6, Q7, Q8, Aa4]
   refine ⟨Aa3 (ha := rfl) rfl l8.2.1 rfl (Aa3 (ha := rfl) rfl l8.2.2.1 rfl (Aa3 (ha := rfl) rfl l8.2.1 rfl Aa4)), ?_⟩
   simp only [RT, Q0, Q1, Q2, Q3, Q4, Q5, Q6, Q7, Q8, Aa4, Az9, AY1]
   refine Aa0 (Af2 (n := 22) (by decide) (by decide) rfl) ?_
   simp only [RT, Q0, Q1, Q2, Q3, Q4, Q5, Q6, Q7, Q8, Aa4]
   refine ⟨Aa3 (ha := rfl) rfl l8.2.1 rfl (Aa3 (ha := rfl) rfl l8.2.2.1 rfl (Aa3 (ha := rfl) rfl l8.2.1 rfl Aa4)), ?_⟩
   simp only [RT, Q0, Q1, Q2, Q3, Q4, Q5, Q6, Q7, Q8, Aa4, Az9, AY1, AL1, h11, ax, l8, BZ6, v1']
   simp only [RT, Q0, Q1, Q2, Q3, Q4, Q5, Q6, Q7, Q8, h106, hwi]
   refine ⟨64 - (i + 1), by omega, i + 1, rfl, by omega, rfl, h0, h4, h5, h11, hG.trans v2 fun x q => .inl q, ?_⟩
   rw [hRs, <- hv]; exact v3
 rintro z e D hz ⟨rfl, h0, h11, hG, hD⟩
 have hsD := hG.row _ _ hs2 (fun q => by cases q; omega)
 have ltD : b11 < D.blk.length := Ac9 hD
 obtain ⟨v, hv⟩ : ∃ v, v = R 64 := ⟨_, rfl⟩
 rw [<- hv] at hD hcomp
 simp only [RT, Q0, Q1, Q2, Q3, Q4, Q5, Q6, Q7, Q8]
 refine Aa2 (fun z e E => ∃ i : Nat, z = 8 - i /\ i <= 8 /\ e.get 183 = .int .i64 i /\ e.get 0 = .ptr bs 0 /\ e.get 11 = .ptr b11 0 /\ Fr (· = .row bs) D E /\ E.blk[b11]? = some ⟨wc .u32 (s8l v), .var⟩ /\ E.blk[bs]? = some ⟨wc .u32 (mx8 s v i), .var⟩)
  (fun z e E => Is z (.exit 4) /\ Fr (· = .row bs) D E /\ E.blk[bs]? = some ⟨wc .u32 (s8l (add8 s v)), .var⟩)
  ⟨_, 0, rfl, by omega, rfl, h0, h11, .refl _ _, hD, hsD⟩ ?_ ?_
 . rintro z e E ⟨i, rfl, hi, h183, h0, h11, hE, hv1, hs1⟩
   simp only [RT, Q0, Q1, Q2, Q3, Q4, Q5, Q6, Q7, Q8, h183]
   refine Aa1 (fun q1 => ?_) (fun q1 => ?_)
   rotate_left
   . have : i = 8 := by omega
     subst this
     simp only [RT, Q0, Q1, Q2, Q3, Q4, Q5, Q6, Q7, Q8]
     exact ⟨rfl, hE, hs1⟩
   have hi : i < 8 := by omega
   have hwi : IntKind.i64.wrap ((i : Int) + 1) = ((i + 1 : Nat) : Int) := by rw [Af3 (by omega)]
   obtain ⟨m1, m2⟩ := Bl3 (s := s) (v := v) hi
   obtain ⟨F, t1, t2, t3⟩ := stW hs1 (j := i) (by rw [Bc4 (by omega)]; exact hi) (gw (s8l s) i + gw (s8l v) i)
   rw [m2] at t3
   have l1 := ldW hs1 (j := i) (by rw [Bc4 (by omega)]; exact hi)
   rw [m1] at l1
   simp only [RT, Q0, Q1, Q2, Q3, Q4, Q5, Q6, Q7, Q8, h183]
   rw [Bj8, Aa8 (by rfl)]
   simp only [RT, Q0, Q1, Q2, Q3, Q4, Q5, Q6, Q7, Q8, h0, h11, ax8 (r := bs) hi, ax8 (r := b11) hi, l1, ldW hv1 (j := i) (show i < 8 from hi), AL1, t1]
   simp only [RT, Q0, Q1, Q2, Q3, Q4, Q5, Q6, Q7, Q8, h183, hwi]
   refine ⟨8 - (i + 1), by omega, i + 1, rfl, by omega, rfl, h0, h11, hE.trans t2 fun x q => .inl q, t2.row _ _ hv1 (fun q => by cases q; omega), t3⟩
 rintro z e E hz ⟨rfl, hE, hs1⟩
 simp only [RT, Q0, Q1, Q2, Q3, Q4, Q5, Q6, Q7, Q8]
 rw [hcomp]
 have lA := f1.len
 have lA2 := f2.len
 exact ⟨(((f12.row_ hF (by omega)).then0 u2).row_ hG (by omega)).after0 hE, hs1⟩
end
end Go.Sv.Try
namespace Go.Sv.Try
open Go Go.Proofs
section
variable {A : AS} {r : Nat} {k : BK}
def b64 : Bts := List.replicate 64 0
theorem Aw8 : b64.length = 64 := by simp [b64]
theorem zcB : (zeroT Try.prog 200).bind V.cells = some (bc b64) := by kernel_rfl
theorem BF1 : evBuild Try.prog 200 [] = some (.agg (bc b64)) := by kernel_rfl
theorem stB {l : Bts} (hb : A.blk[r]? = some ⟨bc l, .var⟩) {j : Nat} (h : j < l.length) (x : UInt8) : ∃ A', evStore Try.prog 5 (.ptr r j) (.int .u8 (x.toNat : Int)) A = some A' /\ Fr (· = .row r) A A' /\ A'.blk[r]? = some ⟨bc (l.set j x), .var⟩ := by
 obtain ⟨A', s1, s2, s3, s4⟩ := Ab7 (P := Try.prog) (t := 5) (o := j) (x := .int .u8 (x.toNat : Int)) (cs := [.int .u8 (x.toNat : Int)]) hb rfl sz5 (by rw [Aa5]; exact h) rfl
 rw [Bb1 h] at s3
 exact ⟨A', s1, s2, s3⟩
theorem BX2 (l : Bts) (h : l.length = 64) : ∃ A', evStore Try.prog 200 (.ptr A.blk.length 0) (.agg (bc l)) (A.push ⟨bc b64, .var⟩) = some A' /\ Fr S0 A A' /\ A'.blk[A.blk.length]? = some ⟨bc l, .var⟩ := by
 obtain ⟨A2, s1, s2, s3, s4⟩ := Ag4 (P := Try.prog) A (z := bc b64) (t := 200) (x := .agg (bc l)) (cs := bc l) rfl (by rw [Aa5, h]; exact BD5) (by rw [Aa5, Aa5, h, Aw8]) (Ae0 _)
 exact ⟨A2, s1, s2, s3⟩
theorem BZ7 {l l' : Bts} (hb : A.blk[r]? = some ⟨bc l, .var⟩) (h : l.length = 64) (h' : l'.length = 64) : ∃ A', evStore Try.prog 200 (.ptr r 0) (.agg (bc l')) A = some A' /\ Fr (· = .row r) A A' /\ A'.blk[r]? = some ⟨bc l', .var⟩ := by
 obtain ⟨A', s1, s2, s3, s4⟩ := Ab7 (P := Try.prog) (t := 200) (o := 0) (x := .agg (bc l')) (cs := bc l') hb rfl (by rw [Aa5, h']; exact BD5) (by rw [Aa5, Aa5]; omega) (Ae0 _)
 rw [Ab2 (by rw [Aa5, Aa5]; omega)] at s3
 exact ⟨A', s1, s2, s3⟩
theorem BP6 {l : Bts} (hb : A.blk[r]? = some ⟨bc l, k⟩) (h : l.length = 64) : evLoad Try.prog 200 (.ptr r 0) A = some (.agg (bc l)) := At.load hb (At.all _) BW5 BD5 (by rw [Aa5, h])
theorem BP7 (n : Nat) (h : n <= 9223372036854775807) (A : AS) : cnv Try.prog 3 191 (some (.int .i64 (n : Int))) A = some (.val (.int .u64 (n : Int))) := by
 rw [At0 (by decide) Try.underlying3 Try.underlying191, Aq5]; congr 3; omega
theorem BF2 (n : Nat) (A : AS) : cnv Try.prog 191 5 (some (.int .u64 (n : Int))) A = some (.val (.int .u8 ((UInt8.ofNat n).toNat : Int))) := by
 rw [At0 (by decide) Try.underlying191 Try.underlying5]
 congr 3
theorem BP8 {l : Bts} {i n : Nat} (h : l.length = i) (hi : i < n) (x : UInt8) : (l ++ List.replicate (n - i) 0).set i x = l ++ [x] ++ List.replicate (n - (i + 1)) 0 := by
 obtain ⟨k, hk⟩ : ∃ k, n - i = k + 1 := ⟨n - i - 1, by omega⟩
 rw [hk, show n - (i + 1) = k by omega, List.replicate_succ, List.set_append, if_neg (by omega), <- h, Nat.sub_self]
 simp
def ownT (N : Nat) : Loc -> Prop := fun z => ∃ b, z = .row b /\ N <= b
def argB (_ : AS) (args : List V) (x : Bts) : Prop := args = [.agg (bc x)]
set_option maxRecDepth 10000 in
set_option maxHeartbeats 32000000 in
theorem AY2 {m : Hp} {bx : Nat} {v : V} {ls : List Bts} {S : Loc -> Prop} (hm : m.on A) (hS : ∀ b, S (.row b) -> m b = none /\ b ≠ bx /\ b < A.blk.length) (hb : A.blk[bx]? = some ⟨[v], .var⟩) (h : Slc (eSl eU8) m v ls) (hL : ls.flatten.length <= 1000000000000) (hLn : ls.length <= 1000000000000) :
 GoesG Try.prog HH 118 [] [.ptr bx 0] A S (ownT A.blk.length) (fun _ => False) (fun _ => True) (fun _ => True) argB (chunks (padB ls.flatten)) := by
 intro lo J D hJ hD hstep hJ0
 refine Aa6 rfl Try.func118 (by unfold Try.f118; rfl) Try.ntmps118 (by unfold Try.f118; rfl) (by simp) ?_
 obtain ⟨L, hLd⟩ : ∃ L, L = ls.flatten := ⟨_, rfl⟩
 rw [<- hLd] at hL hstep ⊢
 obtain ⟨ch, hch⟩ : ∃ c, c = chunks (padB L) := ⟨_, rfl⟩
 rw [<- hch] at hstep ⊢
 obtain ⟨N, hN⟩ : ∃ n, n = A.blk.length := ⟨_, rfl⟩
 have hJ' : ∀ {i : Nat} {B C : AS} {b : Nat}, J i B -> Fr (· = .row b) B C -> N <= b -> J i C := fun q w z => hJ _ _ _ q (w.mono fun x y => ⟨_, y, by rw [<- hN]; exact z⟩)
 have hJ0' : ∀ {i : Nat} {B C : AS}, J i B -> Fr S0 B C -> J i C := fun q w => hJ _ _ _ q (w.mono fun x y => y.elim)
 have hfold : ∀ {B C : AS} {b : Nat}, Fr S A B -> Fr (· = .row b) B C -> N <= b -> Fr S A C := fun q w z => q.trans w fun x y => by subst y; exact .inr (show A.blk.length <= _ by rw [<- hN]; exact z)
 have row_keep : ∀ {B C : AS} {b : Nat} {cs : List V}, Fr S B C -> B.blk[b]? = some ⟨cs, .var⟩ -> N <= b -> C.blk[b]? = some ⟨cs, .var⟩ := fun q w z => q.row _ _ w fun y => by have := (hS _ y).2.2; omega
 have hld : ∀ {B}, Fr S A B -> evLoad Try.prog 22 (.ptr bx 0) B = some v := fun q => Al3 BV0 (q.row _ _ hb fun w => (hS _ w).2.1 rfl)
 have hmB : ∀ {B}, Fr S A B -> m.on B := fun q => hm.fr q fun b w => (hS b w).1
 obtain ⟨A1, e1, f1, r1, n1⟩ := Aa9 A (bc b64)
 simp only [RT, Q0, Q1, Q2, Q3, Q4, Q5, Q6, Q7, Q8, zcB, <- e1]
 rw [<- hN] at r1 n1 ⊢
 have hf1 : Fr S A A1 := f1.mono fun _ q => q.elim
 have hlen := fun B => h.len (P := Try.prog) Try.underlying22 B
 simp only [RT, Q0, Q1, Q2, Q3, Q4, Q5, Q6, Q7, Q8, hld hf1, hlen]
 refine Aa2 (fun z e B => ∃ (i : Nat) (p w : Bts), z = ls.length - i /\ i <= ls.length /\ e.get 13 = .int .i64 i /\ e.get 0 = .yield lo /\ e.get 3 = .ptr N 0 /\ e.get 4 = .int .i64 (p.length : Int) /\ e.get 11 = v /\ e.get 12 = .int .i64 ls.length /\ p = (ls.take i).flatten /\ Fr S A B /\ B.blk[N]? = some ⟨bc w, .var⟩ /\ Blk64 p w /\ J (p.length / 64) B /\ N < B.blk.length)
  (fun z e B => Fr S A B /\ ((Is z (.exit 0) /\ ∃ w : Bts, e.get 0 = .yield lo /\ e.get 3 = .ptr N 0 /\ e.get 4 = .int .i64 (L.length : Int) /\ B.blk[N]? = some ⟨bc w, .var⟩ /\ Blk64 L w /\ J (L.length / 64) B /\ N < B.blk.length) ∨ (Is z .ret /\ ∃ i, i < ch.length /\ D i B)))
  ⟨_, 0, [], b64, rfl, by omega, rfl, rfl, rfl, rfl, rfl, rfl, rfl, hf1, r1, ⟨Aw8, rfl⟩, hJ0' hJ0 f1, by omega⟩ ?_ ?_
 . rintro z e B ⟨i, p, w, rfl, hi, h13, h0, h3, h4, h11, h12, hp, hf, hw, hbk, hj, hNB⟩
   simp only [RT, Q0, Q1, Q2, Q3, Q4, Q5, Q6, Q7, Q8, h12, h13]
   refine Aa1 (fun q1 => ?_) (fun q1 => ?_)
   rotate_left
   . have : i = ls.length := by omega
     subst this
     rw [List.take_length] at hp
     simp only [RT, Q0, Q1, Q2, Q3, Q4, Q5, Q6, Q7, Q8]
     rw [hLd, <- hp]
     exact ⟨hf, .inl ⟨rfl, w, h0, h3, h4, hw, hbk, hj, hNB⟩⟩
   obtain ⟨x, hx⟩ := Ad0 (l := ls) (i := i) (by omega)
   obtain ⟨b, o, xv, g3, g4, g5⟩ := h.at (P := Try.prog) (k := .i64) (hmB hf) Try.underlying22 A28 A66 hx
   have g5 := AV4.1 g5
   have hxl := fun B => g5.len (P := Try.prog) Try.underlying44 B
   have hwi : IntKind.i64.wrap ((i : Int) + 1) = ((i + 1 : Nat) : Int) := by
    rw [Af3 (by omega)]
   have hpx : (ls.take (i + 1)).flatten = p ++ x := by rw [Ag5 hx, List.flatten_append, hp]; simp
   have hpre : ∃ rest, L = p ++ x ++ rest := ⟨(ls.drop (i + 1)).flatten, by rw [hLd, <- hpx, <- List.flatten_append, List.take_append_drop]⟩
   obtain ⟨rest, hrest⟩ := hpre
   have hxL : x.length <= L.length := by rw [hrest]; simp only [List.length_append]; omega
   simp only [RT, Q0, Q1, Q2, Q3, Q4, Q5, Q6, Q7, Q8, h11, h13, g3, g4, hxl]
   refine Aa2 (fun z e B => ∃ (j : Nat) (w : Bts), z = x.length - j /\ j <= x.length /\ e.get 19 = .int .i64 j /\ e.get 13 = .int .i64 i /\ e.get 0 = .yield lo /\ e.get 3 = .ptr N 0 /\ e.get 4 = .int .i64 ((p ++ x.take j).length : Int) /\ e.get 11 = v /\ e.get 12 = .int .i64 ls.length /\ e.get 17 = xv /\ e.get 18 = .int .i64 x.length /\ Fr S A B /\ B.blk[N]? = some ⟨bc w, .var⟩ /\ Blk64 (p ++ x.take j) w /\ J ((p ++ x.take j).length / 64) B /\ N < B.blk.length)
    (fun z e B => Fr S A B /\ ((Is z (.exit 2) /\ ∃ w : Bts, e.get 13 = .int .i64 i /\ e.get 0 = .yield lo /\ e.get 3 = .ptr N 0 /\ e.get 4 = .int .i64 ((p ++ x).length : Int) /\ e.get 11 = v /\ e.get 12 = .int .i64 ls.length /\ B.blk[N]? = some ⟨bc w, .var⟩ /\ Blk64 (p ++ x) w /\ J ((p ++ x).length / 64) B /\ N < B.blk.length) ∨ (Is z .ret /\ ∃ i, i < ch.length /\ D i B)))
    ⟨_, 0, w, rfl, by omega, rfl, h13, h0, h3, by rw [List.take_zero, List.append_nil]; exact h4, h11, h12, rfl, rfl, hf, hw, by rw [List.take_zero, List.append_nil]; exact hbk, by rw [List.take_zero, List.append_nil]; exact hj, hNB⟩ ?_ ?_
   . clear hw hbk hj hNB h13 h0 h3 h4 h11 h12 hf g4 g3
     rintro z e B ⟨j, w, rfl, hjx, h19, h13, h0, h3, h4, h11, h12, h17, h18, hf, hw, hbk, hj, hNB⟩
     simp only [RT, Q0, Q1, Q2, Q3, Q4, Q5, Q6, Q7, Q8, h18, h19]
     refine Aa1 (fun q2 => ?_) (fun q2 => ?_)
     rotate_left
     . have : j = x.length := by omega
       subst this
       rw [List.take_length] at hbk hj h4
       simp only [RT, Q0, Q1, Q2, Q3, Q4, Q5, Q6, Q7, Q8]
       exact ⟨hf, .inl ⟨rfl, w, h13, h0, h3, h4, h11, h12, hw, hbk, hj, hNB⟩⟩
     obtain ⟨y, hy⟩ := Ad0 (l := x) (i := j) (by omega)
     obtain ⟨b2, o2, g3, g4⟩ := Ap0 g5 (hmB hf) hy
     have hxs : x.take (j + 1) = x.take j ++ [y] := Ag5 hy
     have hpj : p ++ x.take (j + 1) = p ++ x.take j ++ [y] := by rw [hxs, List.append_assoc]
     have hpre2 : ∃ r2, L = p ++ x.take j ++ [y] ++ r2 := ⟨x.drop (j + 1) ++ rest, by rw [hrest, <- hpj, List.append_assoc, List.append_assoc, <- List.append_assoc (x.take (j + 1)), List.take_append_drop]⟩
     obtain ⟨r2, hr2⟩ := hpre2
     obtain ⟨q, hq⟩ : ∃ q, q = p ++ x.take j := ⟨_, rfl⟩
     rw [<- hq] at h4 hbk hj hr2
     have hLl : L.length = q.length + 1 + r2.length := by rw [hr2]; simp only [List.length_append, List.length_singleton]
     have wq : IntKind.i64.wrap ((q.length : Int) + 1) = ((q.length + 1 : Nat) : Int) := by rw [Af3 (by omega)]
     have wj : IntKind.i64.wrap ((j : Int) + 1) = ((j + 1 : Nat) : Int) := by rw [Af3 (by omega)]
     have rm : ∀ n : Nat, evBin Try.prog .rem 3 (.int .i64 (n : Int)) (.int .i64 64) = some (.int .i64 ((n % 64 : Nat) : Int)) := fun n => by rw [A60, if_neg (by omega)]; rfl
     obtain ⟨C, s1, s2, s3⟩ := stB hw (j := q.length % 64) (by rw [hbk.1]; omega) y
     have hC := hfold hf s2 (Nat.le_refl _)
     have hjC := hJ' hj s2 (Nat.le_refl _)
     have hNC : N < C.blk.length := Ac9 s3
     obtain ⟨st1, st2⟩ := hbk.step y
     have hw64 : (w.set (q.length % 64) y).length = 64 := by rw [List.length_set]; exact hbk.1
     by_cases q64 : (q.length + 1) % 64 = 0
     . obtain ⟨u1, u2, u3⟩ := st2 q64
       have hck : ch[q.length / 64]? = some (w.set (q.length % 64) y) := by
        rw [hch, A73 L (by omega), u1, hr2]
        congr 1
        rw [List.append_assoc, List.drop_append_of_le_length (by omega), List.drop_append_of_le_length (by omega), <- List.append_assoc, List.take_append_of_le_length (by rw [List.length_append, List.length_drop]; simp; omega)]
       obtain ⟨bb, E, y1, y2, y3, y4⟩ := hstep _ _ C _ hck hjC hC trivial rfl
       simp only [RT, Q0, Q1, Q2, Q3, Q4, Q5, Q6, Q7, Q8, h17, h19, g3, g4, h4, rm, h3, AR1 (r := N) (show q.length % 64 < 64 by omega), s1, wq, decide_eq_true (show (((q.length + 1) % 64 : Nat) : Int) = 0 by omega), h0, BP6 s3 hw64]
       refine ⟨_, E, y1, ?_⟩
       simp only [RT, Q0, Q1, Q2, Q3, Q4, Q5, Q6, Q7, Q8]
       have hE := hC.thn y2
       cases bb with
       | true =>
        simp only [RT, Q0, Q1, Q2, Q3, Q4, Q5, Q6, Q7, Q8, h19, wj]
        refine ⟨x.length - (j + 1), by omega, j + 1, w.set (q.length % 64) y, rfl, by omega, ?_⟩
        rw [hpj, <- hq]
        have lq : (q ++ [y]).length = q.length + 1 := by simp
        have z1 := row_keep y2 s3 (Nat.le_refl _)
        have z2 := (y3 rfl).1
        rw [<- u3] at z2
        have z3 : N < E.blk.length := Ac9 z1
        exact ⟨rfl, h13, h0, h3, by rw [lq], h11, h12, h17, h18, hE, z1, u2, z2, z3⟩
       | false =>
        simp only [RT, Q0, Q1, Q2, Q3, Q4, Q5, Q6, Q7, Q8]
        exact ⟨hE, .inr ⟨rfl, _, (List.getElem?_eq_some_iff.1 hck).1, y4 rfl⟩⟩
     . have hbk2 := st1 q64
       simp only [RT, Q0, Q1, Q2, Q3, Q4, Q5, Q6, Q7, Q8, h17, h19, g3, g4, h4, rm, h3, AR1 (r := N) (show q.length % 64 < 64 by omega), s1, wq, decide_eq_false (show ¬ ((((q.length + 1) % 64 : Nat) : Int) = 0) by omega)]
       simp only [RT, Q0, Q1, Q2, Q3, Q4, Q5, Q6, Q7, Q8, h19, wj]
       refine ⟨x.length - (j + 1), by omega, j + 1, w.set (q.length % 64) y, rfl, by omega, ?_⟩
       rw [hpj, <- hq]
       have lq : (q ++ [y]).length = q.length + 1 := by simp
       exact ⟨rfl, h13, h0, by rw [lq], h11, h12, h18, hC, s3, hbk2, by rw [lq, show (q.length + 1) / 64 = q.length / 64 by omega]; exact hjC, hNC⟩
   . rintro z e B hz ⟨hf, ⟨rfl, w, h13, h0, h3, h4, h11, h12, hw, hbk, hj, hNB⟩ | ⟨rfl, hd⟩⟩
     . simp only [RT, Q0, Q1, Q2, Q3, Q4, Q5, Q6, Q7, Q8, h13, hwi]
       refine ⟨ls.length - (i + 1), by omega, i + 1, p ++ x, w, rfl, by omega, ?_⟩
       exact ⟨rfl, h0, h3, h4, h11, h12, hpx.symm, hf, hw, hbk, hj, hNB⟩
     . simp only [RT, Q0, Q1, Q2, Q3, Q4, Q5, Q6, Q7, Q8]
       exact ⟨hf, .inr ⟨rfl, hd⟩⟩
 rintro z e B hz ⟨hf, ⟨rfl, w, h0, h3, h4, hw, hbk, hj, hNB⟩ | ⟨rfl, hd⟩⟩
 rotate_left
 . simp only [RT, Q0, Q1, Q2, Q3, Q4, Q5, Q6, Q7, Q8]
   exact ⟨hf, .inr hd⟩
 obtain ⟨r, hr⟩ : ∃ r, r = L.length % 64 := ⟨_, rfl⟩
 have hr64 : r < 64 := by omega
 obtain ⟨n8, hn8⟩ : ∃ n, n = L.length * 8 := ⟨_, rfl⟩
 obtain ⟨B1, s1, s2, s3⟩ := BX2 (A := B) b64 Aw8
 obtain ⟨b9, hb9⟩ : ∃ b, b = B.blk.length := ⟨_, rfl⟩
 rw [<- hb9] at s1 s3
 have hN9 : N <= b9 /\ N ≠ b9 := by omega
 have rm : ∀ n : Nat, evBin Try.prog .rem 3 (.int .i64 (n : Int)) (.int .i64 64) = some (.int .i64 ((n % 64 : Nat) : Int)) := fun n => by rw [A60, if_neg (by omega)]; rfl
 have hw1 := s2.row0 hw
 have hwl : (bc w).length = 64 := by rw [Aa5]; exact hbk.1
 have sl1 := Ap9 (P := Try.prog) (A := B1) (t := 200) (n := 64) (b := b9) (o := 0) (z := 0) Try.underlying200 sz5 s3 (by show 0 + 64 * 1 <= (bc b64).length; rw [Aa5, Aw8]; exact Nat.le_refl _)
 have sl2 := BE4 (P := Try.prog) (A := B1) (t := 200) (n := 64) (b := N) (o := 0) (z := 0) (j := r) (kd := .i64) Try.underlying200 sz5 hw1 (by show 0 + 64 * 1 <= (bc w).length; rw [hwl]; exact Nat.le_refl _) (by omega)
 have hrg : B1.range N 0 r = some (bc (w.take r)) := by
  unfold AS.range
  rw [hw1]
  simp only []
  rw [if_pos (by rw [hwl]; omega), List.drop_zero]
  unfold bc; rw [List.map_take]
 obtain ⟨B2, c1, c2, c3⟩ := Bk3 (P := Try.prog) (t := 44) (n := 64) (n' := r) Try.underlying44 sz5 s3 hrg (by rw [Aa5, List.length_take, hbk.1]; omega) (Ae0 _) (by omega) (by rw [Aa5, Aw8]; omega)
 have c3 : B2.blk[b9]? = some ⟨bc (w.take r ++ List.replicate (64 - r) 0), .var⟩ := by
  rw [c3]; congr 2
  unfold bc b64
  rw [List.map_append, <- List.map_drop, List.drop_replicate]
 have hwr : (w.take r).length = r := by rw [List.length_take, hbk.1]; omega
 obtain ⟨B3, d1, d2, d3⟩ := stB c3 (j := r) (by rw [List.length_append, hwr, List.length_replicate]; omega) 128
 rw [BP8 hwr hr64, show w.take r = L.drop (64 * (L.length / 64)) by rw [hr]; exact hbk.2, show 64 - (r + 1) = 63 - r by omega] at d3
 have d1 : evStore Try.prog 5 (.ptr b9 r) (.int .u8 128) B2 = some B3 := d1
 have hf3 : Fr S A B3 := hfold (hfold (hf.then0 s2) c2 hN9.1) d2 hN9.1
 have hj3 : J (L.length / 64) B3 := hJ' (hJ' (hJ0' hj s2) c2 hN9.1) d2 hN9.1
 have hdl : (L.drop (64 * (L.length / 64))).length = r := by rw [List.length_drop]; omega
 simp only [RT, Q0, Q1, Q2, Q3, Q4, Q5, Q6, Q7, Q8, BF1, zcB, s1, <- hb9]
 rw [Bj9, Aa8 (by rfl)]
 simp only [RT, Q0, Q1, Q2, Q3, Q4, Q5, Q6, Q7, Q8, sl1, h4, rm, <- hr, h3, sl2, c1, AR1 (r := b9) hr64, d1]
 refine Aq1 (fun z e C => Fr S A C /\ ((Is z .normal /\ ∃ (q : Bts) (kk : Nat), q.length = 56 /\ kk + 1 = ch.length /\ ch[kk]? = some (q ++ be8 n8) /\ J kk C /\ C.blk[b9]? = some ⟨bc (cntB q n8 0), .var⟩ /\ e.get 0 = .yield lo /\ e.get 4 = .int .i64 (L.length : Int) /\ e.get 9 = .ptr b9 0) ∨ (Is z .ret /\ ∃ i, i < ch.length /\ D i C))) ?_ ?_
 . refine Aa1 (fun q1 => ?_) (fun q1 => ?_)
   . obtain ⟨k1, k2, k3⟩ := Bb0 L (by omega)
     rw [<- hch] at k1 k2 k3
     rw [<- hr] at k1
     have hl64 : (L.drop (64 * (L.length / 64)) ++ [128] ++ List.replicate (63 - r) (0 : UInt8)).length = 64 := by simp only [List.length_append, hdl, List.length_singleton, List.length_replicate]; omega
     obtain ⟨bb, E, y1, y2, y3, y4⟩ := hstep _ _ B3 _ k1 hj3 hf3 trivial rfl
     simp only [RT, Q0, Q1, Q2, Q3, Q4, Q5, Q6, Q7, Q8, h0, BP6 d3 hl64]
     refine ⟨_, E, y1, ?_⟩
     simp only [RT, Q0, Q1, Q2, Q3, Q4, Q5, Q6, Q7, Q8]
     have hE := hf3.thn y2
     cases bb with
     | true =>
      have z1 := row_keep y2 d3 hN9.1
      obtain ⟨G, g1, g2, g3⟩ := BZ7 z1 hl64 Aw8
      simp only [RT, Q0, Q1, Q2, Q3, Q4, Q5, Q6, Q7, Q8, BF1, g1]
      have zB : G.blk[b9]? = some ⟨bc (cntB (List.replicate 56 0) n8 0), .var⟩ := by rw [g3, AQ3, List.replicate_append_replicate]; rfl
      have zJ := hJ' (y3 rfl).1 g2 hN9.1
      have z56 : (List.replicate 56 (0 : UInt8)).length = 56 := by simp
      have zk : L.length / 64 + 1 + 1 = ch.length := by omega
      rw [<- hn8] at k2
      refine ⟨hfold hE g2 hN9.1, .inl ⟨rfl, List.replicate 56 0, L.length / 64 + 1, ?_⟩⟩
      and_intros <;> first | rfl | assumption
     | false =>
      simp only [RT, Q0, Q1, Q2, Q3, Q4, Q5, Q6, Q7, Q8]
      exact ⟨hE, .inr ⟨rfl, _, (List.getElem?_eq_some_iff.1 k1).1, y4 rfl⟩⟩
   . obtain ⟨k1, k2⟩ := Ba9 L (by omega)
     rw [<- hch] at k1 k2
     rw [<- hr] at k1
     simp only [RT, Q0, Q1, Q2, Q3, Q4, Q5, Q6, Q7, Q8]
     have zB : B3.blk[b9]? = some ⟨bc (cntB (L.drop (64 * (L.length / 64)) ++ [128] ++ List.replicate (55 - r) 0) n8 0), .var⟩ := by
      rw [d3, AQ3, List.append_assoc _ (List.replicate (55 - r) 0), List.replicate_append_replicate, show 63 - r = 55 - r + 8 by omega]
     have z56 : (L.drop (64 * (L.length / 64)) ++ [128] ++ List.replicate (55 - r) (0 : UInt8)).length = 56 := by simp only [List.length_append, hdl, List.length_singleton, List.length_replicate]; omega
     have zk : L.length / 64 + 1 = ch.length := by omega
     rw [<- hn8] at k1
     refine ⟨hf3, .inl ⟨rfl, L.drop (64 * (L.length / 64)) ++ [128] ++ List.replicate (55 - r) 0, L.length / 64, ?_⟩⟩
     and_intros <;> first | rfl | assumption
 rintro z e C ⟨hfC, ⟨rfl, q, kk, hq, hkk, hck, hjC, hC, h0, h4, h9⟩ | ⟨rfl, hd⟩⟩
 rotate_left
 . simp only [RT, Q0, Q1, Q2, Q3, Q4, Q5, Q6, Q7, Q8]
   exact ⟨hfC, .inr hd⟩
 simp only [RT, Q0, Q1, Q2, Q3, Q4, Q5, Q6, Q7, Q8]
 refine Aa2 (fun z e E => ∃ i : Nat, z = 8 - i /\ i <= 8 /\ e.get 57 = .int .i64 i /\ e.get 0 = .yield lo /\ e.get 4 = .int .i64 (L.length : Int) /\ e.get 9 = .ptr b9 0 /\ Fr S A E /\ J kk E /\ E.blk[b9]? = some ⟨bc (cntB q n8 i), .var⟩)
  (fun z e E => Is z (.exit 4) /\ e.get 0 = .yield lo /\ e.get 9 = .ptr b9 0 /\ Fr S A E /\ J kk E /\ E.blk[b9]? = some ⟨bc (q ++ be8 n8), .var⟩)
  ⟨_, 0, rfl, by omega, rfl, h0, h4, h9, hfC, hjC, hC⟩ ?_ ?_
 . clear hC hjC hfC h0 h4 h9
   rintro z e E ⟨i, rfl, hi, h57, h0, h4, h9, hfE, hjE, hE⟩
   simp only [RT, Q0, Q1, Q2, Q3, Q4, Q5, Q6, Q7, Q8, h57]
   refine Aa1 (fun q2 => ?_) (fun q2 => ?_)
   rotate_left
   . have : i = 8 := by omega
     subst this
     rw [Bk1] at hE
     simp only [RT, Q0, Q1, Q2, Q3, Q4, Q5, Q6, Q7, Q8]
     exact ⟨rfl, h0, h9, hfE, hjE, hE⟩
   have hi : i < 8 := by omega
   have w63 : IntKind.i64.wrap (63 - (i : Int)) = ((63 - i : Nat) : Int) := by rw [Ac6 (by omega) (by omega)]; omega
   have w8 : IntKind.i64.wrap (8 * (i : Int)) = ((8 * i : Nat) : Int) := by rw [Ac6 (by omega) (by omega)]; omega
   have wi : IntKind.i64.wrap ((i : Int) + 1) = ((i + 1 : Nat) : Int) := by rw [Af3 (by omega)]
   have sh3 : evShift .shl .u64 (L.length : Int) 3 = some (.int .u64 (n8 : Int)) := by
    show some (V.int .u64 (IntKind.u64.wrap ((L.length : Int) * 2 ^ 3))) = _
    rw [Aq5]; congr 2; omega
   have shr : evShift .shr .u64 (n8 : Int) ((8 * i : Nat) : Int) = some (.int .u64 ((n8 / 256 ^ i : Nat) : Int)) := by
    rw [At1 n8 (8 * i) (by show 8 * i <= 64; omega), Nat.pow_mul]
   have hcl : (cntB q n8 i).length = 64 := Bk2 hq (by omega)
   obtain ⟨G, t1, t2, t3⟩ := stB hE (j := 63 - i) (by rw [hcl]; omega) (UInt8.ofNat (n8 / 256 ^ i))
   rw [Bb2 hq hi] at t3
   simp only [RT, Q0, Q1, Q2, Q3, Q4, Q5, Q6, Q7, Q8, h57, w63, h4, BP7 L.length (by omega), A61, sh3, w8, Ar9, shr, BF2, h9, AR1 (r := b9) (show 63 - i < 64 by omega), t1]
   simp only [RT, Q0, Q1, Q2, Q3, Q4, Q5, Q6, Q7, Q8, h57, wi]
   exact ⟨8 - (i + 1), by omega, i + 1, rfl, by omega, rfl, h0, hfold hfE t2 hN9.1, hJ' hjE t2 hN9.1, t3⟩
 rintro z e E hz ⟨rfl, h0, h9, hfE, hjE, hE⟩
 obtain ⟨bb, G, y1, y2, y3, y4⟩ := hstep _ _ E _ hck hjE hfE trivial rfl
 simp only [RT, Q0, Q1, Q2, Q3, Q4, Q5, Q6, Q7, Q8, h0, h9, BP6 hE (show (q ++ be8 n8).length = 64 by rw [List.length_append, hq, As2])]
 refine ⟨_, G, y1, ?_⟩
 simp only [RT, Q0, Q1, Q2, Q3, Q4, Q5, Q6, Q7, Q8]
 refine ⟨hfE.thn y2, ?_⟩
 cases bb with
 | true =>
  have := (y3 rfl).1
  rw [hkk] at this
  exact .inl this
 | false => exact .inr ⟨_, (List.getElem?_eq_some_iff.1 hck).1, y4 rfl⟩
end
end Go.Sv.Try
namespace Go.Sv
open Go
theorem GoesG.monoT {τ : Type} {P : Program} {H : Hints} {h : FuncId} {first cap : List V} {A0 : AS} {S T T' : Loc -> Prop} {K : Nat -> Prop} {Pre Fin : AS -> Prop} {AR : AS -> List V -> τ -> Prop} {xs : List τ} (g : GoesG P H h first cap A0 S T K Pre Fin AR xs) (ht : ∀ x, T x -> T' x) : GoesG P H h first cap A0 S T' K Pre Fin AR xs :=
 fun l J D h1 h2 h3 h4 => g l J D (fun i A A' q w => h1 i A A' q (w.mono ht)) h2 h3 h4
theorem Bc5 {s : S8} {i : Nat} (h : i < 32) : ((out8 s).take i ++ List.replicate (32 - i) 0).set i (UInt8.ofNat ((gw (s8l s) (i / 4)).toNat >>> (24 - 8 * (i % 4)))) = (out8 s).take (i + 1) ++ List.replicate (32 - (i + 1)) 0 := by
 obtain ⟨k, hk⟩ : ∃ k, 32 - i = k + 1 := ⟨32 - i - 1, by omega⟩
 have hl : ((out8 s).take i).length = i := by rw [List.length_take, An7]; omega
 rw [hk, show 32 - (i + 1) = k by omega, List.replicate_succ, List.set_append, if_neg (by omega), hl, Nat.sub_self, List.take_add_one]
 unfold out8
 rw [List.getElem?_map, List.getElem?_range h]
 simp
end Go.Sv
namespace Go.Sv.Try
open Go Go.Proofs
section
variable {A : AS} {r : Nat} {k : BK}
theorem AY3 {v : V} (hv : v.one = true) : ∃ w A', EvF Try.prog HH 109 [v] A w A' /\ w = .fn 118 [] [.ptr A.blk.length 0] /\ Fr S0 A A' /\ A'.blk[A.blk.length]? = some ⟨[v], .var⟩ := by
 refine Aa6 rfl Try.func109 (by unfold Try.f109; rfl) Try.ntmps109 (by unfold Try.f109; rfl) (by simp) ?_
 simp only [RT, Q0, Q1, Q2, Q3, Q4, Q5, Q6, Q7, Q8, one_cells hv]
 exact ⟨Fr.pushVar A _, Ab3 A _⟩
theorem BP9 : evBuild Try.prog 196 [(0, .int .u32 1779033703), (1, .int .u32 3144134277), (2, .int .u32 1013904242), (3, .int .u32 2773480762), (4, .int .u32 1359893119), (5, .int .u32 2600822924), (6, .int .u32 528734635), (7, .int .u32 1541459225)] = some (.agg (wc .u32 (s8l sha0))) := by kernel_rfl
def z32s : Bts := List.replicate 32 0
theorem Bc6 : (zeroT Try.prog 32).bind V.cells = some (bc z32s) := by kernel_rfl
theorem BQ0 : evBuild Try.prog 32 [] = some (.agg (bc z32s)) := by kernel_rfl
theorem BZ8 {r j : Nat} (h : j < 32) : evIndexAddr Try.prog 32 (.ptr r 0) (.int .i64 (j : Int)) = some (.ptr r j) := by
 rw [Ar1 Try.underlying32 sz5 h, Nat.zero_add, Nat.mul_one]
theorem ldI {l : Bts} (hb : A.blk[r]? = some ⟨bc l, k⟩) (h : l.length = 32) : evLoad Try.prog 32 (.ptr r 0) A = some (.agg (bc l)) := At.load hb (At.all _) AW4 As0 (by rw [Aa5, h])
theorem Bk0 {l l' : Bts} (hb : A.blk[r]? = some ⟨bc l, .var⟩) (h : l.length = 32) (h' : l'.length = 32) : ∃ A', evStore Try.prog 32 (.ptr r 0) (.agg (bc l')) A = some A' /\ Fr (· = .row r) A A' /\ A'.blk[r]? = some ⟨bc l', .var⟩ := by
 obtain ⟨A', s1, s2, s3, s4⟩ := Ab7 (P := Try.prog) (t := 32) (o := 0) (x := .agg (bc l')) (cs := bc l') hb rfl (by rw [Aa5, h']; exact As0) (by rw [Aa5, Aa5]; omega) (Ae0 _)
 rw [Ab2 (by rw [Aa5, Aa5]; omega)] at s3
 exact ⟨A', s1, s2, s3⟩
theorem BQ1 (l : Bts) (h : l.length = 32) : ∃ A', evStore Try.prog 32 (.ptr A.blk.length 0) (.agg (bc l)) (A.push ⟨bc z32s, .var⟩) = some A' /\ Fr S0 A A' /\ A'.blk[A.blk.length]? = some ⟨bc l, .var⟩ := by
 obtain ⟨A2, s1, s2, s3, s4⟩ := Ag4 (P := Try.prog) A (z := bc z32s) (t := 32) (x := .agg (bc l)) (cs := bc l) rfl (by rw [Aa5, h]; exact As0) (by rw [Aa5, Aa5, h]; rfl) (Ae0 _)
 exact ⟨A2, s1, s2, s3⟩
theorem BF3 (n : Nat) (A : AS) : cnv Try.prog 194 5 (some (.int .u32 (n : Int))) A = some (.val (.int .u8 ((UInt8.ofNat n).toNat : Int))) := by
 rw [At0 (by decide) Try.underlying194 Try.underlying5]
 congr 3
set_option maxRecDepth 10000 in
set_option maxHeartbeats 16000000 in
theorem Aw9 {m : Hp} {v : V} {ls : List Bts} (hw : WF A) (hm : m.on A) (h : Slc (eSl eU8) m v ls) (hL : ls.flatten.length <= 1000000000000) (hLn : ls.length <= 1000000000000) :
 ∃ w A', EvF Try.prog HH 90 [v] A w A' /\ Fr S0 A A' /\ w = .agg (bc (sha ls.flatten)) := by
 refine Aa6 rfl Try.func90 (by unfold Try.f90; rfl) Try.ntmps90 (by unfold Try.f90; rfl) (by simp) ?_
 obtain ⟨L, hLd⟩ : ∃ L, L = ls.flatten := ⟨_, rfl⟩
 obtain ⟨ch, hch⟩ : ∃ c, c = chunks (padB L) := ⟨_, rfl⟩
 obtain ⟨A1, e1, f1, r1, n1⟩ := Aa9 A (bc z32s)
 obtain ⟨b1, hb1⟩ : ∃ b, b = A.blk.length := ⟨_, rfl⟩
 obtain ⟨A2, e2, f2, r2⟩ := BP5 (A := A1) (List.replicate 8 0) (s8l sha0) (n := 8) (t := 196) rfl rfl Bt1
 obtain ⟨bs, hbs⟩ : ∃ b, b = A1.blk.length := ⟨_, rfl⟩
 have hmA2 : m.on A2 := (hm.fr0 f1).fr0 f2
 obtain ⟨_, A3, k3, rfl, f3, r3⟩ := AY3 (A := A2) h.one
 obtain ⟨bx, hbx⟩ : ∃ b, b = A2.blk.length := ⟨_, rfl⟩
 simp only [RT, Q0, Q1, Q2, Q3, Q4, Q5, Q6, Q7, Q8, Bc6, <- e1, BP9, zcS, e2]
 refine Aa0 k3 ?_
 rw [<- hbs] at r2
 rw [<- hbx] at r3
 rw [<- hb1] at r1
 rw [<- hbs, <- hbx, <- hb1]
 have l2 := Ac9 r2
 have l1 := Ac9 r1
 have l3 := Ac9 r3
 have l23 := f3.len
 have l12 := f2.len
 have fA3 := (f1.then0 f2).then0 f3
 have r1' := f3.row0 (f2.row0 r1)
 have r2' := f3.row0 r2
 have hms : ∀ b, A.blk.length <= b -> m b = none := fun b hb => hm.fresh hb
 simp only [RT, Q0, Q1, Q2, Q3, Q4, Q5, Q6, Q7, Q8]
 refine AW1 (S := (· = .row bs)) (T := ownT A3.blk.length) (K := fun _ => False) (Pre := fun _ => True) (Fin := fun _ => True) (AR := argB) (xs := ch)
  (fun i B => B.blk[bs]? = some ⟨wc .u32 (s8l ((ch.take i).foldl comp sha0)), .var⟩) (fun B => B.blk[bs]? = some ⟨wc .u32 (s8l (ch.foldl comp sha0)), .var⟩)
  rfl (fun q => by cases q) (fun q => by obtain ⟨b, q, _⟩ := q; cases q) ?_ r2' ?_ ?_ Try.func90 Try.ntmps90 (by simp) ?_ ?_ ?_
 . intro A0 hf0
   rw [hch, hLd]
   refine GoesG.monoT (AY2 ((hm.fr0 fA3).fr0 hf0) ?_ (hf0.row0 r3) h hL hLn) fun x ⟨b, q1, q2⟩ => ⟨b, q1, by have := hf0.len; omega⟩
   rintro b (q | q)
   . cases q
     have := hf0.len
     exact ⟨hms _ (by omega), by omega, by omega⟩
   . cases q
 . intro i B C q hf
   exact hf.row _ _ q (by rintro (⟨b, y1, y2⟩ | y); cases y1; omega; cases y)
 . intro B C q hf
   exact hf.row _ _ q (by intro y; cases y)
 . rintro i x B args hi hI hfB _ rfl
   refine ⟨_, rfl, ?_⟩
   have hx64 : x.length = 64 := by rw [hch] at hi; exact (A72 hi).2.2
   obtain ⟨C, s1, s2, s3⟩ := BX2 (A := B) x hx64
   simp only [RT, Q0, Q1, Q2, Q3, Q4, Q5, Q6, Q7, Q8, zcB, s1]
   refine ⟨rfl, s2.mono fun _ q => q.elim, fun B1 hB1 => ?_⟩
   have hsB := Ac9 hI
   obtain ⟨w, E, t1, t2, t3⟩ := A75 (hB1.row _ _ (s2.row0 hI) (fun q => by cases q)) (hB1.row _ _ s3 (fun q => by cases q)) hx64 (by omega)
   refine Aa0 t1 ?_
   simp only [RT, Q0, Q1, Q2, Q3, Q4, Q5, Q6, Q7, Q8]
   refine ⟨t2, .inl ⟨rfl, ?_, fun r q => q.elim⟩⟩
   rw [t3, Ag5 hi, List.foldl_append]; rfl
 . intro B q _
   rwa [List.take_length] at q
 . intro B hE hfB
   obtain ⟨s, hs⟩ : ∃ s, s = ch.foldl comp sha0 := ⟨_, rfl⟩
   rw [<- hs] at hE
   obtain ⟨C, e5, f5, r5, n5⟩ := Aa9 B (bc z32s)
   obtain ⟨b5, hb5⟩ : ∃ b, b = B.blk.length := ⟨_, rfl⟩
   simp only [RT, Q0, Q1, Q2, Q3, Q4, Q5, Q6, Q7, Q8, Bc6, <- e5]
   rw [<- hb5] at r5 ⊢
   have hEs := f5.row0 hE
   have lbs := Ac9 hE
   have hfC : Fr S0 A C := (fA3.row_ hfB (by omega)).then0 f5
   have hr1C := f5.row0 (hfB.row _ _ r1' (fun q => by cases q; omega))
   have lb1 : b1 < B.blk.length := Ac9 (hfB.row _ _ r1' (fun q => by cases q; omega))
   refine Aa2 (fun z e E => ∃ i : Nat, z = 32 - i /\ i <= 32 /\ e.get 12 = .int .i64 i /\ e.get 2 = .ptr b1 0 /\ e.get 3 = .ptr bs 0 /\ e.get 5 = .ptr b5 0 /\ Fr (· = .row b5) C E /\ E.blk[b5]? = some ⟨bc ((out8 s).take i ++ List.replicate (32 - i) 0), .var⟩)
    (fun z e E => Is z (.exit 2) /\ e.get 2 = .ptr b1 0 /\ e.get 5 = .ptr b5 0 /\ Fr (· = .row b5) C E /\ E.blk[b5]? = some ⟨bc (out8 s), .var⟩)
    ⟨_, 0, rfl, by omega, rfl, rfl, rfl, rfl, .refl _ _, r5⟩ ?_ ?_
   . rintro z e E ⟨i, rfl, hi, h12, h2, h3, h5, hf, hB⟩
     simp only [RT, Q0, Q1, Q2, Q3, Q4, Q5, Q6, Q7, Q8, h12]
     refine Aa1 (fun q1 => ?_) (fun q1 => ?_)
     rotate_left
     . have : i = 32 := by omega
       subst this
       rw [List.take_of_length_le (by rw [An7]; exact Nat.le_refl _), Nat.sub_self, List.replicate_zero, List.append_nil] at hB
       simp only [RT, Q0, Q1, Q2, Q3, Q4, Q5, Q6, Q7, Q8]
       exact ⟨rfl, h2, h5, hf, hB⟩
     have hi : i < 32 := by omega
     have wi : IntKind.i64.wrap ((i : Int) + 1) = ((i + 1 : Nat) : Int) := by rw [Af3 (by omega)]
     have q4 : evBin Try.prog .quo 3 (.int .i64 (i : Int)) (.int .i64 4) = some (.int .i64 ((i / 4 : Nat) : Int)) := by
      rw [BK0, if_neg (by omega), show ((i : Int)).tdiv 4 = ((i / 4 : Nat) : Int) from rfl, Ac6 (by omega) (by omega)]
     have r4 : evBin Try.prog .rem 3 (.int .i64 (i : Int)) (.int .i64 4) = some (.int .i64 ((i % 4 : Nat) : Int)) := by
      rw [A60, if_neg (by omega)]; rfl
     have w8 : IntKind.i64.wrap (8 * ((i % 4 : Nat) : Int)) = ((8 * (i % 4) : Nat) : Int) := by rw [Ac6 (by omega) (by omega)]; omega
     have w24 : IntKind.i64.wrap (24 - ((8 * (i % 4) : Nat) : Int)) = ((24 - 8 * (i % 4) : Nat) : Int) := by rw [Ac6 (by omega) (by omega)]; omega
     have lS := ldW (hf.row _ _ hEs (fun q => by cases q; omega)) (j := i / 4) (show i / 4 < 8 by omega)
     obtain ⟨G, t1, t2, t3⟩ := stB hB (j := i) (by rw [List.length_append, List.length_take, An7, List.length_replicate]; omega) (UInt8.ofNat ((gw (s8l s) (i / 4)).toNat >>> (24 - 8 * (i % 4))))
     rw [Bc5 hi] at t3
     have t1' : evStore Try.prog 5 (.ptr b5 i) (.int .u8 ((UInt8.ofNat ((gw (s8l s) (i / 4) >>> (24 - 8 * (i % 4))).toNat)).toNat : Int)) E = some G := by rw [BitVec.toNat_ushiftRight]; exact t1
     simp only [RT, Q0, Q1, Q2, Q3, Q4, Q5, Q6, Q7, Q8, h12, q4, r4, w8, w24, h3, ax8 (r := bs) (show i / 4 < 8 by omega), lS, Ar9, Bl4 _ (n := 24 - 8 * (i % 4)) (by omega), BF3, h5, BZ8 (r := b5) hi, t1']
     simp only [RT, Q0, Q1, Q2, Q3, Q4, Q5, Q6, Q7, Q8, h12, wi]
     refine ⟨32 - (i + 1), by omega, i + 1, rfl, by omega, rfl, h2, hf.trans t2 fun x q => .inl q, t3⟩
   rintro z e E hz ⟨rfl, h2, h5, hf, hB⟩
   have hr1E := hf.row _ _ hr1C (fun q => by cases q; omega)
   obtain ⟨G, t1, t2, t3⟩ := Bk0 hr1E (by simp [z32s]) (An7 s)
   simp only [RT, Q0, Q1, Q2, Q3, Q4, Q5, Q6, Q7, Q8, h5, ldI hB (An7 s), h2, t1, ldI t3 (An7 s)]
   refine ⟨(hfC.row_ hf (by omega)).row_ t2 (by omega), ?_⟩
   rw [hs, hch, hLd]; rfl
end
end Go.Sv.Try
namespace Go.Sv
open Go
end Go.Sv
namespace Go.Sv.Try
open Go Go.Proofs
section
variable {A : AS} {r : Nat} {k : BK}
theorem BQ2 : bsl Try.prog 44 1 (some [(0, .int .u8 0)]) = some (.newSl (bc [0]) 1 1) := by kernel_rfl
end
end Go.Sv.Try
namespace Go.Sv
open Go
section
variable {P : Program} {t : TypeId}
end
end Go.Sv
namespace Go.Sv.Try
open Go Go.Proofs
section
variable {A : AS} {r : Nat} {k : BK}
theorem stU {l : List W32} (hs : Sole A r r) (hb : A.blk[r]? = some ⟨wc .u64 l, .arr r 0⟩) {j : Nat} (h : j < l.length) (x : W32) : ∃ A', evStore Try.prog 191 (.ptr r j) (.int .u64 (x.toNat : Int)) A = some A' /\ Fr (· = .row r) A A' /\ A'.blk[r]? = some ⟨wc .u64 (l.set j x), .arr r 0⟩ /\ Sole A' r r := by
 obtain ⟨A', s1, s2, s3, s4, s5⟩ := Ba0 (P := Try.prog) (t := 191) (o := j) (x := .int .u64 (x.toNat : Int)) (cs := [.int .u64 (x.toNat : Int)]) hs hb rfl BW2 (by rw [Ar2]; exact h) rfl
 rw [Bt5 h] at s3
 exact ⟨A', s1, s2, s3, s5⟩
structure RW (A B : AS) (bk bh bw : Nat) (s : S8) (l : List W32) : Prop where
 fr : Fr S0 A B
 k : B.blk[bk]? = some ⟨wc .u64 shK, .arr bk 0⟩
 h : B.blk[bh]? = some ⟨wc .u64 (s8l s), .arr bh 0⟩
 hs : Sole B bh bh
 w : B.blk[bw]? = some ⟨wc .u64 l, .arr bw 0⟩
 ws : Sole B bw bw
theorem RW.store {B : AS} {bk bh bw : Nat} {s : S8} {l : List W32} (h : RW A B bk bh bw s l) (h1 : bk ≠ bw) (h2 : bh ≠ bw) (h3 : A.blk.length <= bw) {j : Nat} (hj : j < l.length) (x : W32) : ∃ C, evStore Try.prog 191 (.ptr bw j) (.int .u64 (x.toNat : Int)) B = some C /\ RW A C bk bh bw s (l.set j x) := by
 obtain ⟨C, s1, s2, s3, s4⟩ := stU h.ws h.w hj x
 exact ⟨C, s1, h.fr.row_ s2 h3, s2.row _ _ h.k (fun q => by cases q; exact h1 rfl), s2.row _ _ h.h (fun q => by cases q; exact h2 rfl), h.hs.fr s2 (fun q => by cases q), s3, s4⟩
theorem RW.s0 {B C : AS} {bk bh bw : Nat} {s : S8} {l : List W32} (h : RW A B bk bh bw s l) (hf : Fr S0 B C) : RW A C bk bh bw s l :=
 ⟨h.fr.then0 hf, hf.row0 h.k, hf.row0 h.h, h.hs.fr hf (fun q => q), hf.row0 h.w, h.ws.fr hf (fun q => q)⟩
end
end Go.Sv.Try
namespace Go.Sv.Try
open Go Go.Proofs
section
variable {A : AS} {r : Nat} {k : BK}
end
end Go.Sv.Try
namespace Go.Sv
open Go
theorem BF4 {m : Hp} {b : Nat} {l : Bts} {n : Nat} (h : m b = some (bc l)) (hn : l.length = n) : Slc eU8 m (.sl b 0 n 1) l := by
 subst hn
 refine .inr ⟨b, 0, bc l, rfl, h, by simp [eU8, Aa5], fun i x hx => ?_⟩
 show ((bc l).drop (0 + i * 1)).take 1 = _
 rw [Nat.mul_one, Nat.zero_add, List.take_one, List.head?_drop, Aw1, hx]; rfl
theorem BO5 {τ : Type} {E : Enc τ} {m : Hp} {b n : Nat} {vs : List V} {ls : List (List τ)} (h : m b = some vs) (hn : ls.length = n) (hl : vs.length = n) (hs : ∀ (i : Nat) x, ls[i]? = some x -> ∃ v, vs[i]? = some v /\ Slc E m v x) : Slc (eSl E) m (.sl b 0 n 1) ls := by
 subst hn
 refine .inr ⟨b, 0, vs, rfl, h, by show 0 + ls.length * 1 <= _; omega, fun i x hx => ?_⟩
 obtain ⟨v, h1, h2⟩ := hs i x hx
 refine ⟨v, ?_, h2⟩
 show (vs.drop (0 + i * 1)).take 1 = _
 rw [Nat.mul_one, Nat.zero_add, List.take_one, List.head?_drop, h1]; rfl
end Go.Sv
namespace Go.Sv.Try
open Go Go.Proofs
section
variable {A : AS} {r : Nat} {k : BK}
theorem BQ3 : bsl Try.prog 44 1 (some [(0, .int .u8 1)]) = some (.newSl (bc [1]) 1 1) := by kernel_rfl
theorem BF5 (b o n z b' o' n' z' : Nat) : bsl Try.prog 22 2 (some [(0, .sl b o n z), (1, .sl b' o' n' z')]) = some (.newSl [.sl b o n z, .sl b' o' n' z'] 2 1) := by kernel_rfl
theorem BF6 (b o n z : Nat) : bsl Try.prog 22 2 (some [(0, .sl b o n z), (1, .snil)]) = some (.newSl [.sl b o n z, .snil] 2 1) := by kernel_rfl
theorem BQ4 (a1 a2 a3 a4 b1 b2 b3 b4 c1 c2 c3 c4 : Nat) : bsl Try.prog 22 3 (some [(0, .sl a1 a2 a3 a4), (1, .sl b1 b2 b3 b4), (2, .sl c1 c2 c3 c4)]) = some (.newSl [.sl a1 a2 a3 a4, .sl b1 b2 b3 b4, .sl c1 c2 c3 c4] 3 1) := by kernel_rfl
theorem BQ5 {b o n z : Nat} {v : V} (h : v = .snil ∨ ∃ b o n z, v = .sl b o n z) : bsl Try.prog 22 2 (some [(0, .sl b o n z), (1, v)]) = some (.newSl [.sl b o n z, v] 2 1) := by
 rcases h with rfl | ⟨_, _, _, _, rfl⟩
 . exact BF6 _ _ _ _
 . exact BF5 _ _ _ _ _ _ _ _
theorem AA8 {τ : Type} {E : Enc τ} {m : Hp} {v : V} {l : List τ} (h : Slc E m v l) : v = .snil ∨ ∃ b o n z, v = .sl b o n z := by
 rcases h with ⟨rfl, _⟩ | ⟨b, o, cs, rfl, _⟩
 . exact .inl rfl
 . exact .inr ⟨_, _, _, _, rfl⟩
theorem Bc7 {m : Hp} {v : V} {x : Bts} (hw : WF A) (hm : m.on A) (h : Slc eU8 m v x) (hx : x.length <= 100000000000) : ∃ w A', EvF Try.prog HH 64 [v] A w A' /\ Fr S0 A A' /\ w = .agg (bc (leafH x)) := by
 refine Aa6 rfl Try.func64 (by unfold Try.f64; rfl) Try.ntmps64 (by unfold Try.f64; rfl) (by simp) ?_
 obtain ⟨A1, e1, f1, r1, n1⟩ := Aa9 A (bc z32s)
 obtain ⟨b1, hb1⟩ : ∃ b, b = A.blk.length := ⟨_, rfl⟩
 obtain ⟨b2, hb2⟩ : ∃ b, b = A1.blk.length := ⟨_, rfl⟩
 obtain ⟨A2, e2⟩ : ∃ B, B = A1.push ⟨bc [0], .arr b2 0⟩ := ⟨_, rfl⟩
 obtain ⟨b3, hb3⟩ : ∃ b, b = A2.blk.length := ⟨_, rfl⟩
 obtain ⟨A3, e3⟩ : ∃ B, B = A2.push ⟨[.sl b2 0 1 1, v], .arr b3 0⟩ := ⟨_, rfl⟩
 have f2 : Fr S0 A1 A2 := by rw [e2, hb2]; exact Fr.pushArr A1 _
 have f3 : Fr S0 A2 A3 := by rw [e3, hb3]; exact Fr.pushArr A2 _
 have r2 : A2.blk[b2]? = some ⟨bc [0], .arr b2 0⟩ := by rw [e2, hb2]; exact Ab3 A1 _
 have r3 : A3.blk[b3]? = some ⟨[.sl b2 0 1 1, v], .arr b3 0⟩ := by rw [e3, hb3]; exact Ab3 A2 _
 rw [<- hb1] at r1 n1
 have n2 : A2.blk.length = b2 + 1 := by rw [e2, Ac8, hb2]
 have f13 := (f1.then0 f2).then0 f3
 have hm3 := hm.fr0 f13
 have hno : ∀ b, A.blk.length <= b -> m b = none := fun b hb => hm.fresh hb
 obtain ⟨m', hm'⟩ : ∃ m', m' = (m.put b2 (bc [0])).put b3 [.sl b2 0 1 1, v] := ⟨_, rfl⟩
 have le1 : m.le m' := by
  rw [hm']
  exact Hp.le_trans (Hp.le_put (hno b2 (by omega))) (Hp.le_put (by show (if b3 = b2 then _ else m b3) = none; rw [if_neg (by omega)]; exact hno b3 (by omega)))
 have on' : m'.on A3 := by rw [hm']; exact (hm3.put (f3.row0 r2)).put r3
 have g2 : m' b2 = some (bc [0]) := by rw [hm']; show (if b2 = b3 then _ else (if b2 = b2 then _ else _)) = _; rw [if_neg (by omega), if_pos rfl]
 have g3 : m' b3 = some [.sl b2 0 1 1, v] := by rw [hm']; exact Hp.put_get _ _ _
 have hs : Slc (eSl eU8) m' (.sl b3 0 2 1) [[0], x] := BO5 g3 rfl rfl fun i y hy => by
  match i, hy with
  | 0, hy => cases hy; exact ⟨_, rfl, BF4 g2 rfl⟩
  | 1, hy => cases hy; exact ⟨_, rfl, h.mono le1⟩
  | i + 2, hy => simp at hy
 have hfl : ([[0], x] : List Bts).flatten = 0 :: x := by simp
 obtain ⟨w4, A4, k4, f4, hw4⟩ := Aw9 (f13.wf hw) on' hs (by rw [hfl, List.length_cons]; omega) (by simp)
 rw [hfl] at hw4
 subst hw4
 obtain ⟨A5, u1, u2, u3⟩ := Bk0 (f4.row0 (f3.row0 (f2.row0 r1))) (by simp [z32s]) (An8 (0 :: x))
 simp only [RT, Q0, Q1, Q2, Q3, Q4, Q5, Q6, Q7, Q8, Bc6, <- e1, <- hb1, BQ2, <- hb2, <- e2, BQ5 (AA8 h), <- hb3, <- e3]
 refine Aa0 k4 ?_
 simp only [RT, Q0, Q1, Q2, Q3, Q4, Q5, Q6, Q7, Q8, u1, ldI u3 (An8 _)]
 exact ⟨(f13.then0 f4).row_ u2 (by omega), by unfold leafH; rfl⟩
set_option maxHeartbeats 4000000 in
theorem Ap1 {x y : Bts} (hw : WF A) (hx : x.length = 32) (hy : y.length = 32) : ∃ w A', EvF Try.prog HH 83 [.agg (bc x), .agg (bc y)] A w A' /\ Fr S0 A A' /\ w = .agg (bc (nodeH x y)) := by
 refine Aa6 rfl Try.func83 (by unfold Try.f83; rfl) Try.ntmps83 (by unfold Try.f83; rfl) (by simp) ?_
 obtain ⟨Ax, ex, fx, rx, nx⟩ := Aa9 A (bc x)
 obtain ⟨bx, hbx⟩ : ∃ b, b = A.blk.length := ⟨_, rfl⟩
 obtain ⟨Ay, ey, fy, ry, ny⟩ := Aa9 Ax (bc y)
 obtain ⟨by_, hby⟩ : ∃ b, b = Ax.blk.length := ⟨_, rfl⟩
 obtain ⟨A1, e1, f1, r1, n1⟩ := Aa9 Ay (bc z32s)
 obtain ⟨b1, hb1⟩ : ∃ b, b = Ay.blk.length := ⟨_, rfl⟩
 obtain ⟨b2, hb2⟩ : ∃ b, b = A1.blk.length := ⟨_, rfl⟩
 obtain ⟨A2, e2⟩ : ∃ B, B = A1.push ⟨bc [1], .arr b2 0⟩ := ⟨_, rfl⟩
 obtain ⟨b3, hb3⟩ : ∃ b, b = A2.blk.length := ⟨_, rfl⟩
 obtain ⟨A3, e3⟩ : ∃ B, B = A2.push ⟨[.sl b2 0 1 1, .sl bx 0 32 1, .sl by_ 0 32 1], .arr b3 0⟩ := ⟨_, rfl⟩
 have f2 : Fr S0 A1 A2 := by rw [e2, hb2]; exact Fr.pushArr A1 _
 have f3 : Fr S0 A2 A3 := by rw [e3, hb3]; exact Fr.pushArr A2 _
 have r2 : A2.blk[b2]? = some ⟨bc [1], .arr b2 0⟩ := by rw [e2, hb2]; exact Ab3 A1 _
 have r3 : A3.blk[b3]? = some ⟨[.sl b2 0 1 1, .sl bx 0 32 1, .sl by_ 0 32 1], .arr b3 0⟩ := by rw [e3, hb3]; exact Ab3 A2 _
 rw [<- hbx] at rx nx
 rw [<- hby] at ry ny
 rw [<- hb1] at r1 n1
 have n2 : A2.blk.length = b2 + 1 := by rw [e2, Ac8, hb2]
 have rx2 := f2.row0 (f1.row0 (fy.row0 rx))
 have ry2 := f2.row0 (f1.row0 ry)
 have f13 := (((fx.then0 fy).then0 f1).then0 f2).then0 f3
 obtain ⟨m', hm'⟩ : ∃ m', m' = (((Hp.emp.put bx (bc x)).put by_ (bc y)).put b2 (bc [1])).put b3 [.sl b2 0 1 1, .sl bx 0 32 1, .sl by_ 0 32 1] := ⟨_, rfl⟩
 have on' : m'.on A3 := by rw [hm']; exact ((((Hp.on_emp A3).put (f3.row0 rx2)).put (f3.row0 ry2)).put (f3.row0 r2)).put r3
 have g3 : m' b3 = some [.sl b2 0 1 1, .sl bx 0 32 1, .sl by_ 0 32 1] := by rw [hm']; exact Hp.put_get _ _ _
 have gg : m' b2 = some (bc [1]) /\ m' bx = some (bc x) /\ m' by_ = some (bc y) := by
  rw [hm']; unfold Hp.put
  refine ⟨?_, ?_, ?_⟩
  . rw [if_neg (by omega), if_pos rfl]
  . rw [if_neg (by omega), if_neg (by omega), if_neg (by omega), if_pos rfl]
  . rw [if_neg (by omega), if_neg (by omega), if_pos rfl]
 obtain ⟨g1, gx, gy⟩ := gg
 have hs : Slc (eSl eU8) m' (.sl b3 0 3 1) [[1], x, y] := BO5 g3 rfl rfl fun i z hz => by
  match i, hz with
  | 0, hz => cases hz; exact ⟨_, rfl, BF4 g1 rfl⟩
  | 1, hz => cases hz; exact ⟨_, rfl, BF4 gx hx⟩
  | 2, hz => cases hz; exact ⟨_, rfl, BF4 gy hy⟩
  | i + 3, hz => simp at hz
 have hfl : ([[1], x, y] : List Bts).flatten = 1 :: (x ++ y) := by simp
 obtain ⟨w4, A4, k4, f4, hw4⟩ := Aw9 (f13.wf hw) on' hs (by rw [hfl, List.length_cons, List.length_append]; omega) (by simp)
 rw [hfl] at hw4
 subst hw4
 obtain ⟨A5, u1, u2, u3⟩ := Bk0 (f4.row0 (f3.row0 (f2.row0 r1))) (by simp [z32s]) (An8 (1 :: (x ++ y)))
 have slx := Ap9 (P := Try.prog) (A := A2) (t := 32) (n := 32) (b := bx) (o := 0) (z := 0) Try.underlying32 sz5 rx2 (by show 0 + 32 * 1 <= (bc x).length; rw [Aa5, hx]; exact Nat.le_refl _)
 have sly := Ap9 (P := Try.prog) (A := A2) (t := 32) (n := 32) (b := by_) (o := 0) (z := 0) Try.underlying32 sz5 ry2 (by show 0 + 32 * 1 <= (bc y).length; rw [Aa5, hy]; exact Nat.le_refl _)
 simp only [RT, Q0, Q1, Q2, Q3, Q4, Q5, Q6, Q7, Q8, <- ex, <- hbx, <- ey, <- hby, Bc6, <- e1, <- hb1]
 rw [BD3, Aa8 (by rfl)]
 simp only [RT, Q0, Q1, Q2, Q3, Q4, Q5, Q6, Q7, Q8, BQ3, <- hb2, <- e2, slx, sly, BQ4, <- hb3, <- e3]
 refine Aa0 k4 ?_
 simp only [RT, Q0, Q1, Q2, Q3, Q4, Q5, Q6, Q7, Q8, u1, ldI u3 (An8 _)]
 exact ⟨(f13.then0 f4).row_ u2 (by omega), by unfold nodeH; rfl⟩
end
end Go.Sv.Try
