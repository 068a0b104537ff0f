/- Sums: words are turned, a block is taken in. -/
import Derived.Test.YtjhnciflgaijjaaSvBase
import Derived.Test.YtjhnciflgaijjaaAu0
import Derived.Test.YtjhnciflgaijjaaSv4
import Derived.Test.YtjhnciflgaijjaaAuA
set_option linter.unusedSimpArgs false
set_option linter.unusedVariables false
open Nat renaming reduceLT → Q0, reduceBEq → Q1, reduceEqDiff → Q2, reduceAdd → Q3
open Int renaming reduceEq → Q4, reduceLT → Q5, reduceLE → Q6, reduceGT → Q7, reduceGE → Q8
namespace Go.Sv
open Go
theorem BG6 (x y z w : Nat) (hx : x < 256) (hy : y < 256) (hz : z < 256) (hw : w < 256) : BitVec.ofNat 32 x <<< 24 ||| BitVec.ofNat 32 y <<< 16 ||| BitVec.ofNat 32 z <<< 8 ||| BitVec.ofNat 32 w = (BitVec.ofNat 32 (((x * 256 + y) * 256 + z) * 256 + w) : W32) := by
 apply BitVec.eq_of_toNat_eq
 simp only [BitVec.toNat_or, BitVec.toNat_shiftLeft, BitVec.toNat_ofNat]
 have e1 : (x % 2 ^ 32) <<< 24 % 2 ^ 32 = x <<< 24 := by simp only [Nat.shiftLeft_eq]; omega
 have e2 : (y % 2 ^ 32) <<< 16 % 2 ^ 32 = y <<< 16 := by simp only [Nat.shiftLeft_eq]; omega
 have e3 : (z % 2 ^ 32) <<< 8 % 2 ^ 32 = z <<< 8 := by simp only [Nat.shiftLeft_eq]; omega
 have e4 : w % 2 ^ 32 = w := by omega
 rw [e1, e2, e3, e4]
 rw [<- Nat.shiftLeft_add_eq_or_of_lt (b := y <<< 16) (i := 24) (by simp only [Nat.shiftLeft_eq]; omega) x]
 have e5 : x <<< 24 + y <<< 16 = (x * 256 + y) <<< 16 := by simp only [Nat.shiftLeft_eq]; omega
 rw [e5, <- Nat.shiftLeft_add_eq_or_of_lt (b := z <<< 8) (i := 16) (by simp only [Nat.shiftLeft_eq]; omega)]
 have e6 : (x * 256 + y) <<< 16 + z <<< 8 = ((x * 256 + y) * 256 + z) <<< 8 := by simp only [Nat.shiftLeft_eq]; omega
 rw [e6, <- Nat.shiftLeft_add_eq_or_of_lt (b := w) (i := 8) (by omega)]
 simp only [Nat.shiftLeft_eq]; omega
theorem AL7 (l : Bts) (i : Nat) : gb l i < 256 := UInt8.toNat_lt _
theorem BG7 (l : Bts) (i : Nat) : (BitVec.ofNat 32 (gb l i) : W32).toNat = gb l i := by
 rw [BitVec.toNat_ofNat]; have := AL7 l i; omega
theorem AL8 {l : List W32} {i n : Nat} (h : l.length = i) (hi : i < n) (x z : W32) : (l ++ List.replicate (n - i) z).set i x = l ++ [x] ++ List.replicate (n - (i + 1)) z := by
 obtain ⟨k, hk⟩ : ∃ k, n - i = k + 1 := ⟨n - i - 1, by omega⟩
 rw [hk, show n - (i + 1) = k by omega, List.replicate_succ, List.set_append, if_neg (by omega), <- h, Nat.sub_self]
 simp
def mx8 (s v : S8) (i : Nat) : List W32 := (s8l (add8 s v)).take i ++ (s8l s).drop i
theorem A00 {s v : S8} {i : Nat} (h : i <= 8) : (mx8 s v i).length = 8 := by simp [mx8, s8l]; omega
theorem A55 {s v : S8} {i : Nat} (h : i < 8) : gw (mx8 s v i) i = gw (s8l s) i /\ (mx8 s v i).set i (gw (s8l s) i + gw (s8l v) i) = mx8 s v (i + 1) := by
 have : i = 0 ∨ i = 1 ∨ i = 2 ∨ i = 3 ∨ i = 4 ∨ i = 5 ∨ i = 6 ∨ i = 7 := by omega
 rcases this with rfl | rfl | rfl | rfl | rfl | rfl | rfl | rfl <;> exact ⟨rfl, rfl⟩
end Go.Sv
namespace Go.Sv.Try
open Go Go.Proofs
section
variable {A : AS} {r : Nat} {k : BK}
theorem A01 (x y : W32) : evBits .xor .u32 (x.toNat : Int) (y.toNat : Int) = some (.int .u32 ((x ^^^ y).toNat : Int)) := Bv3 (.inl rfl) x y
theorem BG8 (x y : W32) : evBits .and .u32 (x.toNat : Int) (y.toNat : Int) = some (.int .u32 ((x &&& y).toNat : Int)) := Bv4 (.inl rfl) x y
theorem BR8 (x y : W32) : evBits .or .u32 (x.toNat : Int) (y.toNat : Int) = some (.int .u32 ((x ||| y).toNat : Int)) := BG0 (.inl rfl) x y
theorem Bn0 (x : W32) {n : Nat} (h : n <= 32) : evShift .shr .u32 (x.toNat : Int) (n : Int) = some (.int .u32 ((x >>> n).toNat : Int)) := Bc7 (.inl rfl) x h
theorem B31 (n : Int) (A : AS) : cnv Try.prog 3 157 (some (.int .i64 n)) A = some (.val (.int .u64 (IntKind.u64.wrap n))) := Aq1 (by decide) Try.underlying3 Try.underlying157
theorem BR9 (l : Bts) (j : Nat) (A : AS) : cnv Try.prog 5 194 (some (.int .u8 (gb l j : Int))) A = some (.val (.int .u32 ((BitVec.ofNat 32 (gb l j) : W32).toNat : Int))) := by
 rw [Aq1 (by decide) Try.underlying5 Try.underlying194, BG7, AA9]
 have := AL7 l j
 rw [Int.emod_eq_of_lt (by omega) (by omega)]
theorem Af3 {x : W32} {n : Nat} (h1 : 1 <= n) (h2 : n <= 31) {y : Int} (hy : y = -(n : Int)) : EvF Try.prog HH 119 [.int .u32 (x.toNat : Int), .int .i64 y] A (.int .u32 ((rot x n).toNat : Int)) A := by
 suffices h : ∃ w A', EvF Try.prog HH 119 [.int .u32 (x.toNat : Int), .int .i64 y] A w A' /\ A' = A /\ w = .int .u32 ((rot x n).toNat : Int) by
  obtain ⟨w, A', h, rfl, rfl⟩ := h; exact h
 have e1 : evBits .and .u64 (IntKind.u64.wrap y) 31 = some (.int .u64 ((32 - n : Nat) : Int)) := by
  rw [Ac1, hy]
  unfold evBits
  have a1 : BitVec.ofInt IntKind.u64.bits (-(n : Int) % 18446744073709551616) = BitVec.ofNat IntKind.u64.bits (18446744073709551616 - n) := by
   rw [show -(n : Int) % 18446744073709551616 = ((18446744073709551616 - n : Nat) : Int) by omega, BitVec.ofInt_natCast]
  have a2 : (BitVec.ofNat IntKind.u64.bits (18446744073709551616 - n) &&& BitVec.ofInt IntKind.u64.bits 31).toNat = 32 - n := by
   show ((BitVec.ofNat 64 (18446744073709551616 - n) : BitVec 64) &&& (BitVec.ofNat 64 31 : BitVec 64)).toNat = 32 - n
   rw [BitVec.toNat_and, BitVec.toNat_ofNat, BitVec.toNat_ofNat, Nat.mod_eq_of_lt (by omega), show (31 : Nat) % 2 ^ 64 = 2 ^ 5 - 1 by rfl, Nat.and_two_pow_sub_one_eq_mod]
   omega
  simp only [a1, a2]
  rw [Ac1]; congr 2; omega
 have e2 : IntKind.u64.wrap (32 - ((32 - n : Nat) : Int)) = (n : Int) := by rw [Ac1]; omega
 refine Aa5 rfl Try.func119 (by unfold Try.f119; rfl) Try.ntmps119 (by unfold Try.f119; rfl) (by simp) ?_
 simp only [RT, Q0, Q1, Q2, Q3, Q4, Q5, Q6, Q7, Q8, B31, AF6, e1, AX2, A51 x (n := 32 - n) (by omega), Aw2, e2, Bn0 x (n := n) (by omega), A39, BR8]
 unfold rot
 rw [BitVec.or_comm]
theorem Bv6 {r j : Nat} (h : j < 64) : evIndexAddr Try.prog 212 (.ptr r 0) (.int .i64 (j : Int)) = some (.ptr r j) := by
 rw [Ar5 Try.underlying212 BF5 h, Nat.zero_add, Nat.mul_one]
theorem AR6 {r j : Nat} (h : j < 64) : evIndexAddr Try.prog 200 (.ptr r 0) (.int .i64 (j : Int)) = some (.ptr r j) := by
 rw [Ar5 Try.underlying200 sz5 h, Nat.zero_add, Nat.mul_one]
theorem ax8 {r j : Nat} (h : j < 8) : evIndexAddr Try.prog 196 (.ptr r 0) (.int .i64 (j : Int)) = some (.ptr r j) := by
 rw [Ar5 Try.underlying196 BF5 h, Nat.zero_add, Nat.mul_one]
theorem B32 (r : Nat) : evIndexAddr Try.prog 196 (.ptr r 0) (.int .i64 0) = some (.ptr r 0) /\ evIndexAddr Try.prog 196 (.ptr r 0) (.int .i64 1) = some (.ptr r 1) /\ evIndexAddr Try.prog 196 (.ptr r 0) (.int .i64 2) = some (.ptr r 2) /\ evIndexAddr Try.prog 196 (.ptr r 0) (.int .i64 3) = some (.ptr r 3) /\ evIndexAddr Try.prog 196 (.ptr r 0) (.int .i64 4) = some (.ptr r 4) /\ evIndexAddr Try.prog 196 (.ptr r 0) (.int .i64 5) = some (.ptr r 5) /\ evIndexAddr Try.prog 196 (.ptr r 0) (.int .i64 6) = some (.ptr r 6) /\ evIndexAddr Try.prog 196 (.ptr r 0) (.int .i64 7) = some (.ptr r 7) :=
 ⟨ax8 (j := 0) (by decide), ax8 (j := 1) (by decide), ax8 (j := 2) (by decide), ax8 (j := 3) (by decide), ax8 (j := 4) (by decide), ax8 (j := 5) (by decide), ax8 (j := 6) (by decide), ax8 (j := 7) (by decide)⟩
theorem ldW {l : List W32} (hb : A.blk[r]? = some ⟨wc .u32 l, k⟩) {j : Nat} (h : j < l.length) : evLoad Try.prog 194 (.ptr r j) A = some (.int .u32 ((gw l j).toNat : Int)) := by
 rw [Ab5 B00 hb, Bv1 h]
theorem ld8 {s : S8} (hb : A.blk[r]? = some ⟨wc .u32 (s8l s), k⟩) : evLoad Try.prog 194 (.ptr r 0) A = some (.int .u32 (s.a.toNat : Int)) /\ evLoad Try.prog 194 (.ptr r 1) A = some (.int .u32 (s.b.toNat : Int)) /\ evLoad Try.prog 194 (.ptr r 2) A = some (.int .u32 (s.c.toNat : Int)) /\ evLoad Try.prog 194 (.ptr r 3) A = some (.int .u32 (s.d.toNat : Int)) /\ evLoad Try.prog 194 (.ptr r 4) A = some (.int .u32 (s.e.toNat : Int)) /\ evLoad Try.prog 194 (.ptr r 5) A = some (.int .u32 (s.f.toNat : Int)) /\ evLoad Try.prog 194 (.ptr r 6) A = some (.int .u32 (s.g.toNat : Int)) /\ evLoad Try.prog 194 (.ptr r 7) A = some (.int .u32 (s.h.toNat : Int)) :=
 ⟨ldW hb (j := 0) (by decide : 0 < 8), ldW hb (j := 1) (by decide : 1 < 8), ldW hb (j := 2) (by decide : 2 < 8), ldW hb (j := 3) (by decide : 3 < 8), ldW hb (j := 4) (by decide : 4 < 8), ldW hb (j := 5) (by decide : 5 < 8), ldW hb (j := 6) (by decide : 6 < 8), ldW hb (j := 7) (by decide : 7 < 8)⟩
theorem ldB {l : Bts} (hb : A.blk[r]? = some ⟨bc l, k⟩) {j : Nat} (h : j < l.length) : evLoad Try.prog 5 (.ptr r j) A = some (.int .u8 (gb l j : Int)) := by
 rw [Ab5 ag5 hb, Aq2, List.getElem?_eq_getElem h]
 unfold gb
 rw [List.getD_eq_getElem?_getD, List.getElem?_eq_getElem h]; rfl
theorem stW {l : List W32} (hb : A.blk[r]? = some ⟨wc .u32 l, .var⟩) {j : Nat} (h : j < l.length) (x : W32) : ∃ A', evStore Try.prog 194 (.ptr r j) (.int .u32 (x.toNat : Int)) A = some A' /\ Fr (· = .row r) A A' /\ A'.blk[r]? = some ⟨wc .u32 (l.set j x), .var⟩ := by
 obtain ⟨A', s1, s2, s3, s4⟩ := Ab9 (P := Try.prog) (t := 194) (o := j) (x := .int .u32 (x.toNat : Int)) (cs := [.int .u32 (x.toNat : Int)]) hb rfl BF5 (by rw [Ap2]; exact h) rfl
 rw [Bv2 h] at s3
 exact ⟨A', s1, s2, s3⟩
theorem B33 : evBuild Try.prog 212 [(0, .int .u32 1116352408), (1, .int .u32 1899447441), (2, .int .u32 3049323471), (3, .int .u32 3921009573), (4, .int .u32 961987163), (5, .int .u32 1508970993), (6, .int .u32 2453635748), (7, .int .u32 2870763221), (8, .int .u32 3624381080), (9, .int .u32 310598401), (10, .int .u32 607225278), (11, .int .u32 1426881987), (12, .int .u32 1925078388), (13, .int .u32 2162078206), (14, .int .u32 2614888103), (15, .int .u32 3248222580), (16, .int .u32 3835390401), (17, .int .u32 4022224774), (18, .int .u32 264347078), (19, .int .u32 604807628), (20, .int .u32 770255983), (21, .int .u32 1249150122), (22, .int .u32 1555081692), (23, .int .u32 1996064986), (24, .int .u32 2554220882), (25, .int .u32 2821834349), (26, .int .u32 2952996808), (27, .int .u32 3210313671), (28, .int .u32 3336571891), (29, .int .u32 3584528711), (30, .int .u32 113926993), (31, .int .u32 338241895), (32, .int .u32 666307205), (33, .int .u32 773529912), (34, .int .u32 1294757372), (35, .int .u32 1396182291), (36, .int .u32 1695183700), (37, .int .u32 1986661051), (38, .int .u32 2177026350), (39, .int .u32 2456956037), (40, .int .u32 2730485921), (41, .int .u32 2820302411), (42, .int .u32 3259730800), (43, .int .u32 3345764771), (44, .int .u32 3516065817), (45, .int .u32 3600352804), (46, .int .u32 4094571909), (47, .int .u32 275423344), (48, .int .u32 430227734), (49, .int .u32 506948616), (50, .int .u32 659060556), (51, .int .u32 883997877), (52, .int .u32 958139571), (53, .int .u32 1322822218), (54, .int .u32 1537002063), (55, .int .u32 1747873779), (56, .int .u32 1955562222), (57, .int .u32 2024104815), (58, .int .u32 2227730452), (59, .int .u32 2361852424), (60, .int .u32 2428436474), (61, .int .u32 2756734187), (62, .int .u32 3204031479), (63, .int .u32 3329325298)] = some (.agg (wc .u32 shK)) := by kernel_rfl
theorem zcW : (zeroT Try.prog 212).bind V.cells = some (wc .u32 (List.replicate 64 0)) := by kernel_rfl
theorem zcS : (zeroT Try.prog 196).bind V.cells = some (wc .u32 (List.replicate 8 0)) := by kernel_rfl
theorem B34 (a b c d e f g h : Int) : evBuild Try.prog 196 [(0, .int .u32 a), (1, .int .u32 b), (2, .int .u32 c), (3, .int .u32 d), (4, .int .u32 e), (5, .int .u32 f), (6, .int .u32 g), (7, .int .u32 h)] = some (.agg [.int .u32 a, .int .u32 b, .int .u32 c, .int .u32 d, .int .u32 e, .int .u32 f, .int .u32 g, .int .u32 h]) := by kernel_rfl
theorem BS0 (l0 l : List W32) {n : Nat} {t : TypeId} (h0 : l0.length = n) (h1 : l.length = n) (hs : szT Try.prog t = some n) : ∃ A', evStore Try.prog t (.ptr A.blk.length 0) (.agg (wc .u32 l)) (A.push ⟨wc .u32 l0, .var⟩) = some A' /\ Fr S0 A A' /\ A'.blk[A.blk.length]? = some ⟨wc .u32 l, .var⟩ := by
 obtain ⟨A2, s1, s2, s3, s4⟩ := Ag7 (P := Try.prog) A (z := wc .u32 l0) (t := t) (x := .agg (wc .u32 l)) (cs := wc .u32 l) rfl (by rw [Ap2, h1]; exact hs) (by rw [Ap2, Ap2, h0, h1]) (Bc5 _ _)
 exact ⟨A2, s1, s2, s3⟩
end
end Go.Sv.Try
namespace Go.Sv.Try
open Go Go.Proofs
section
variable {A : AS} {r : Nat} {k : BK}
set_option maxRecDepth 20000 in
set_option maxHeartbeats 32000000 in
theorem A88 {bs bb : Nat} {s : S8} {b : Bts} (hs : A.blk[bs]? = some ⟨wc .u32 (s8l s), .var⟩) (hb : A.blk[bb]? = some ⟨bc b, .var⟩) (hl : b.length = 64) (hne : bs ≠ bb) :
 ∃ w A', EvF Try.prog HH 110 [.ptr bs 0, .ptr bb 0] A w A' /\ Fr (· = .row bs) A A' /\ A'.blk[bs]? = some ⟨wc .u32 (s8l (comp s b)), .var⟩ := by
 refine Aa5 rfl Try.func110 (by unfold Try.f110; rfl) Try.ntmps110 (by unfold Try.f110; rfl) (by simp) ?_
 obtain ⟨A1, e1, f1, r4⟩ := BS0 (A := A) (List.replicate 64 0) shK (n := 64) (t := 212) rfl rfl B03
 simp only [RT, Q0, Q1, Q2, Q3, Q4, Q5, Q6, Q7, Q8, B33, zcW, e1]
 obtain ⟨b4, hb4⟩ : ∃ x, x = A.blk.length := ⟨_, rfl⟩
 rw [<- hb4] at r4 ⊢
 obtain ⟨A2, e2, f2, r5, n5⟩ := Aa8 A1 (wc .u32 (List.replicate 64 0))
 rw [<- e2]
 obtain ⟨b5, hb5⟩ : ∃ x, x = A1.blk.length := ⟨_, rfl⟩
 rw [<- hb5] at r5 ⊢
 have lts := Ac3 hs
 have ltb := Ac3 hb
 have lt4 : b4 < A1.blk.length := Ac3 r4
 have f12 := f1.then0 f2
 obtain ⟨W, hW⟩ : ∃ W : Nat -> List W32, W = wl b := ⟨_, rfl⟩
 have hWl : ∀ i, (W i).length = i := fun i => by rw [hW, Bc4]
 have hWs : ∀ i, W (i + 1) = W i ++ [if i < 16 then be4 b i else gw (W i) (i - 16) + shLow (gw (W i) (i - 15)) + gw (W i) (i - 7) + shHigh (gw (W i) (i - 2))] := fun i => by rw [hW]; rfl
 obtain ⟨R, hRd⟩ : ∃ R : Nat -> S8, R = rl (W 64) s := ⟨_, rfl⟩
 have hRs : ∀ i, R (i + 1) = rnd (gw shK i) (gw (W 64) i) (R i) := fun i => by rw [hRd]; rfl
 have hR0 : R 0 = s := by rw [hRd]; rfl
 have hcomp : comp s b = add8 s (R 64) := by rw [hRd, hW]; rfl
 have r5' : A2.blk[b5]? = some ⟨wc .u32 (W 0 ++ List.replicate (64 - 0) 0), .var⟩ := by rw [show W 0 = [] by rw [hW]; rfl, List.nil_append, Nat.sub_zero]; exact r5
 refine Aa2 (fun z e B => ∃ i : Nat, z = 64 - i /\ i <= 64 /\ e.get 19 = .int .i64 i /\ e.get 0 = .ptr bs 0 /\ e.get 1 = .ptr bb 0 /\ e.get 4 = .ptr b4 0 /\ e.get 5 = .ptr b5 0 /\ Fr (· = .row b5) A2 B /\ B.blk[b5]? = some ⟨wc .u32 (W i ++ List.replicate (64 - i) 0), .var⟩)
  (fun z e B => Is z (.exit 0) /\ e.get 0 = .ptr bs 0 /\ e.get 4 = .ptr b4 0 /\ e.get 5 = .ptr b5 0 /\ Fr (· = .row b5) A2 B /\ B.blk[b5]? = some ⟨wc .u32 (W 64), .var⟩)
  ⟨_, 0, rfl, by omega, rfl, rfl, rfl, rfl, rfl, .refl _ _, r5'⟩ ?_ ?_
 . rintro z e B ⟨i, rfl, hi, h19, h0, h1, h4, h5, hF, hB⟩
   simp only [RT, Q0, Q1, Q2, Q3, Q4, Q5, Q6, Q7, Q8, h19]
   refine Aa1 (fun q1 => ?_) (fun q1 => ?_)
   rotate_left
   . have : i = 64 := by omega
     subst this
     rw [Nat.sub_self, List.replicate_zero, List.append_nil] at hB
     simp only [RT, Q0, Q1, Q2, Q3, Q4, Q5, Q6, Q7, Q8]
     exact ⟨rfl, h0, h4, h5, hF, hB⟩
   have hi : i < 64 := by omega
   have hbB := hF.row _ _ (f12.row0 hb) (fun q => by cases q; omega)
   have hll : (W i ++ List.replicate (64 - i) (0 : W32)).length = 64 := by rw [List.length_append, hWl, List.length_replicate]; omega
   have hwi : IntKind.i64.wrap ((i : Int) + 1) = ((i + 1 : Nat) : Int) := by rw [Ad7 (by omega)]
   by_cases q16 : i < 16
   . simp only [RT, Q0, Q1, Q2, Q3, Q4, Q5, Q6, Q7, Q8, h19, decide_eq_true (show ((i : Int) < 16) by omega)]
     rw [Bu6, Aa7 (by rfl)]
     have w0 : IntKind.i64.wrap (4 * (i : Int)) = ((4 * i : Nat) : Int) := by rw [Ac4 (by omega) (by omega)]; omega
     have w1 : IntKind.i64.wrap (((4 * i : Nat) : Int) + 1) = ((4 * i + 1 : Nat) : Int) := by rw [Ac4 (by omega) (by omega)]; omega
     have w2 : IntKind.i64.wrap (((4 * i : Nat) : Int) + 2) = ((4 * i + 2 : Nat) : Int) := by rw [Ac4 (by omega) (by omega)]; omega
     have w3 : IntKind.i64.wrap (((4 * i : Nat) : Int) + 3) = ((4 * i + 3 : Nat) : Int) := by rw [Ac4 (by omega) (by omega)]; omega
     have s24 : ∀ x : W32, evShift .shl .u32 (x.toNat : Int) 24 = some (.int .u32 ((x <<< 24).toNat : Int)) := fun x => A51 x (n := 24) (by decide)
     have s16 : ∀ x : W32, evShift .shl .u32 (x.toNat : Int) 16 = some (.int .u32 ((x <<< 16).toNat : Int)) := fun x => A51 x (n := 16) (by decide)
     have s8 : ∀ x : W32, evShift .shl .u32 (x.toNat : Int) 8 = some (.int .u32 ((x <<< 8).toNat : Int)) := fun x => A51 x (n := 8) (by decide)
     obtain ⟨C, t1, t2, t3⟩ := stW hB (j := i) (by omega) (be4 b i)
     rw [AL8 (hWl i) hi] at t3
     have hbe := BG6 (gb b (4 * i)) (gb b (4 * i + 1)) (gb b (4 * i + 2)) (gb b (4 * i + 3)) (AL7 _ _) (AL7 _ _) (AL7 _ _) (AL7 _ _)
     simp only [RT, Q0, Q1, Q2, Q3, Q4, Q5, Q6, Q7, Q8, h1, h5, w0, w1, w2, w3, AR6 (r := bb) (show 4 * i < 64 by omega), AR6 (r := bb) (show 4 * i + 1 < 64 by omega), AR6 (r := bb) (show 4 * i + 2 < 64 by omega), AR6 (r := bb) (show 4 * i + 3 < 64 by omega), ldB hbB (show 4 * i < b.length by omega), ldB hbB (show 4 * i + 1 < b.length by omega), ldB hbB (show 4 * i + 2 < b.length by omega), ldB hbB (show 4 * i + 3 < b.length by omega), BR9, AX2, A39, s24, s16, s8, BR8, Bv6 (r := b5) hi, hbe]
     have t1' : evStore Try.prog 194 (.ptr b5 i) (.int .u32 ((BitVec.ofNat 32 (((gb b (4 * i) * 256 + gb b (4 * i + 1)) * 256 + gb b (4 * i + 2)) * 256 + gb b (4 * i + 3)) : W32).toNat : Int)) B = some C := t1
     simp only [RT, Q0, Q1, Q2, Q3, Q4, Q5, Q6, Q7, Q8, t1', h19, hwi]
     refine ⟨64 - (i + 1), by omega, i + 1, rfl, by omega, rfl, h0, h1, h4, h5, hF.trans t2 fun x q => .inl q, ?_⟩
     rw [hWs, if_pos q16]; exact t3
   . simp only [RT, Q0, Q1, Q2, Q3, Q4, Q5, Q6, Q7, Q8, h19, decide_eq_false (show ¬ ((i : Int) < 16) by omega)]
     have w15 : IntKind.i64.wrap ((i : Int) - 15) = ((i - 15 : Nat) : Int) := by rw [Ac4 (by omega) (by omega)]; omega
     have w2 : IntKind.i64.wrap ((i : Int) - 2) = ((i - 2 : Nat) : Int) := by rw [Ac4 (by omega) (by omega)]; omega
     have w16 : IntKind.i64.wrap ((i : Int) - 16) = ((i - 16 : Nat) : Int) := by rw [Ac4 (by omega) (by omega)]; omega
     have w7 : IntKind.i64.wrap ((i : Int) - 7) = ((i - 7 : Nat) : Int) := by rw [Ac4 (by omega) (by omega)]; omega
     have s3 : ∀ x : W32, evShift .shr .u32 (x.toNat : Int) 3 = some (.int .u32 ((x >>> 3).toNat : Int)) := fun x => Bn0 x (n := 3) (by decide)
     have s10 : ∀ x : W32, evShift .shr .u32 (x.toNat : Int) 10 = some (.int .u32 ((x >>> 10).toNat : Int)) := fun x => Bn0 x (n := 10) (by decide)
     have g : ∀ j, j < i -> evLoad Try.prog 194 (.ptr b5 j) B = some (.int .u32 ((gw (W i) j).toNat : Int)) := fun j hj => by
      rw [ldW hB (by omega), Bc6 (by rw [hWl]; exact hj)]
     rw [Bu7, Aa7 (by rfl)]
     simp only [RT, Q0, Q1, Q2, Q3, Q4, Q5, Q6, Q7, Q8, h19, w15, w2, Bv6 (r := b5) (show i - 15 < 64 by omega), Bv6 (r := b5) (show i - 2 < 64 by omega), h5, g (i - 15) (by omega), g (i - 2) (by omega)]
     refine Aa0 (Af3 (n := 7) (by decide) (by decide) rfl) ?_
     simp only [RT, Q0, Q1, Q2, Q3, Q4, Q5, Q6, Q7, Q8]
     refine Aa0 (Af3 (n := 18) (by decide) (by decide) rfl) ?_
     simp only [RT, Q0, Q1, Q2, Q3, Q4, Q5, Q6, Q7, Q8, Al9, A01, Aw2, s3]
     refine Aa0 (Af3 (n := 17) (by decide) (by decide) rfl) ?_
     simp only [RT, Q0, Q1, Q2, Q3, Q4, Q5, Q6, Q7, Q8]
     refine Aa0 (Af3 (n := 19) (by decide) (by decide) rfl) ?_
     simp only [RT, Q0, Q1, Q2, Q3, Q4, Q5, Q6, Q7, Q8, Al9, A01, Aw2, s10]
     rw [Bl0, Aa7 (by rfl)]
     obtain ⟨C, t1, t2, t3⟩ := stW hB (j := i) (by omega) (gw (W i) (i - 16) + shLow (gw (W i) (i - 15)) + gw (W i) (i - 7) + shHigh (gw (W i) (i - 2)))
     rw [AL8 (hWl i) hi] at t3
     unfold shLow shHigh at t1
     simp only [RT, Q0, Q1, Q2, Q3, Q4, Q5, Q6, Q7, Q8, h19, w16, w7, Bv6 (r := b5) (show i - 16 < 64 by omega), Bv6 (r := b5) (show i - 7 < 64 by omega), h5, g (i - 16) (by omega), g (i - 7) (by omega), AL3, Bv6 (r := b5) hi, t1, hwi]
     refine ⟨64 - (i + 1), by omega, i + 1, rfl, by omega, rfl, h0, h1, h4, hF.trans t2 fun x q => .inl q, ?_⟩
     rw [hWs, if_neg q16]; exact t3
 rintro z e B hz ⟨rfl, h0, h4, h5, hF, hB⟩
 have hsB := hF.row _ _ (f12.row0 hs) (fun q => by cases q; omega)
 have hkB := hF.row _ _ (f2.row0 r4) (fun q => by cases q; omega)
 have ltB : A2.blk.length <= B.blk.length := hF.len
 have lst : evLoad Try.prog 196 (.ptr bs 0) B = some (.agg (wc .u32 (s8l s))) := At.load hsB (At.all _) B01 Bv0 rfl
 obtain ⟨C, u1, u2, u3⟩ := BS0 (A := B) (List.replicate 8 0) (s8l s) (n := 8) (t := 196) rfl rfl Bv0
 simp only [RT, Q0, Q1, Q2, Q3, Q4, Q5, Q6, Q7, Q8, h0, lst, zcS, u1]
 obtain ⟨b11, hb11⟩ : ∃ x, x = B.blk.length := ⟨_, rfl⟩
 rw [<- hb11] at u3 ⊢
 have hB5 := u2.row0 hB
 have hK4 := u2.row0 hkB
 have hs2 := u2.row0 hsB
 have lt5 : b5 < B.blk.length := Ac3 hB
 have lt4' : b4 < B.blk.length := Ac3 hkB
 have lts' : bs < B.blk.length := Ac3 hsB
 have ax := B32 b11
 refine Aa2 (fun z e D => ∃ i : Nat, z = 64 - i /\ i <= 64 /\ e.get 106 = .int .i64 i /\ e.get 0 = .ptr bs 0 /\ e.get 4 = .ptr b4 0 /\ e.get 5 = .ptr b5 0 /\ e.get 11 = .ptr b11 0 /\ Fr (· = .row b11) C D /\ D.blk[b11]? = some ⟨wc .u32 (s8l (R i)), .var⟩)
  (fun z e D => Is z (.exit 2) /\ e.get 0 = .ptr bs 0 /\ e.get 11 = .ptr b11 0 /\ Fr (· = .row b11) C D /\ D.blk[b11]? = some ⟨wc .u32 (s8l (R 64)), .var⟩)
  ⟨_, 0, rfl, by omega, rfl, h0, h4, h5, rfl, .refl _ _, by rw [hR0]; exact u3⟩ ?_ ?_
 . rintro z e D ⟨i, rfl, hi, h106, h0, h4, h5, h11, hG, hD⟩
   simp only [RT, Q0, Q1, Q2, Q3, Q4, Q5, Q6, Q7, Q8, h106]
   refine Aa1 (fun q1 => ?_) (fun q1 => ?_)
   rotate_left
   . have : i = 64 := by omega
     subst this
     simp only [RT, Q0, Q1, Q2, Q3, Q4, Q5, Q6, Q7, Q8]
     exact ⟨rfl, h0, h11, hG, hD⟩
   have hi : i < 64 := by omega
   have hwi : IntKind.i64.wrap ((i : Int) + 1) = ((i + 1 : Nat) : Int) := by rw [Ad7 (by omega)]
   obtain ⟨v, hv⟩ : ∃ v, v = R i := ⟨_, rfl⟩
   rw [<- hv] at hD
   have l8 := ld8 hD
   have lw := ldW (hG.row _ _ hB5 (fun q => by cases q; omega)) (j := i) (by rw [hWl]; exact hi)
   have lk := ldW (hG.row _ _ hK4 (fun q => by cases q; omega)) (j := i) (show i < 64 from hi)
   obtain ⟨E, v1, v2, v3, v4⟩ := Ab9 (P := Try.prog) (t := 196) (o := 0) (x := .agg (wc .u32 (s8l (rnd (gw shK i) (gw (W 64) i) v)))) (cs := wc .u32 (s8l (rnd (gw shK i) (gw (W 64) i) v))) hD rfl Bv0 (by rw [Ap2, Ap2]; exact Nat.le_refl _) (Bc5 _ _)
   rw [Ab3 (by rw [Ap2, Ap2]; rfl)] at v3
   have v1' : evStore Try.prog 196 (.ptr b11 0) (.agg [.int .u32 ((one8 (gw shK i) (gw (W 64) i) v + two8 v).toNat : Int), .int .u32 (v.a.toNat : Int), .int .u32 (v.b.toNat : Int), .int .u32 (v.c.toNat : Int), .int .u32 ((v.d + one8 (gw shK i) (gw (W 64) i) v).toNat : Int), .int .u32 (v.e.toNat : Int), .int .u32 (v.f.toNat : Int), .int .u32 (v.g.toNat : Int)]) D = some E := v1
   unfold one8 two8 sg0 sg1 chs maj at v1'
   simp only [RT, Q0, Q1, Q2, Q3, Q4, Q5, Q6, Q7, Q8, h106]
   rw [Bl1, Aa7 (by rfl)]
   simp only [RT, Q0, Q1, Q2, Q3, Q4, Q5, Q6, Q7, Q8, h11, ax, l8, Bl2, h106, h4, h5, Al9, A01, AF6, BG8, Bv6 (r := b4) hi, Bv6 (r := b5) hi, lw, lk, Aa3]
   refine Aa0 (Af3 (n := 6) (by decide) (by decide) rfl) ?_
   simp only [RT, Q0, Q1, Q2, Q3, Q4, Q5, Q6, Q7, Q8, Aa3]
   refine ⟨Aa4 (ha := rfl) rfl l8.2.2.2.2.2.2.2 rfl (Aa4 (ha := rfl) rfl l8.2.2.2.2.2.2.1 rfl (Aa4 (ha := rfl) rfl l8.2.2.2.2.2.1 rfl (Aa4 (ha := rfl) rfl l8.2.2.2.2.2.2.1 rfl (Aa4 (ha := rfl) rfl lk rfl (Aa4 (ha := rfl) rfl lw rfl Aa3))))), ?_⟩
   refine Aa0 (Af3 (n := 11) (by decide) (by decide) rfl) ?_
   simp only [RT, Q0, Q1, Q2, Q3, Q4, Q5, Q6, Q7, Q8, Aa3]
   refine ⟨Aa4 (ha := rfl) rfl l8.2.2.2.2.2.2.2 rfl (Aa4 (ha := rfl) rfl l8.2.2.2.2.2.2.1 rfl (Aa4 (ha := rfl) rfl l8.2.2.2.2.2.1 rfl (Aa4 (ha := rfl) rfl l8.2.2.2.2.2.2.1 rfl (Aa4 (ha := rfl) rfl lk rfl (Aa4 (ha := rfl) rfl lw rfl Aa3))))), ?_⟩
   simp only [RT, Q0, Q1, Q2, Q3, Q4, Q5, Q6, Q7, Q8, Aa3, Al9, A01]
   refine Aa0 (Af3 (n := 25) (by decide) (by decide) rfl) ?_
   simp only [RT, Q0, Q1, Q2, Q3, Q4, Q5, Q6, Q7, Q8, Aa3]
   refine ⟨Aa4 (ha := rfl) rfl l8.2.2.2.2.2.2.2 rfl (Aa4 (ha := rfl) rfl l8.2.2.2.2.2.2.1 rfl (Aa4 (ha := rfl) rfl l8.2.2.2.2.2.1 rfl (Aa4 (ha := rfl) rfl l8.2.2.2.2.2.2.1 rfl (Aa4 (ha := rfl) rfl lk rfl (Aa4 (ha := rfl) rfl lw rfl Aa3))))), ?_⟩
   simp only [RT, Q0, Q1, Q2, Q3, Q4, Q5, Q6, Q7, Q8, Aa3, Al9, A01, AL3, Bl3, h11, ax, l8, AF6, BG8, A39, BR8]
   refine Aa0 (Af3 (n := 2) (by decide) (by decide) rfl) ?_
   simp only [RT, Q0, Q1, Q2, Q3, Q4, Q5, Q6, Q7, Q8, Aa3]
   refine ⟨Aa4 (ha := rfl) rfl l8.2.1 rfl (Aa4 (ha := rfl) rfl l8.2.2.1 rfl (Aa4 (ha := rfl) rfl l8.2.1 rfl Aa3)), ?_⟩
   refine Aa0 (Af3 (n := 13) (by decide) (by decide) rfl) ?_
   simp only [RT, Q0, Q1, Q2, Q3, Q4, Q5, Q6, Q7, Q8, Aa3]
   refine ⟨Aa4 (ha := rfl) rfl l8.2.1 rfl (Aa4 (ha := rfl) rfl l8.2.2.1 rfl (Aa4 (ha := rfl) rfl l8.2.1 rfl Aa3)), ?_⟩
   simp only [RT, Q0, Q1, Q2, Q3, Q4, Q5, Q6, Q7, Q8, Aa3, Al9, A01]
   refine Aa0 (Af3 (n := 22) (by decide) (by decide) rfl) ?_
   simp only [RT, Q0, Q1, Q2, Q3, Q4, Q5, Q6, Q7, Q8, Aa3]
   refine ⟨Aa4 (ha := rfl) rfl l8.2.1 rfl (Aa4 (ha := rfl) rfl l8.2.2.1 rfl (Aa4 (ha := rfl) rfl l8.2.1 rfl Aa3)), ?_⟩
   simp only [RT, Q0, Q1, Q2, Q3, Q4, Q5, Q6, Q7, Q8, Aa3, Al9, A01, AL3, h11, ax, l8, B34, v1']
   simp only [RT, Q0, Q1, Q2, Q3, Q4, Q5, Q6, Q7, Q8, h106, hwi]
   refine ⟨64 - (i + 1), by omega, i + 1, rfl, by omega, rfl, h0, h4, h5, h11, hG.trans v2 fun x q => .inl q, ?_⟩
   rw [hRs, <- hv]; exact v3
 rintro z e D hz ⟨rfl, h0, h11, hG, hD⟩
 have hsD := hG.row _ _ hs2 (fun q => by cases q; omega)
 have ltD : b11 < D.blk.length := Ac3 hD
 obtain ⟨v, hv⟩ : ∃ v, v = R 64 := ⟨_, rfl⟩
 rw [<- hv] at hD hcomp
 simp only [RT, Q0, Q1, Q2, Q3, Q4, Q5, Q6, Q7, Q8]
 refine Aa2 (fun z e E => ∃ i : Nat, z = 8 - i /\ i <= 8 /\ e.get 183 = .int .i64 i /\ e.get 0 = .ptr bs 0 /\ e.get 11 = .ptr b11 0 /\ Fr (· = .row bs) D E /\ E.blk[b11]? = some ⟨wc .u32 (s8l v), .var⟩ /\ E.blk[bs]? = some ⟨wc .u32 (mx8 s v i), .var⟩)
  (fun z e E => Is z (.exit 4) /\ Fr (· = .row bs) D E /\ E.blk[bs]? = some ⟨wc .u32 (s8l (add8 s v)), .var⟩)
  ⟨_, 0, rfl, by omega, rfl, h0, h11, .refl _ _, hD, hsD⟩ ?_ ?_
 . rintro z e E ⟨i, rfl, hi, h183, h0, h11, hE, hv1, hs1⟩
   simp only [RT, Q0, Q1, Q2, Q3, Q4, Q5, Q6, Q7, Q8, h183]
   refine Aa1 (fun q1 => ?_) (fun q1 => ?_)
   rotate_left
   . have : i = 8 := by omega
     subst this
     simp only [RT, Q0, Q1, Q2, Q3, Q4, Q5, Q6, Q7, Q8]
     exact ⟨rfl, hE, hs1⟩
   have hi : i < 8 := by omega
   have hwi : IntKind.i64.wrap ((i : Int) + 1) = ((i + 1 : Nat) : Int) := by rw [Ad7 (by omega)]
   obtain ⟨m1, m2⟩ := A55 (s := s) (v := v) hi
   obtain ⟨F, t1, t2, t3⟩ := stW hs1 (j := i) (by rw [A00 (by omega)]; exact hi) (gw (s8l s) i + gw (s8l v) i)
   rw [m2] at t3
   have l1 := ldW hs1 (j := i) (by rw [A00 (by omega)]; exact hi)
   rw [m1] at l1
   simp only [RT, Q0, Q1, Q2, Q3, Q4, Q5, Q6, Q7, Q8, h183]
   rw [Bl4, Aa7 (by rfl)]
   simp only [RT, Q0, Q1, Q2, Q3, Q4, Q5, Q6, Q7, Q8, h0, h11, ax8 (r := bs) hi, ax8 (r := b11) hi, l1, ldW hv1 (j := i) (show i < 8 from hi), AL3, t1]
   simp only [RT, Q0, Q1, Q2, Q3, Q4, Q5, Q6, Q7, Q8, h183, hwi]
   refine ⟨8 - (i + 1), by omega, i + 1, rfl, by omega, rfl, h0, h11, hE.trans t2 fun x q => .inl q, t2.row _ _ hv1 (fun q => by cases q; omega), t3⟩
 rintro z e E hz ⟨rfl, hE, hs1⟩
 simp only [RT, Q0, Q1, Q2, Q3, Q4, Q5, Q6, Q7, Q8]
 rw [hcomp]
 have lA := f1.len
 have lA2 := f2.len
 exact ⟨(((f12.row_ hF (by omega)).then0 u2).row_ hG (by omega)).after0 hE, hs1⟩
end
end Go.Sv.Try
namespace Go.Sv.Try
open Go Go.Proofs
section
variable {A : AS} {r : Nat} {k : BK}
def b64 : Bts := List.replicate 64 0
theorem Aw8 : b64.length = 64 := by simp [b64]
theorem zcB : (zeroT Try.prog 200).bind V.cells = some (bc b64) := by kernel_rfl
theorem BG9 : evBuild Try.prog 200 [] = some (.agg (bc b64)) := by kernel_rfl
theorem stB {l : Bts} (hb : A.blk[r]? = some ⟨bc l, .var⟩) {j : Nat} (h : j < l.length) (x : UInt8) : ∃ A', evStore Try.prog 5 (.ptr r j) (.int .u8 (x.toNat : Int)) A = some A' /\ Fr (· = .row r) A A' /\ A'.blk[r]? = some ⟨bc (l.set j x), .var⟩ := by
 obtain ⟨A', s1, s2, s3, s4⟩ := Ab9 (P := Try.prog) (t := 5) (o := j) (x := .int .u8 (x.toNat : Int)) (cs := [.int .u8 (x.toNat : Int)]) hb rfl sz5 (by rw [Aa6]; exact h) rfl
 rw [AQ7 h] at s3
 exact ⟨A', s1, s2, s3⟩
theorem B10 (l : Bts) (h : l.length = 64) : ∃ A', evStore Try.prog 200 (.ptr A.blk.length 0) (.agg (bc l)) (A.push ⟨bc b64, .var⟩) = some A' /\ Fr S0 A A' /\ A'.blk[A.blk.length]? = some ⟨bc l, .var⟩ := by
 obtain ⟨A2, s1, s2, s3, s4⟩ := Ag7 (P := Try.prog) A (z := bc b64) (t := 200) (x := .agg (bc l)) (cs := bc l) rfl (by rw [Aa6, h]; exact BF6) (by rw [Aa6, Aa6, h, Aw8]) (Ad3 _)
 exact ⟨A2, s1, s2, s3⟩
theorem B35 {l l' : Bts} (hb : A.blk[r]? = some ⟨bc l, .var⟩) (h : l.length = 64) (h' : l'.length = 64) : ∃ A', evStore Try.prog 200 (.ptr r 0) (.agg (bc l')) A = some A' /\ Fr (· = .row r) A A' /\ A'.blk[r]? = some ⟨bc l', .var⟩ := by
 obtain ⟨A', s1, s2, s3, s4⟩ := Ab9 (P := Try.prog) (t := 200) (o := 0) (x := .agg (bc l')) (cs := bc l') hb rfl (by rw [Aa6, h']; exact BF6) (by rw [Aa6, Aa6]; omega) (Ad3 _)
 rw [Ab3 (by rw [Aa6, Aa6]; omega)] at s3
 exact ⟨A', s1, s2, s3⟩
theorem BS1 {l : Bts} (hb : A.blk[r]? = some ⟨bc l, k⟩) (h : l.length = 64) : evLoad Try.prog 200 (.ptr r 0) A = some (.agg (bc l)) := At.load hb (At.all _) B02 BF6 (by rw [Aa6, h])
theorem BH0 (n : Nat) (h : n <= 9223372036854775807) (A : AS) : cnv Try.prog 3 191 (some (.int .i64 (n : Int))) A = some (.val (.int .u64 (n : Int))) := by
 rw [Aq1 (by decide) Try.underlying3 Try.underlying191, Ac1]; congr 3; omega
theorem Be2 (n : Nat) (A : AS) : cnv Try.prog 191 5 (some (.int .u64 (n : Int))) A = some (.val (.int .u8 ((UInt8.ofNat n).toNat : Int))) := by
 rw [Aq1 (by decide) Try.underlying191 Try.underlying5]
 congr 3
theorem BS2 {l : Bts} {i n : Nat} (h : l.length = i) (hi : i < n) (x : UInt8) : (l ++ List.replicate (n - i) 0).set i x = l ++ [x] ++ List.replicate (n - (i + 1)) 0 := by
 obtain ⟨k, hk⟩ : ∃ k, n - i = k + 1 := ⟨n - i - 1, by omega⟩
 rw [hk, show n - (i + 1) = k by omega, List.replicate_succ, List.set_append, if_neg (by omega), <- h, Nat.sub_self]
 simp
def ownT (N : Nat) : Loc -> Prop := fun z => ∃ b, z = .row b /\ N <= b
def argB (_ : AS) (args : List V) (x : Bts) : Prop := args = [.agg (bc x)]
set_option maxRecDepth 10000 in
set_option maxHeartbeats 32000000 in
theorem A02 {m : Hp} {bx : Nat} {v : V} {ls : List Bts} {S : Loc -> Prop} (hm : m.on A) (hS : ∀ b, S (.row b) -> m b = none /\ b ≠ bx /\ b < A.blk.length) (hb : A.blk[bx]? = some ⟨[v], .var⟩) (h : Slc (eSl eU8) m v ls) (hL : ls.flatten.length <= 1000000000000) (hLn : ls.length <= 1000000000000) :
 GoesG Try.prog HH 118 [] [.ptr bx 0] A S (ownT A.blk.length) (fun _ => False) (fun _ => True) (fun _ => True) argB (chunks (padB ls.flatten)) := by
 intro lo J D hJ hD hstep hJ0
 refine Aa5 rfl Try.func118 (by unfold Try.f118; rfl) Try.ntmps118 (by unfold Try.f118; rfl) (by simp) ?_
 obtain ⟨L, hLd⟩ : ∃ L, L = ls.flatten := ⟨_, rfl⟩
 rw [<- hLd] at hL hstep ⊢
 obtain ⟨ch, hch⟩ : ∃ c, c = chunks (padB L) := ⟨_, rfl⟩
 rw [<- hch] at hstep ⊢
 obtain ⟨N, hN⟩ : ∃ n, n = A.blk.length := ⟨_, rfl⟩
 have hJ' : ∀ {i : Nat} {B C : AS} {b : Nat}, J i B -> Fr (· = .row b) B C -> N <= b -> J i C := fun q w z => hJ _ _ _ q (w.mono fun x y => ⟨_, y, by rw [<- hN]; exact z⟩)
 have hJ0' : ∀ {i : Nat} {B C : AS}, J i B -> Fr S0 B C -> J i C := fun q w => hJ _ _ _ q (w.mono fun x y => y.elim)
 have hfold : ∀ {B C : AS} {b : Nat}, Fr S A B -> Fr (· = .row b) B C -> N <= b -> Fr S A C := fun q w z => q.trans w fun x y => by subst y; exact .inr (show A.blk.length <= _ by rw [<- hN]; exact z)
 have row_keep : ∀ {B C : AS} {b : Nat} {cs : List V}, Fr S B C -> B.blk[b]? = some ⟨cs, .var⟩ -> N <= b -> C.blk[b]? = some ⟨cs, .var⟩ := fun q w z => q.row _ _ w fun y => by have := (hS _ y).2.2; omega
 have hld : ∀ {B}, Fr S A B -> evLoad Try.prog 22 (.ptr bx 0) B = some v := fun q => Al7 BY5 (q.row _ _ hb fun w => (hS _ w).2.1 rfl)
 have hmB : ∀ {B}, Fr S A B -> m.on B := fun q => hm.fr q fun b w => (hS b w).1
 obtain ⟨A1, e1, f1, r1, n1⟩ := Aa8 A (bc b64)
 simp only [RT, Q0, Q1, Q2, Q3, Q4, Q5, Q6, Q7, Q8, zcB, <- e1]
 rw [<- hN] at r1 n1 ⊢
 have hf1 : Fr S A A1 := f1.mono fun _ q => q.elim
 have hlen := fun B => h.len (P := Try.prog) Try.underlying22 B
 simp only [RT, Q0, Q1, Q2, Q3, Q4, Q5, Q6, Q7, Q8, hld hf1, hlen]
 refine Aa2 (fun z e B => ∃ (i : Nat) (p w : Bts), z = ls.length - i /\ i <= ls.length /\ e.get 13 = .int .i64 i /\ e.get 0 = .yield lo /\ e.get 3 = .ptr N 0 /\ e.get 4 = .int .i64 (p.length : Int) /\ e.get 11 = v /\ e.get 12 = .int .i64 ls.length /\ p = (ls.take i).flatten /\ Fr S A B /\ B.blk[N]? = some ⟨bc w, .var⟩ /\ Blk64 p w /\ J (p.length / 64) B /\ N < B.blk.length)
  (fun z e B => Fr S A B /\ ((Is z (.exit 0) /\ ∃ w : Bts, e.get 0 = .yield lo /\ e.get 3 = .ptr N 0 /\ e.get 4 = .int .i64 (L.length : Int) /\ B.blk[N]? = some ⟨bc w, .var⟩ /\ Blk64 L w /\ J (L.length / 64) B /\ N < B.blk.length) ∨ (Is z .ret /\ ∃ i, i < ch.length /\ D i B)))
  ⟨_, 0, [], b64, rfl, by omega, rfl, rfl, rfl, rfl, rfl, rfl, rfl, hf1, r1, ⟨Aw8, rfl⟩, hJ0' hJ0 f1, by omega⟩ ?_ ?_
 . rintro z e B ⟨i, p, w, rfl, hi, h13, h0, h3, h4, h11, h12, hp, hf, hw, hbk, hj, hNB⟩
   simp only [RT, Q0, Q1, Q2, Q3, Q4, Q5, Q6, Q7, Q8, h12, h13]
   refine Aa1 (fun q1 => ?_) (fun q1 => ?_)
   rotate_left
   . have : i = ls.length := by omega
     subst this
     rw [List.take_length] at hp
     simp only [RT, Q0, Q1, Q2, Q3, Q4, Q5, Q6, Q7, Q8]
     rw [hLd, <- hp]
     exact ⟨hf, .inl ⟨rfl, w, h0, h3, h4, hw, hbk, hj, hNB⟩⟩
   obtain ⟨x, hx⟩ := Ac7 (l := ls) (i := i) (by omega)
   obtain ⟨b, o, xv, g3, g4, g5⟩ := h.at (P := Try.prog) (k := .i64) (hmB hf) Try.underlying22 AY1 A47 hx
   have g5 := AO4.1 g5
   have hxl := fun B => g5.len (P := Try.prog) Try.underlying44 B
   have hwi : IntKind.i64.wrap ((i : Int) + 1) = ((i + 1 : Nat) : Int) := by
    rw [Ad7 (by omega)]
   have hpx : (ls.take (i + 1)).flatten = p ++ x := by rw [Ac9 hx, List.flatten_append, hp]; simp
   have hpre : ∃ rest, L = p ++ x ++ rest := ⟨(ls.drop (i + 1)).flatten, by rw [hLd, <- hpx, <- List.flatten_append, List.take_append_drop]⟩
   obtain ⟨rest, hrest⟩ := hpre
   have hxL : x.length <= L.length := by rw [hrest]; simp only [List.length_append]; omega
   simp only [RT, Q0, Q1, Q2, Q3, Q4, Q5, Q6, Q7, Q8, h11, h13, g3, g4, hxl]
   refine Aa2 (fun z e B => ∃ (j : Nat) (w : Bts), z = x.length - j /\ j <= x.length /\ e.get 19 = .int .i64 j /\ e.get 13 = .int .i64 i /\ e.get 0 = .yield lo /\ e.get 3 = .ptr N 0 /\ e.get 4 = .int .i64 ((p ++ x.take j).length : Int) /\ e.get 11 = v /\ e.get 12 = .int .i64 ls.length /\ e.get 17 = xv /\ e.get 18 = .int .i64 x.length /\ Fr S A B /\ B.blk[N]? = some ⟨bc w, .var⟩ /\ Blk64 (p ++ x.take j) w /\ J ((p ++ x.take j).length / 64) B /\ N < B.blk.length)
    (fun z e B => Fr S A B /\ ((Is z (.exit 2) /\ ∃ w : Bts, e.get 13 = .int .i64 i /\ e.get 0 = .yield lo /\ e.get 3 = .ptr N 0 /\ e.get 4 = .int .i64 ((p ++ x).length : Int) /\ e.get 11 = v /\ e.get 12 = .int .i64 ls.length /\ B.blk[N]? = some ⟨bc w, .var⟩ /\ Blk64 (p ++ x) w /\ J ((p ++ x).length / 64) B /\ N < B.blk.length) ∨ (Is z .ret /\ ∃ i, i < ch.length /\ D i B)))
    ⟨_, 0, w, rfl, by omega, rfl, h13, h0, h3, by rw [List.take_zero, List.append_nil]; exact h4, h11, h12, rfl, rfl, hf, hw, by rw [List.take_zero, List.append_nil]; exact hbk, by rw [List.take_zero, List.append_nil]; exact hj, hNB⟩ ?_ ?_
   . clear hw hbk hj hNB h13 h0 h3 h4 h11 h12 hf g4 g3
     rintro z e B ⟨j, w, rfl, hjx, h19, h13, h0, h3, h4, h11, h12, h17, h18, hf, hw, hbk, hj, hNB⟩
     simp only [RT, Q0, Q1, Q2, Q3, Q4, Q5, Q6, Q7, Q8, h18, h19]
     refine Aa1 (fun q2 => ?_) (fun q2 => ?_)
     rotate_left
     . have : j = x.length := by omega
       subst this
       rw [List.take_length] at hbk hj h4
       simp only [RT, Q0, Q1, Q2, Q3, Q4, Q5, Q6, Q7, Q8]
       exact ⟨hf, .inl ⟨rfl, w, h13, h0, h3, h4, h11, h12, hw, hbk, hj, hNB⟩⟩
     obtain ⟨y, hy⟩ := Ac7 (l := x) (i := j) (by omega)
     obtain ⟨b2, o2, g3, g4⟩ := Ap5 g5 (hmB hf) hy
     have hxs : x.take (j + 1) = x.take j ++ [y] := Ac9 hy
     have hpj : p ++ x.take (j + 1) = p ++ x.take j ++ [y] := by rw [hxs, List.append_assoc]
     have hpre2 : ∃ r2, L = p ++ x.take j ++ [y] ++ r2 := ⟨x.drop (j + 1) ++ rest, by rw [hrest, <- hpj, List.append_assoc, List.append_assoc, <- List.append_assoc (x.take (j + 1)), List.take_append_drop]⟩
     obtain ⟨r2, hr2⟩ := hpre2
     obtain ⟨q, hq⟩ : ∃ q, q = p ++ x.take j := ⟨_, rfl⟩
     rw [<- hq] at h4 hbk hj hr2
     have hLl : L.length = q.length + 1 + r2.length := by rw [hr2]; simp only [List.length_append, List.length_singleton]
     have wq : IntKind.i64.wrap ((q.length : Int) + 1) = ((q.length + 1 : Nat) : Int) := by rw [Ad7 (by omega)]
     have wj : IntKind.i64.wrap ((j : Int) + 1) = ((j + 1 : Nat) : Int) := by rw [Ad7 (by omega)]
     have rm : ∀ n : Nat, evBin Try.prog .rem 3 (.int .i64 (n : Int)) (.int .i64 64) = some (.int .i64 ((n % 64 : Nat) : Int)) := fun n => by rw [As4, if_neg (by omega)]; rfl
     obtain ⟨C, s1, s2, s3⟩ := stB hw (j := q.length % 64) (by rw [hbk.1]; omega) y
     have hC := hfold hf s2 (Nat.le_refl _)
     have hjC := hJ' hj s2 (Nat.le_refl _)
     have hNC : N < C.blk.length := Ac3 s3
     obtain ⟨st1, st2⟩ := hbk.step y
     have hw64 : (w.set (q.length % 64) y).length = 64 := by rw [List.length_set]; exact hbk.1
     by_cases q64 : (q.length + 1) % 64 = 0
     . obtain ⟨u1, u2, u3⟩ := st2 q64
       have hck : ch[q.length / 64]? = some (w.set (q.length % 64) y) := by
        rw [hch, A87 L (by omega), u1, hr2]
        congr 1
        rw [List.append_assoc, List.drop_append_of_le_length (by omega), List.drop_append_of_le_length (by omega), <- List.append_assoc, List.take_append_of_le_length (by rw [List.length_append, List.length_drop]; simp; omega)]
       obtain ⟨bb, E, y1, y2, y3, y4⟩ := hstep _ _ C _ hck hjC hC trivial rfl
       simp only [RT, Q0, Q1, Q2, Q3, Q4, Q5, Q6, Q7, Q8, h17, h19, g3, g4, h4, rm, h3, AR6 (r := N) (show q.length % 64 < 64 by omega), s1, wq, decide_eq_true (show (((q.length + 1) % 64 : Nat) : Int) = 0 by omega), h0, BS1 s3 hw64]
       refine ⟨_, E, y1, ?_⟩
       simp only [RT, Q0, Q1, Q2, Q3, Q4, Q5, Q6, Q7, Q8]
       have hE := hC.thn y2
       cases bb with
       | true =>
        simp only [RT, Q0, Q1, Q2, Q3, Q4, Q5, Q6, Q7, Q8, h19, wj]
        refine ⟨x.length - (j + 1), by omega, j + 1, w.set (q.length % 64) y, rfl, by omega, ?_⟩
        rw [hpj, <- hq]
        have lq : (q ++ [y]).length = q.length + 1 := by simp
        have z1 := row_keep y2 s3 (Nat.le_refl _)
        have z2 := (y3 rfl).1
        rw [<- u3] at z2
        have z3 : N < E.blk.length := Ac3 z1
        exact ⟨rfl, h13, h0, h3, by rw [lq], h11, h12, h17, h18, hE, z1, u2, z2, z3⟩
       | false =>
        simp only [RT, Q0, Q1, Q2, Q3, Q4, Q5, Q6, Q7, Q8]
        exact ⟨hE, .inr ⟨rfl, _, (List.getElem?_eq_some_iff.1 hck).1, y4 rfl⟩⟩
     . have hbk2 := st1 q64
       simp only [RT, Q0, Q1, Q2, Q3, Q4, Q5, Q6, Q7, Q8, h17, h19, g3, g4, h4, rm, h3, AR6 (r := N) (show q.length % 64 < 64 by omega), s1, wq, decide_eq_false (show ¬ ((((q.length + 1) % 64 : Nat) : Int) = 0) by omega)]
       simp only [RT, Q0, Q1, Q2, Q3, Q4, Q5, Q6, Q7, Q8, h19, wj]
       refine ⟨x.length - (j + 1), by omega, j + 1, w.set (q.length % 64) y, rfl, by omega, ?_⟩
       rw [hpj, <- hq]
       have lq : (q ++ [y]).length = q.length + 1 := by simp
       exact ⟨rfl, h13, h0, by rw [lq], h11, h12, h18, hC, s3, hbk2, by rw [lq, show (q.length + 1) / 64 = q.length / 64 by omega]; exact hjC, hNC⟩
   . rintro z e B hz ⟨hf, ⟨rfl, w, h13, h0, h3, h4, h11, h12, hw, hbk, hj, hNB⟩ | ⟨rfl, hd⟩⟩
     . simp only [RT, Q0, Q1, Q2, Q3, Q4, Q5, Q6, Q7, Q8, h13, hwi]
       refine ⟨ls.length - (i + 1), by omega, i + 1, p ++ x, w, rfl, by omega, ?_⟩
       exact ⟨rfl, h0, h3, h4, h11, h12, hpx.symm, hf, hw, hbk, hj, hNB⟩
     . simp only [RT, Q0, Q1, Q2, Q3, Q4, Q5, Q6, Q7, Q8]
       exact ⟨hf, .inr ⟨rfl, hd⟩⟩
 rintro z e B hz ⟨hf, ⟨rfl, w, h0, h3, h4, hw, hbk, hj, hNB⟩ | ⟨rfl, hd⟩⟩
 rotate_left
 . simp only [RT, Q0, Q1, Q2, Q3, Q4, Q5, Q6, Q7, Q8]
   exact ⟨hf, .inr hd⟩
 obtain ⟨r, hr⟩ : ∃ r, r = L.length % 64 := ⟨_, rfl⟩
 have hr64 : r < 64 := by omega
 obtain ⟨n8, hn8⟩ : ∃ n, n = L.length * 8 := ⟨_, rfl⟩
 obtain ⟨B1, s1, s2, s3⟩ := B10 (A := B) b64 Aw8
 obtain ⟨b9, hb9⟩ : ∃ b, b = B.blk.length := ⟨_, rfl⟩
 rw [<- hb9] at s1 s3
 have hN9 : N <= b9 /\ N ≠ b9 := by omega
 have rm : ∀ n : Nat, evBin Try.prog .rem 3 (.int .i64 (n : Int)) (.int .i64 64) = some (.int .i64 ((n % 64 : Nat) : Int)) := fun n => by rw [As4, if_neg (by omega)]; rfl
 have hw1 := s2.row0 hw
 have hwl : (bc w).length = 64 := by rw [Aa6]; exact hbk.1
 have sl1 := Aq3 (P := Try.prog) (A := B1) (t := 200) (n := 64) (b := b9) (o := 0) (z := 0) Try.underlying200 sz5 s3 (by show 0 + 64 * 1 <= (bc b64).length; rw [Aa6, Aw8]; exact Nat.le_refl _)
 have sl2 := BG2 (P := Try.prog) (A := B1) (t := 200) (n := 64) (b := N) (o := 0) (z := 0) (j := r) (kd := .i64) Try.underlying200 sz5 hw1 (by show 0 + 64 * 1 <= (bc w).length; rw [hwl]; exact Nat.le_refl _) (by omega)
 have hrg : B1.range N 0 r = some (bc (w.take r)) := by
  unfold AS.range
  rw [hw1]
  simp only []
  rw [if_pos (by rw [hwl]; omega), List.drop_zero]
  unfold bc; rw [List.map_take]
 obtain ⟨B2, c1, c2, c3⟩ := Bm0 (P := Try.prog) (t := 44) (n := 64) (n' := r) Try.underlying44 sz5 s3 hrg (by rw [Aa6, List.length_take, hbk.1]; omega) (Ad3 _) (by omega) (by rw [Aa6, Aw8]; omega)
 have c3 : B2.blk[b9]? = some ⟨bc (w.take r ++ List.replicate (64 - r) 0), .var⟩ := by
  rw [c3]; congr 2
  unfold bc b64
  rw [List.map_append, <- List.map_drop, List.drop_replicate]
 have hwr : (w.take r).length = r := by rw [List.length_take, hbk.1]; omega
 obtain ⟨B3, d1, d2, d3⟩ := stB c3 (j := r) (by rw [List.length_append, hwr, List.length_replicate]; omega) 128
 rw [BS2 hwr hr64, show w.take r = L.drop (64 * (L.length / 64)) by rw [hr]; exact hbk.2, show 64 - (r + 1) = 63 - r by omega] at d3
 have d1 : evStore Try.prog 5 (.ptr b9 r) (.int .u8 128) B2 = some B3 := d1
 have hf3 : Fr S A B3 := hfold (hfold (hf.then0 s2) c2 hN9.1) d2 hN9.1
 have hj3 : J (L.length / 64) B3 := hJ' (hJ' (hJ0' hj s2) c2 hN9.1) d2 hN9.1
 have hdl : (L.drop (64 * (L.length / 64))).length = r := by rw [List.length_drop]; omega
 simp only [RT, Q0, Q1, Q2, Q3, Q4, Q5, Q6, Q7, Q8, BG9, zcB, s1, <- hb9]
 rw [Bl5, Aa7 (by rfl)]
 simp only [RT, Q0, Q1, Q2, Q3, Q4, Q5, Q6, Q7, Q8, sl1, h4, rm, <- hr, h3, sl2, c1, AR6 (r := b9) hr64, d1]
 refine Bk4 (fun z e C => Fr S A C /\ ((Is z .normal /\ ∃ (q : Bts) (kk : Nat), q.length = 56 /\ kk + 1 = ch.length /\ ch[kk]? = some (q ++ be8 n8) /\ J kk C /\ C.blk[b9]? = some ⟨bc (cntB q n8 0), .var⟩ /\ e.get 0 = .yield lo /\ e.get 4 = .int .i64 (L.length : Int) /\ e.get 9 = .ptr b9 0) ∨ (Is z .ret /\ ∃ i, i < ch.length /\ D i C))) ?_ ?_
 . refine Aa1 (fun q1 => ?_) (fun q1 => ?_)
   . obtain ⟨k1, k2, k3⟩ := Bc9 L (by omega)
     rw [<- hch] at k1 k2 k3
     rw [<- hr] at k1
     have hl64 : (L.drop (64 * (L.length / 64)) ++ [128] ++ List.replicate (63 - r) (0 : UInt8)).length = 64 := by simp only [List.length_append, hdl, List.length_singleton, List.length_replicate]; omega
     obtain ⟨bb, E, y1, y2, y3, y4⟩ := hstep _ _ B3 _ k1 hj3 hf3 trivial rfl
     simp only [RT, Q0, Q1, Q2, Q3, Q4, Q5, Q6, Q7, Q8, h0, BS1 d3 hl64]
     refine ⟨_, E, y1, ?_⟩
     simp only [RT, Q0, Q1, Q2, Q3, Q4, Q5, Q6, Q7, Q8]
     have hE := hf3.thn y2
     cases bb with
     | true =>
      have z1 := row_keep y2 d3 hN9.1
      obtain ⟨G, g1, g2, g3⟩ := B35 z1 hl64 Aw8
      simp only [RT, Q0, Q1, Q2, Q3, Q4, Q5, Q6, Q7, Q8, BG9, g1]
      have zB : G.blk[b9]? = some ⟨bc (cntB (List.replicate 56 0) n8 0), .var⟩ := by rw [g3, AQ8, List.replicate_append_replicate]; rfl
      have zJ := hJ' (y3 rfl).1 g2 hN9.1
      have z56 : (List.replicate 56 (0 : UInt8)).length = 56 := by simp
      have zk : L.length / 64 + 1 + 1 = ch.length := by omega
      rw [<- hn8] at k2
      refine ⟨hfold hE g2 hN9.1, .inl ⟨rfl, List.replicate 56 0, L.length / 64 + 1, ?_⟩⟩
      and_intros <;> first | rfl | assumption
     | false =>
      simp only [RT, Q0, Q1, Q2, Q3, Q4, Q5, Q6, Q7, Q8]
      exact ⟨hE, .inr ⟨rfl, _, (List.getElem?_eq_some_iff.1 k1).1, y4 rfl⟩⟩
   . obtain ⟨k1, k2⟩ := Bc8 L (by omega)
     rw [<- hch] at k1 k2
     rw [<- hr] at k1
     simp only [RT, Q0, Q1, Q2, Q3, Q4, Q5, Q6, Q7, Q8]
     have zB : B3.blk[b9]? = some ⟨bc (cntB (L.drop (64 * (L.length / 64)) ++ [128] ++ List.replicate (55 - r) 0) n8 0), .var⟩ := by
      rw [d3, AQ8, List.append_assoc _ (List.replicate (55 - r) 0), List.replicate_append_replicate, show 63 - r = 55 - r + 8 by omega]
     have z56 : (L.drop (64 * (L.length / 64)) ++ [128] ++ List.replicate (55 - r) (0 : UInt8)).length = 56 := by simp only [List.length_append, hdl, List.length_singleton, List.length_replicate]; omega
     have zk : L.length / 64 + 1 = ch.length := by omega
     rw [<- hn8] at k1
     refine ⟨hf3, .inl ⟨rfl, L.drop (64 * (L.length / 64)) ++ [128] ++ List.replicate (55 - r) 0, L.length / 64, ?_⟩⟩
     and_intros <;> first | rfl | assumption
 rintro z e C ⟨hfC, ⟨rfl, q, kk, hq, hkk, hck, hjC, hC, h0, h4, h9⟩ | ⟨rfl, hd⟩⟩
 rotate_left
 . simp only [RT, Q0, Q1, Q2, Q3, Q4, Q5, Q6, Q7, Q8]
   exact ⟨hfC, .inr hd⟩
 simp only [RT, Q0, Q1, Q2, Q3, Q4, Q5, Q6, Q7, Q8]
 refine Aa2 (fun z e E => ∃ i : Nat, z = 8 - i /\ i <= 8 /\ e.get 57 = .int .i64 i /\ e.get 0 = .yield lo /\ e.get 4 = .int .i64 (L.length : Int) /\ e.get 9 = .ptr b9 0 /\ Fr S A E /\ J kk E /\ E.blk[b9]? = some ⟨bc (cntB q n8 i), .var⟩)
  (fun z e E => Is z (.exit 4) /\ e.get 0 = .yield lo /\ e.get 9 = .ptr b9 0 /\ Fr S A E /\ J kk E /\ E.blk[b9]? = some ⟨bc (q ++ be8 n8), .var⟩)
  ⟨_, 0, rfl, by omega, rfl, h0, h4, h9, hfC, hjC, hC⟩ ?_ ?_
 . clear hC hjC hfC h0 h4 h9
   rintro z e E ⟨i, rfl, hi, h57, h0, h4, h9, hfE, hjE, hE⟩
   simp only [RT, Q0, Q1, Q2, Q3, Q4, Q5, Q6, Q7, Q8, h57]
   refine Aa1 (fun q2 => ?_) (fun q2 => ?_)
   rotate_left
   . have : i = 8 := by omega
     subst this
     rw [Bl8] at hE
     simp only [RT, Q0, Q1, Q2, Q3, Q4, Q5, Q6, Q7, Q8]
     exact ⟨rfl, h0, h9, hfE, hjE, hE⟩
   have hi : i < 8 := by omega
   have w63 : IntKind.i64.wrap (63 - (i : Int)) = ((63 - i : Nat) : Int) := by rw [Ac4 (by omega) (by omega)]; omega
   have w8 : IntKind.i64.wrap (8 * (i : Int)) = ((8 * i : Nat) : Int) := by rw [Ac4 (by omega) (by omega)]; omega
   have wi : IntKind.i64.wrap ((i : Int) + 1) = ((i + 1 : Nat) : Int) := by rw [Ad7 (by omega)]
   have sh3 : evShift .shl .u64 (L.length : Int) 3 = some (.int .u64 (n8 : Int)) := by
    show some (V.int .u64 (IntKind.u64.wrap ((L.length : Int) * 2 ^ 3))) = _
    rw [Ac1]; congr 2; omega
   have shr : evShift .shr .u64 (n8 : Int) ((8 * i : Nat) : Int) = some (.int .u64 ((n8 / 256 ^ i : Nat) : Int)) := by
    rw [Ay2 n8 (8 * i) (by show 8 * i <= 64; omega), Nat.pow_mul]
   have hcl : (cntB q n8 i).length = 64 := Bl9 hq (by omega)
   obtain ⟨G, t1, t2, t3⟩ := stB hE (j := 63 - i) (by rw [hcl]; omega) (UInt8.ofNat (n8 / 256 ^ i))
   rw [Bd0 hq hi] at t3
   simp only [RT, Q0, Q1, Q2, Q3, Q4, Q5, Q6, Q7, Q8, h57, w63, h4, BH0 L.length (by omega), AX2, sh3, w8, Aw2, shr, Be2, h9, AR6 (r := b9) (show 63 - i < 64 by omega), t1]
   simp only [RT, Q0, Q1, Q2, Q3, Q4, Q5, Q6, Q7, Q8, h57, wi]
   exact ⟨8 - (i + 1), by omega, i + 1, rfl, by omega, rfl, h0, hfold hfE t2 hN9.1, hJ' hjE t2 hN9.1, t3⟩
 rintro z e E hz ⟨rfl, h0, h9, hfE, hjE, hE⟩
 obtain ⟨bb, G, y1, y2, y3, y4⟩ := hstep _ _ E _ hck hjE hfE trivial rfl
 simp only [RT, Q0, Q1, Q2, Q3, Q4, Q5, Q6, Q7, Q8, h0, h9, BS1 hE (show (q ++ be8 n8).length = 64 by rw [List.length_append, hq, Ah8])]
 refine ⟨_, G, y1, ?_⟩
 simp only [RT, Q0, Q1, Q2, Q3, Q4, Q5, Q6, Q7, Q8]
 refine ⟨hfE.thn y2, ?_⟩
 cases bb with
 | true =>
  have := (y3 rfl).1
  rw [hkk] at this
  exact .inl this
 | false => exact .inr ⟨_, (List.getElem?_eq_some_iff.1 hck).1, y4 rfl⟩
end
end Go.Sv.Try
namespace Go.Sv
open Go
theorem GoesG.monoT {τ : Type} {P : Program} {H : Hints} {h : FuncId} {first cap : List V} {A0 : AS} {S T T' : Loc -> Prop} {K : Nat -> Prop} {Pre Fin : AS -> Prop} {AR : AS -> List V -> τ -> Prop} {xs : List τ} (g : GoesG P H h first cap A0 S T K Pre Fin AR xs) (ht : ∀ x, T x -> T' x) : GoesG P H h first cap A0 S T' K Pre Fin AR xs :=
 fun l J D h1 h2 h3 h4 => g l J D (fun i A A' q w => h1 i A A' q (w.mono ht)) h2 h3 h4
theorem AR7 {s : S8} {i : Nat} (h : i < 32) : ((out8 s).take i ++ List.replicate (32 - i) 0).set i (UInt8.ofNat ((gw (s8l s) (i / 4)).toNat >>> (24 - 8 * (i % 4)))) = (out8 s).take (i + 1) ++ List.replicate (32 - (i + 1)) 0 := by
 obtain ⟨k, hk⟩ : ∃ k, 32 - i = k + 1 := ⟨32 - i - 1, by omega⟩
 have hl : ((out8 s).take i).length = i := by rw [List.length_take, Af6]; omega
 rw [hk, show 32 - (i + 1) = k by omega, List.replicate_succ, List.set_append, if_neg (by omega), hl, Nat.sub_self, List.take_add_one]
 unfold out8
 rw [List.getElem?_map, List.getElem?_range h]
 simp
end Go.Sv
namespace Go.Sv.Try
open Go Go.Proofs
section
variable {A : AS} {r : Nat} {k : BK}
theorem A03 {v : V} (hv : v.one = true) : ∃ w A', EvF Try.prog HH 109 [v] A w A' /\ w = .fn 118 [] [.ptr A.blk.length 0] /\ Fr S0 A A' /\ A'.blk[A.blk.length]? = some ⟨[v], .var⟩ := by
 refine Aa5 rfl Try.func109 (by unfold Try.f109; rfl) Try.ntmps109 (by unfold Try.f109; rfl) (by simp) ?_
 simp only [RT, Q0, Q1, Q2, Q3, Q4, Q5, Q6, Q7, Q8, one_cells hv]
 exact ⟨Fr.pushVar A _, Ab0 A _⟩
theorem BS3 : evBuild Try.prog 196 [(0, .int .u32 1779033703), (1, .int .u32 3144134277), (2, .int .u32 1013904242), (3, .int .u32 2773480762), (4, .int .u32 1359893119), (5, .int .u32 2600822924), (6, .int .u32 528734635), (7, .int .u32 1541459225)] = some (.agg (wc .u32 (s8l sha0))) := by kernel_rfl
def z32s : Bts := List.replicate 32 0
theorem AR8 : (zeroT Try.prog 32).bind V.cells = some (bc z32s) := by kernel_rfl
theorem BH1 : evBuild Try.prog 32 [] = some (.agg (bc z32s)) := by kernel_rfl
theorem BS4 {r j : Nat} (h : j < 32) : evIndexAddr Try.prog 32 (.ptr r 0) (.int .i64 (j : Int)) = some (.ptr r j) := by
 rw [Ar5 Try.underlying32 sz5 h, Nat.zero_add, Nat.mul_one]
theorem ldI {l : Bts} (hb : A.blk[r]? = some ⟨bc l, k⟩) (h : l.length = 32) : evLoad Try.prog 32 (.ptr r 0) A = some (.agg (bc l)) := At.load hb (At.all _) AY0 Ay4 (by rw [Aa6, h])
theorem A56 {l l' : Bts} (hb : A.blk[r]? = some ⟨bc l, .var⟩) (h : l.length = 32) (h' : l'.length = 32) : ∃ A', evStore Try.prog 32 (.ptr r 0) (.agg (bc l')) A = some A' /\ Fr (· = .row r) A A' /\ A'.blk[r]? = some ⟨bc l', .var⟩ := by
 obtain ⟨A', s1, s2, s3, s4⟩ := Ab9 (P := Try.prog) (t := 32) (o := 0) (x := .agg (bc l')) (cs := bc l') hb rfl (by rw [Aa6, h']; exact Ay4) (by rw [Aa6, Aa6]; omega) (Ad3 _)
 rw [Ab3 (by rw [Aa6, Aa6]; omega)] at s3
 exact ⟨A', s1, s2, s3⟩
theorem BH2 (l : Bts) (h : l.length = 32) : ∃ A', evStore Try.prog 32 (.ptr A.blk.length 0) (.agg (bc l)) (A.push ⟨bc z32s, .var⟩) = some A' /\ Fr S0 A A' /\ A'.blk[A.blk.length]? = some ⟨bc l, .var⟩ := by
 obtain ⟨A2, s1, s2, s3, s4⟩ := Ag7 (P := Try.prog) A (z := bc z32s) (t := 32) (x := .agg (bc l)) (cs := bc l) rfl (by rw [Aa6, h]; exact Ay4) (by rw [Aa6, Aa6, h]; rfl) (Ad3 _)
 exact ⟨A2, s1, s2, s3⟩
theorem BH3 (n : Nat) (A : AS) : cnv Try.prog 194 5 (some (.int .u32 (n : Int))) A = some (.val (.int .u8 ((UInt8.ofNat n).toNat : Int))) := by
 rw [Aq1 (by decide) Try.underlying194 Try.underlying5]
 congr 3
set_option maxRecDepth 10000 in
set_option maxHeartbeats 16000000 in
theorem Aw9 {m : Hp} {v : V} {ls : List Bts} (hw : WF A) (hm : m.on A) (h : Slc (eSl eU8) m v ls) (hL : ls.flatten.length <= 1000000000000) (hLn : ls.length <= 1000000000000) :
 ∃ w A', EvF Try.prog HH 90 [v] A w A' /\ Fr S0 A A' /\ w = .agg (bc (sha ls.flatten)) := by
 refine Aa5 rfl Try.func90 (by unfold Try.f90; rfl) Try.ntmps90 (by unfold Try.f90; rfl) (by simp) ?_
 obtain ⟨L, hLd⟩ : ∃ L, L = ls.flatten := ⟨_, rfl⟩
 obtain ⟨ch, hch⟩ : ∃ c, c = chunks (padB L) := ⟨_, rfl⟩
 obtain ⟨A1, e1, f1, r1, n1⟩ := Aa8 A (bc z32s)
 obtain ⟨b1, hb1⟩ : ∃ b, b = A.blk.length := ⟨_, rfl⟩
 obtain ⟨A2, e2, f2, r2⟩ := BS0 (A := A1) (List.replicate 8 0) (s8l sha0) (n := 8) (t := 196) rfl rfl Bv0
 obtain ⟨bs, hbs⟩ : ∃ b, b = A1.blk.length := ⟨_, rfl⟩
 have hmA2 : m.on A2 := (hm.fr0 f1).fr0 f2
 obtain ⟨_, A3, k3, rfl, f3, r3⟩ := A03 (A := A2) h.one
 obtain ⟨bx, hbx⟩ : ∃ b, b = A2.blk.length := ⟨_, rfl⟩
 simp only [RT, Q0, Q1, Q2, Q3, Q4, Q5, Q6, Q7, Q8, AR8, <- e1, BS3, zcS, e2]
 refine Aa0 k3 ?_
 rw [<- hbs] at r2
 rw [<- hbx] at r3
 rw [<- hb1] at r1
 rw [<- hbs, <- hbx, <- hb1]
 have l2 := Ac3 r2
 have l1 := Ac3 r1
 have l3 := Ac3 r3
 have l23 := f3.len
 have l12 := f2.len
 have fA3 := (f1.then0 f2).then0 f3
 have r1' := f3.row0 (f2.row0 r1)
 have r2' := f3.row0 r2
 have hms : ∀ b, A.blk.length <= b -> m b = none := fun b hb => hm.fresh hb
 simp only [RT, Q0, Q1, Q2, Q3, Q4, Q5, Q6, Q7, Q8]
 refine AX6 (S := (· = .row bs)) (T := ownT A3.blk.length) (K := fun _ => False) (Pre := fun _ => True) (Fin := fun _ => True) (AR := argB) (xs := ch)
  (fun i B => B.blk[bs]? = some ⟨wc .u32 (s8l ((ch.take i).foldl comp sha0)), .var⟩) (fun B => B.blk[bs]? = some ⟨wc .u32 (s8l (ch.foldl comp sha0)), .var⟩)
  rfl (fun q => by cases q) (fun q => by obtain ⟨b, q, _⟩ := q; cases q) ?_ r2' ?_ ?_ Try.func90 Try.ntmps90 (by simp) ?_ ?_ ?_
 . intro A0 hf0
   rw [hch, hLd]
   refine GoesG.monoT (A02 ((hm.fr0 fA3).fr0 hf0) ?_ (hf0.row0 r3) h hL hLn) fun x ⟨b, q1, q2⟩ => ⟨b, q1, by have := hf0.len; omega⟩
   rintro b (q | q)
   . cases q
     have := hf0.len
     exact ⟨hms _ (by omega), by omega, by omega⟩
   . cases q
 . intro i B C q hf
   exact hf.row _ _ q (by rintro (⟨b, y1, y2⟩ | y); cases y1; omega; cases y)
 . intro B C q hf
   exact hf.row _ _ q (by intro y; cases y)
 . rintro i x B args hi hI hfB _ rfl
   refine ⟨_, rfl, ?_⟩
   have hx64 : x.length = 64 := by rw [hch] at hi; exact (AH5 hi).2.2
   obtain ⟨C, s1, s2, s3⟩ := B10 (A := B) x hx64
   simp only [RT, Q0, Q1, Q2, Q3, Q4, Q5, Q6, Q7, Q8, zcB, s1]
   refine ⟨rfl, s2.mono fun _ q => q.elim, fun B1 hB1 => ?_⟩
   have hsB := Ac3 hI
   obtain ⟨w, E, t1, t2, t3⟩ := A88 (hB1.row _ _ (s2.row0 hI) (fun q => by cases q)) (hB1.row _ _ s3 (fun q => by cases q)) hx64 (by omega)
   refine Aa0 t1 ?_
   simp only [RT, Q0, Q1, Q2, Q3, Q4, Q5, Q6, Q7, Q8]
   refine ⟨t2, .inl ⟨rfl, ?_, fun r q => q.elim⟩⟩
   rw [t3, Ac9 hi, List.foldl_append]; rfl
 . intro B q _
   rwa [List.take_length] at q
 . intro B hE hfB
   obtain ⟨s, hs⟩ : ∃ s, s = ch.foldl comp sha0 := ⟨_, rfl⟩
   rw [<- hs] at hE
   obtain ⟨C, e5, f5, r5, n5⟩ := Aa8 B (bc z32s)
   obtain ⟨b5, hb5⟩ : ∃ b, b = B.blk.length := ⟨_, rfl⟩
   simp only [RT, Q0, Q1, Q2, Q3, Q4, Q5, Q6, Q7, Q8, AR8, <- e5]
   rw [<- hb5] at r5 ⊢
   have hEs := f5.row0 hE
   have lbs := Ac3 hE
   have hfC : Fr S0 A C := (fA3.row_ hfB (by omega)).then0 f5
   have hr1C := f5.row0 (hfB.row _ _ r1' (fun q => by cases q; omega))
   have lb1 : b1 < B.blk.length := Ac3 (hfB.row _ _ r1' (fun q => by cases q; omega))
   refine Aa2 (fun z e E => ∃ i : Nat, z = 32 - i /\ i <= 32 /\ e.get 12 = .int .i64 i /\ e.get 2 = .ptr b1 0 /\ e.get 3 = .ptr bs 0 /\ e.get 5 = .ptr b5 0 /\ Fr (· = .row b5) C E /\ E.blk[b5]? = some ⟨bc ((out8 s).take i ++ List.replicate (32 - i) 0), .var⟩)
    (fun z e E => Is z (.exit 2) /\ e.get 2 = .ptr b1 0 /\ e.get 5 = .ptr b5 0 /\ Fr (· = .row b5) C E /\ E.blk[b5]? = some ⟨bc (out8 s), .var⟩)
    ⟨_, 0, rfl, by omega, rfl, rfl, rfl, rfl, .refl _ _, r5⟩ ?_ ?_
   . rintro z e E ⟨i, rfl, hi, h12, h2, h3, h5, hf, hB⟩
     simp only [RT, Q0, Q1, Q2, Q3, Q4, Q5, Q6, Q7, Q8, h12]
     refine Aa1 (fun q1 => ?_) (fun q1 => ?_)
     rotate_left
     . have : i = 32 := by omega
       subst this
       rw [List.take_of_length_le (by rw [Af6]; exact Nat.le_refl _), Nat.sub_self, List.replicate_zero, List.append_nil] at hB
       simp only [RT, Q0, Q1, Q2, Q3, Q4, Q5, Q6, Q7, Q8]
       exact ⟨rfl, h2, h5, hf, hB⟩
     have hi : i < 32 := by omega
     have wi : IntKind.i64.wrap ((i : Int) + 1) = ((i + 1 : Nat) : Int) := by rw [Ad7 (by omega)]
     have q4 : evBin Try.prog .quo 3 (.int .i64 (i : Int)) (.int .i64 4) = some (.int .i64 ((i / 4 : Nat) : Int)) := by
      rw [AX1, if_neg (by omega), show ((i : Int)).tdiv 4 = ((i / 4 : Nat) : Int) from rfl, Ac4 (by omega) (by omega)]
     have r4 : evBin Try.prog .rem 3 (.int .i64 (i : Int)) (.int .i64 4) = some (.int .i64 ((i % 4 : Nat) : Int)) := by
      rw [As4, if_neg (by omega)]; rfl
     have w8 : IntKind.i64.wrap (8 * ((i % 4 : Nat) : Int)) = ((8 * (i % 4) : Nat) : Int) := by rw [Ac4 (by omega) (by omega)]; omega
     have w24 : IntKind.i64.wrap (24 - ((8 * (i % 4) : Nat) : Int)) = ((24 - 8 * (i % 4) : Nat) : Int) := by rw [Ac4 (by omega) (by omega)]; omega
     have lS := ldW (hf.row _ _ hEs (fun q => by cases q; omega)) (j := i / 4) (show i / 4 < 8 by omega)
     obtain ⟨G, t1, t2, t3⟩ := stB hB (j := i) (by rw [List.length_append, List.length_take, Af6, List.length_replicate]; omega) (UInt8.ofNat ((gw (s8l s) (i / 4)).toNat >>> (24 - 8 * (i % 4))))
     rw [AR7 hi] at t3
     have t1' : evStore Try.prog 5 (.ptr b5 i) (.int .u8 ((UInt8.ofNat ((gw (s8l s) (i / 4) >>> (24 - 8 * (i % 4))).toNat)).toNat : Int)) E = some G := by rw [BitVec.toNat_ushiftRight]; exact t1
     simp only [RT, Q0, Q1, Q2, Q3, Q4, Q5, Q6, Q7, Q8, h12, q4, r4, w8, w24, h3, ax8 (r := bs) (show i / 4 < 8 by omega), lS, Aw2, Bn0 _ (n := 24 - 8 * (i % 4)) (by omega), BH3, h5, BS4 (r := b5) hi, t1']
     simp only [RT, Q0, Q1, Q2, Q3, Q4, Q5, Q6, Q7, Q8, h12, wi]
     refine ⟨32 - (i + 1), by omega, i + 1, rfl, by omega, rfl, h2, hf.trans t2 fun x q => .inl q, t3⟩
   rintro z e E hz ⟨rfl, h2, h5, hf, hB⟩
   have hr1E := hf.row _ _ hr1C (fun q => by cases q; omega)
   obtain ⟨G, t1, t2, t3⟩ := A56 hr1E (by simp [z32s]) (Af6 s)
   simp only [RT, Q0, Q1, Q2, Q3, Q4, Q5, Q6, Q7, Q8, h5, ldI hB (Af6 s), h2, t1, ldI t3 (Af6 s)]
   refine ⟨(hfC.row_ hf (by omega)).row_ t2 (by omega), ?_⟩
   rw [hs, hch, hLd]; rfl
end
end Go.Sv.Try
namespace Go.Sv
open Go
theorem B36 {a b : Nat} (ha : a < 18446744073709551616) (hb : b < 18446744073709551616) : evBits .or .u64 (a : Int) (b : Int) = some (.int .u64 ((a ||| b : Nat) : Int)) := by
 unfold evBits
 have e1 : (BitVec.ofInt IntKind.u64.bits (a : Int) ||| BitVec.ofInt IntKind.u64.bits (b : Int)).toNat = a ||| b := by
  rw [BitVec.toNat_or, BitVec.ofInt_natCast, BitVec.ofInt_natCast, BitVec.toNat_ofNat, BitVec.toNat_ofNat]
  show a % 18446744073709551616 ||| b % 18446744073709551616 = _
  rw [Nat.mod_eq_of_lt ha, Nat.mod_eq_of_lt hb]
 simp only [e1]
 rw [Ac1]
 have : a ||| b < 2 ^ 64 := Nat.or_lt_two_pow ha hb
 congr 2; omega
theorem A57 {n k : Nat} (h : k <= padZ n) : (n + 1 + k) % 64 = 56 ↔ k = padZ n := by
 unfold padZ at *
 constructor <;> intro q <;> omega
def cntR (n i : Nat) : Bts := List.replicate i 0 ++ (be8 n).drop i
theorem A58 {n i : Nat} (h : i <= 8) : (cntR n i).length = 8 := by unfold cntR; simp only [List.length_append, List.length_replicate, List.length_drop, Ah8]; omega
theorem Be3 {n i : Nat} (h : i < 8) : (cntR n (i + 1)).set i (UInt8.ofNat (n / 256 ^ (7 - i))) = cntR n i := by
 unfold cntR
 have hd : (be8 n).drop i = UInt8.ofNat (n / 256 ^ (7 - i)) :: (be8 n).drop (i + 1) := by
  rw [List.drop_eq_getElem_cons (by rw [Ah8]; omega)]
  congr 1
  unfold be8
  rw [List.getElem_map, List.getElem_range]
 rw [hd, List.replicate_succ', List.append_assoc, List.set_append, if_neg (by simp), List.length_replicate, Nat.sub_self]
 rfl
theorem Bv7 (n : Nat) : UInt8.ofNat (n % 256) = UInt8.ofNat n := by
 apply UInt8.toNat_inj.1
 rw [UInt8.toNat_ofNat', UInt8.toNat_ofNat', Nat.mod_mod]
end Go.Sv
namespace Go.Sv.Try
open Go Go.Proofs
section
variable {A : AS} {r : Nat} {k : BK}
theorem Af4 {x : W32} {n : Nat} (h1 : 1 <= n) (h2 : n <= 31) {y : Int} (hy : y = (n : Int)) : EvF Try.prog HH 107 [.int .u64 (x.toNat : Int), .int .i64 y] A (.int .u64 ((rot x n).toNat : Int)) A := by
 suffices h : ∃ w A', EvF Try.prog HH 107 [.int .u64 (x.toNat : Int), .int .i64 y] A w A' /\ A' = A /\ w = .int .u64 ((rot x n).toNat : Int) by
  obtain ⟨w, A', h, rfl, rfl⟩ := h; exact h
 subst hy
 have hx := Ar6 x
 have hp : (2 : Nat) ^ (32 - n) <= 2 ^ 31 := Nat.pow_le_pow_right (by decide) (by omega)
 have hm : x.toNat * 2 ^ (32 - n) < 18446744073709551616 := by
  have : x.toNat * 2 ^ (32 - n) <= 4294967295 * 2 ^ 31 := Nat.mul_le_mul (by omega) hp
  omega
 have e0 : IntKind.i64.wrap (32 - (n : Int)) = ((32 - n : Nat) : Int) := by rw [Ac4 (by omega) (by omega)]; omega
 have e1 : evShift .shl .u64 (x.toNat : Int) ((32 - n : Nat) : Int) = some (.int .u64 ((x.toNat * 2 ^ (32 - n) : Nat) : Int)) := by
  unfold evShift
  rw [if_neg (by omega)]
  have e : min (((32 - n : Nat) : Int).toNat) IntKind.u64.bits = 32 - n := by rw [Int.toNat_natCast]; show min (32 - n) 64 = 32 - n; omega
  simp only [e]
  rw [Ac1]
  congr 2
  rw [Int.emod_eq_of_lt]
  . simp
  . exact Int.mul_nonneg (by omega) (Int.pow_nonneg (by decide))
  . have : ((x.toNat : Int) * 2 ^ (32 - n)) = ((x.toNat * 2 ^ (32 - n) : Nat) : Int) := by simp
    omega
 have e2 : evBits .or .u64 ((x >>> n).toNat : Int) ((x.toNat * 2 ^ (32 - n) : Nat) : Int) = some (.int .u64 (((x >>> n).toNat ||| (x.toNat * 2 ^ (32 - n)) : Nat) : Int)) := B36 (by have := Ar6 (x >>> n); omega) hm
 have e3 : evBin Try.prog .rem 191 (.int .u64 (((x >>> n).toNat ||| (x.toNat * 2 ^ (32 - n)) : Nat) : Int)) (.int .u64 4294967296) = some (.int .u64 ((rot x n).toNat : Int)) := by
  rw [As4, if_neg (by omega)]
  have : ((((x >>> n).toNat ||| (x.toNat * 2 ^ (32 - n)) : Nat) : Int)).tmod 4294967296 = ((((x >>> n).toNat ||| (x.toNat * 2 ^ (32 - n))) % 2 ^ 32 : Nat) : Int) := rfl
  rw [this, Nat.or_mod_two_pow, Nat.mod_eq_of_lt (x >>> n).isLt]
  unfold rot
  rw [BitVec.toNat_or, BitVec.toNat_shiftLeft, Nat.shiftLeft_eq]
 refine Aa5 rfl Try.func107 (by unfold Try.f107; rfl) Try.ntmps107 (by unfold Try.f107; rfl) (by simp) ?_
 simp only [RT, Q0, Q1, Q2, Q3, Q4, Q5, Q6, Q7, Q8]
 rw [Bu5, Aa7 (by rfl)]
 simp only [RT, Q0, Q1, Q2, Q3, Q4, Q5, Q6, Q7, Q8, Aw2, Bc7 (k := .u64) (.inr rfl) x (n := n) (by omega), e0, AX2, e1, A39, e2, e3]
theorem B37 : msl Try.prog 44 (some (.int .i64 8)) (some (.int .i64 8)) = some (.newSl (bc (List.replicate 8 0)) 8 1) := by kernel_rfl
theorem BS5 : bsl Try.prog 44 1 (some [(0, .int .u8 128)]) = some (.newSl (bc [128]) 1 1) := by kernel_rfl
theorem BH4 : bsl Try.prog 44 1 (some [(0, .int .u8 0)]) = some (.newSl (bc [0]) 1 1) := by kernel_rfl
theorem B38 {b j : Nat} (h : j < 8) : evIndexAddr Try.prog 44 (.sl b 0 8 1) (.int .i64 (j : Int)) = some (.ptr b j) := by
 rw [A43 Try.underlying44 sz5 h, Nat.zero_add, Nat.mul_one]
set_option maxRecDepth 10000 in
set_option maxHeartbeats 16000000 in
theorem A04 {s : Bts} (hw : WF A) (hs : s.length <= 1000000000000) : ∃ w A', EvF Try.prog HH 105 [.str s] A w A' /\ Fr S0 A A' /\ w = .str (padB s) := by
 refine Aa5 rfl Try.func105 (by unfold Try.f105; rfl) Try.ntmps105 (by unfold Try.f105; rfl) (by simp) ?_
 have hcv : ∀ A, cnv Try.prog 9 44 (some (.str s)) A = some (.newSl (bc s) s.length 1) := fun A => AF4 (by decide) Try.underlying9 Try.underlying44 Try.underlying5
 have q1 := Fr.pushArr A (bc s)
 have o1 := Own.new (N := A.blk.length) (A := A) (n := s.length) (sz := 1) (cs := bc s) hw (Nat.le_refl _) (by rw [Aa6, Nat.mul_one]) (Ad3 _)
 obtain ⟨v1, A1, p1, p2, p3⟩ := o1.appNew (P := Try.prog) (t := 44) (tx := 44) (k := 1) (new := bc [128]) Bb5 Try.underlying44 (q1.wf hw) (by have := q1.len; omega) rfl (Ad3 _) (by omega) (by omega)
 have hf1 : Fr S0 A A1 := q1.fams p3
 simp only [RT, Q0, Q1, Q2, Q3, Q4, Q5, Q6, Q7, Q8, hcv, BS5, p1]
 refine Aa2 (fun z e B => ∃ (k : Nat) (v : V), z = padZ s.length - k /\ k <= padZ s.length /\ e.get 3 = v /\ e.get 0 = .str s /\ Fr S0 A B /\ Own A.blk.length B v (s.length + 1 + k) 1 (bc (s ++ [128] ++ List.replicate k 0)))
  (fun z e B => Is z (.exit 0) /\ ∃ v, e.get 3 = v /\ e.get 0 = .str s /\ Fr S0 A B /\ Own A.blk.length B v (s.length + 1 + padZ s.length) 1 (bc (s ++ [128] ++ List.replicate (padZ s.length) 0)))
  ⟨_, 0, v1, rfl, by omega, rfl, rfl, hf1, p2.cast (by omega) (by rw [List.replicate_zero, List.append_nil, AX4])⟩ ?_ ?_
 . rintro z e B ⟨k, v, rfl, hk, h3, h0, hf, ho⟩
   have hz := AY9 s.length
   have rm : evBin Try.prog .rem 3 (.int .i64 ((s.length + 1 + k : Nat) : Int)) (.int .i64 64) = some (.int .i64 (((s.length + 1 + k) % 64 : Nat) : Int)) := by rw [As4, if_neg (by omega)]; rfl
   simp only [RT, Q0, Q1, Q2, Q3, Q4, Q5, Q6, Q7, Q8, h3, ho.len (P := Try.prog) Try.underlying44 B, rm]
   refine Aa1 (fun q1 => ?_) (fun q1 => ?_)
   rotate_left
   . have : k = padZ s.length := (A57 hk).1 (by omega)
     subst this
     simp only [RT, Q0, Q1, Q2, Q3, Q4, Q5, Q6, Q7, Q8]
     exact ⟨rfl, v, h3, h0, hf, ho⟩
   have hk2 : k < padZ s.length := by
    rcases Nat.lt_or_ge k (padZ s.length) with q | q
    . exact q
    . exact absurd ((A57 hk).2 (by omega)) (by omega)
   obtain ⟨v2, C, p1, p2, p3⟩ := ho.appNew (P := Try.prog) (t := 44) (tx := 44) (k := 1) (new := bc [0]) Bb5 Try.underlying44 (hf.wf hw) (by have := hf.len; omega) rfl (Ad3 _) (by omega) (by omega)
   simp only [RT, Q0, Q1, Q2, Q3, Q4, Q5, Q6, Q7, Q8, h3, BH4, p1]
   refine ⟨padZ s.length - (k + 1), by omega, k + 1, v2, rfl, by omega, rfl, h0, hf.fams p3, p2.cast (by omega) ?_⟩
   rw [List.replicate_succ', <- List.append_assoc, AX4 _ [0]]
 rintro z e B hz ⟨rfl, v, h3, h0, hf, ho⟩
 have hz64 := AY9 s.length
 have wB := hf.wf hw
 obtain ⟨bc8, hb8⟩ : ∃ b, b = B.blk.length := ⟨_, rfl⟩
 have q2 := Fr.pushArr B (bc (List.replicate 8 0))
 have rr := Ab0 B ⟨bc (List.replicate 8 0), .arr B.blk.length 0⟩
 have so := Sole.new (cs := bc (List.replicate 8 0)) wB
 have hml : IntKind.u64.wrap ((s.length : Int) * 8) = ((s.length * 8 : Nat) : Int) := by rw [Ac1]; omega
 simp only [RT, Q0, Q1, Q2, Q3, Q4, Q5, Q6, Q7, Q8, B37, h0, Ak4 Try.underlying9, BH0 s.length (by omega), hml]
 obtain ⟨B1, hB1⟩ : ∃ C, C = B.push ⟨bc (List.replicate 8 0), .arr B.blk.length 0⟩ := ⟨_, rfl⟩
 rw [<- hB1] at q2 rr so ⊢
 rw [<- hb8] at rr so ⊢
 have ho1 := ho.fr0 q2
 obtain ⟨n8, hn8⟩ : ∃ n, n = s.length * 8 := ⟨_, rfl⟩
 rw [<- hn8]
 refine Aa2 (fun z e C => ∃ i : Nat, z = i /\ i <= 8 /\ e.get 6 = .int .i64 ((i : Int) - 1) /\ e.get 5 = .int .u64 ((n8 / 256 ^ (8 - i) : Nat) : Int) /\ e.get 4 = .sl bc8 0 8 1 /\ e.get 3 = v /\ Fr (· = .row bc8) B1 C /\ C.blk[bc8]? = some ⟨bc (cntR n8 i), .arr bc8 0⟩ /\ Sole C bc8 bc8)
  (fun z e C => Is z (.exit 2) /\ e.get 4 = .sl bc8 0 8 1 /\ e.get 3 = v /\ Fr (· = .row bc8) B1 C /\ C.blk[bc8]? = some ⟨bc (be8 n8), .arr bc8 0⟩)
  ⟨_, 8, rfl, by omega, rfl, by rw [Nat.sub_self, Nat.pow_zero, Nat.div_one]; rfl, rfl, h3, .refl _ _, by unfold cntR; rw [List.drop_of_length_le (by rw [Ah8]; omega), List.append_nil]; exact rr, so⟩ ?_ ?_
 . rintro z e C ⟨i, rfl, hi, h6, h5, h4, h3, hfC, hC, hso⟩
   simp only [RT, Q0, Q1, Q2, Q3, Q4, Q5, Q6, Q7, Q8, h6]
   refine Aa1 (fun q1 => ?_) (fun q1 => ?_)
   rotate_left
   . have : z = 0 := by omega
     subst this
     simp only [RT, Q0, Q1, Q2, Q3, Q4, Q5, Q6, Q7, Q8]
     exact ⟨rfl, h4, h3, hfC, hC⟩
   obtain ⟨i, rfl⟩ : ∃ i, z = i + 1 := ⟨z - 1, by omega⟩
   have ei : (((i + 1 : Nat) : Int) - 1) = (i : Int) := by omega
   have rm : evBin Try.prog .rem 191 (.int .u64 ((n8 / 256 ^ (8 - (i + 1)) : Nat) : Int)) (.int .u64 256) = some (.int .u64 ((n8 / 256 ^ (8 - (i + 1)) % 256 : Nat) : Int)) := by rw [As4, if_neg (by omega)]; rfl
   have qu : evBin Try.prog .quo 191 (.int .u64 ((n8 / 256 ^ (8 - (i + 1)) : Nat) : Int)) (.int .u64 256) = some (.int .u64 ((n8 / 256 ^ (8 - i) : Nat) : Int)) := by
    rw [AX1, if_neg (by omega)]
    have e : ((n8 / 256 ^ (8 - (i + 1)) : Nat) : Int).tdiv 256 = ((n8 / 256 ^ (8 - (i + 1)) / 256 : Nat) : Int) := rfl
    have e2 : n8 / 256 ^ (8 - (i + 1)) / 256 = n8 / 256 ^ (8 - i) := by rw [Nat.div_div_eq_div_mul, show 8 - i = (8 - (i + 1)) + 1 by omega, Nat.pow_succ]
    rw [e, e2, Bl7 (k := .u64) (.inr rfl)]
    have : n8 / 256 ^ (8 - i) <= n8 := Nat.div_le_self _ _
    show _ < 18446744073709551616
    omega
   obtain ⟨D, t1, t2, t3, t4, t5⟩ := AK8 (P := Try.prog) (t := 5) (o := i) (x := .int .u8 ((UInt8.ofNat (n8 / 256 ^ (7 - i))).toNat : Int)) (cs := [.int .u8 ((UInt8.ofNat (n8 / 256 ^ (7 - i))).toNat : Int)]) hso hC rfl sz5 (by rw [Aa6, A58 (by omega)]; show i + 1 <= 8; omega) rfl
   rw [AQ7 (by rw [A58 (by omega)]; omega), Be3 (by omega)] at t3
   have t1' : evStore Try.prog 5 (.ptr bc8 i) (.int .u8 ((UInt8.ofNat (n8 / 256 ^ (8 - (i + 1)) % 256)).toNat : Int)) C = some D := by rw [Bv7, show 8 - (i + 1) = 7 - i by omega]; exact t1
   have wi : IntKind.i64.wrap ((i : Int) - 1) = (i : Int) - 1 := Ac4 (by omega) (by omega)
   simp only [RT, Q0, Q1, Q2, Q3, Q4, Q5, Q6, Q7, Q8, h6, ei, h5, rm, Be2, h4, B38 (b := bc8) (show i < 8 by omega), t1', qu]
   simp only [RT, Q0, Q1, Q2, Q3, Q4, Q5, Q6, Q7, Q8, h6, ei, wi]
   exact ⟨i, by omega, i, rfl, by omega, rfl, rfl, h3, hfC.trans t2 fun x q => .inl q, t3, t5⟩
 rintro z e C hz ⟨rfl, h4, h3, hfC, hC⟩
 have hfBC : Fr S0 B C := q2.row_ hfC (by omega)
 have hfAC := hf.then0 hfBC
 have hoC := ho.fr0 hfBC
 obtain ⟨v2, D, p1, p2, p3⟩ := hoC.app (P := Try.prog) (t := 44) (tx := 44) Bb5 (hfAC.wf hw) (by have := hfAC.len; omega) (Ay1 (P := Try.prog) (tx := 44) (sz := 1) (n := 8) Try.underlying44 hC (by rw [Aa6, Ah8])) (by rw [Aa6, Ah8]) (Ad3 _) (by omega) (by omega)
 have hfD : Fr S0 A D := hfAC.fams p3
 have p2 := p2.cast (n' := (padB s).length) (cs' := bc (padB s)) (by rw [Ai0]) (by unfold padB; rw [<- hn8, AX4 _ (be8 n8)])
 obtain ⟨m, m1, m2, m3⟩ := p2.bts
 simp only [RT, Q0, Q1, Q2, Q3, Q4, Q5, Q6, Q7, Q8, h3, h4, p1, AB9 (P := Try.prog) (s := 44) (d := 9) (by decide) m3 m1 Try.underlying44 Try.underlying5 Try.underlying9]
 exact hfD
end
end Go.Sv.Try
namespace Go.Sv
open Go
theorem Bn1 (x y : W32) : IntKind.u64.wrap ((x.toNat : Int) + (y.toNat : Int)) = ((x.toNat + y.toNat : Nat) : Int) := by
 rw [Ac1]; have := Ar6 x; have := Ar6 y; omega
theorem BH5 (x y z : W32) : IntKind.u64.wrap (((x.toNat + y.toNat : Nat) : Int) + (z.toNat : Int)) = ((x.toNat + y.toNat + z.toNat : Nat) : Int) := by
 rw [Ac1]; have := Ar6 x; have := Ar6 y; have := Ar6 z; omega
theorem BH6 (x y z u : W32) : IntKind.u64.wrap (((x.toNat + y.toNat + z.toNat : Nat) : Int) + (u.toNat : Int)) = ((x.toNat + y.toNat + z.toNat + u.toNat : Nat) : Int) := by
 rw [Ac1]; have := Ar6 x; have := Ar6 y; have := Ar6 z; have := Ar6 u; omega
theorem BS6 (x y z u v : W32) : IntKind.u64.wrap (((x.toNat + y.toNat + z.toNat + u.toNat : Nat) : Int) + (v.toNat : Int)) = ((x.toNat + y.toNat + z.toNat + u.toNat + v.toNat : Nat) : Int) := by
 rw [Ac1]; have := Ar6 x; have := Ar6 y; have := Ar6 z; have := Ar6 u; have := Ar6 v; omega
theorem BS7 (x y z u v a b : W32) : IntKind.u64.wrap (((x.toNat + y.toNat + z.toNat + u.toNat + v.toNat : Nat) : Int) + ((a.toNat + b.toNat : Nat) : Int)) = ((x.toNat + y.toNat + z.toNat + u.toNat + v.toNat + (a.toNat + b.toNat) : Nat) : Int) := by
 rw [Ac1]; have := Ar6 x; have := Ar6 y; have := Ar6 z; have := Ar6 u; have := Ar6 v; have := Ar6 a; have := Ar6 b; omega
theorem BS8 (x y z u v d : W32) : IntKind.u64.wrap ((d.toNat : Int) + ((x.toNat + y.toNat + z.toNat + u.toNat + v.toNat : Nat) : Int)) = ((d.toNat + (x.toNat + y.toNat + z.toNat + u.toNat + v.toNat) : Nat) : Int) := by
 rw [Ac1]; have := Ar6 x; have := Ar6 y; have := Ar6 z; have := Ar6 u; have := Ar6 v; have := Ar6 d; omega
section
variable {P : Program} {t : TypeId}
theorem Bn2 (n : Nat) (w : W32) (h : n % 4294967296 = w.toNat) : evBin P .rem t (.int .u64 (n : Int)) (.int .u64 4294967296) = some (.int .u64 (w.toNat : Int)) := by
 rw [As4, if_neg (by omega), <- h]; rfl
theorem BS9 (x y : W32) : evBin P .rem t (.int .u64 ((x.toNat + y.toNat : Nat) : Int)) (.int .u64 4294967296) = some (.int .u64 ((x + y).toNat : Int)) := Bn2 _ _ (by simp [BitVec.toNat_add])
theorem BT0 (x y z u : W32) : evBin P .rem t (.int .u64 ((x.toNat + y.toNat + z.toNat + u.toNat : Nat) : Int)) (.int .u64 4294967296) = some (.int .u64 ((x + y + z + u).toNat : Int)) := Bn2 _ _ (by simp only [BitVec.toNat_add]; omega)
theorem BT1 (x y z u v a b : W32) : evBin P .rem t (.int .u64 ((x.toNat + y.toNat + z.toNat + u.toNat + v.toNat + (a.toNat + b.toNat) : Nat) : Int)) (.int .u64 4294967296) = some (.int .u64 ((x + y + z + u + v + (a + b)).toNat : Int)) := Bn2 _ _ (by simp only [BitVec.toNat_add]; omega)
theorem BT2 (x y z u v d : W32) : evBin P .rem t (.int .u64 ((d.toNat + (x.toNat + y.toNat + z.toNat + u.toNat + v.toNat) : Nat) : Int)) (.int .u64 4294967296) = some (.int .u64 ((d + (x + y + z + u + v)).toNat : Int)) := Bn2 _ _ (by simp only [BitVec.toNat_add]; omega)
theorem B39 (x : W32) : evBin P .quo t (.int .u64 (x.toNat : Int)) (.int .u64 8) = some (.int .u64 ((x >>> 3).toNat : Int)) := by
 rw [AX1, if_neg (by omega)]
 have e : ((x.toNat : Int)).tdiv 8 = ((x.toNat / 8 : Nat) : Int) := rfl
 rw [e, Ac1, BitVec.toNat_ushiftRight, Nat.shiftRight_eq_div_pow]
 have := Ar6 x
 congr 2; omega
theorem Bw9 (x : W32) : evBin P .quo t (.int .u64 (x.toNat : Int)) (.int .u64 1024) = some (.int .u64 ((x >>> 10).toNat : Int)) := by
 rw [AX1, if_neg (by omega)]
 have e : ((x.toNat : Int)).tdiv 1024 = ((x.toNat / 1024 : Nat) : Int) := rfl
 rw [e, Ac1, BitVec.toNat_ushiftRight, Nat.shiftRight_eq_div_pow]
 have := Ar6 x
 congr 2; omega
end
theorem BT3 (x : W32) : IntKind.u64.wrap (IntKind.u64.wrap (4294967296 - 1) - (x.toNat : Int)) = ((~~~x).toNat : Int) := by
 rw [Ac1, Ac1, BitVec.toNat_not]; have := Ar6 x; omega
def pw (b : Bts) (i : Nat) : Nat -> Nat
 | 0 => 0
 | c + 1 => pw b i c * 256 + gb b (4 * i + c)
theorem Bx0 (b : Bts) (i : Nat) : ∀ c, pw b i c < 256 ^ c
 | 0 => by simp [pw]
 | c + 1 => by have := Bx0 b i c; have := AL7 b (4 * i + c); rw [pw, Nat.pow_succ]; omega
theorem A59 (b : Bts) (i : Nat) {c : Nat} (h : c <= 4) : (BitVec.ofNat 32 (pw b i c) : W32).toNat = pw b i c := by
 rw [BitVec.toNat_ofNat, Nat.mod_eq_of_lt]
 have h1 := Bx0 b i c
 have : 256 ^ c <= 256 ^ 4 := Nat.pow_le_pow_right (by decide) h
 omega
theorem BH7 (b : Bts) (i : Nat) : (BitVec.ofNat 32 (pw b i 4) : W32) = be4 b i := by
 unfold be4; simp only [pw]; simp
end Go.Sv
namespace Go.Sv.Try
open Go Go.Proofs
section
variable {A : AS} {r : Nat} {k : BK}
theorem A89 (x y : W32) : evBits .xor .u64 (x.toNat : Int) (y.toNat : Int) = some (.int .u64 ((x ^^^ y).toNat : Int)) := Bv3 (.inr rfl) x y
theorem BH8 (x y : W32) : evBits .and .u64 (x.toNat : Int) (y.toNat : Int) = some (.int .u64 ((x &&& y).toNat : Int)) := Bv4 (.inr rfl) x y
theorem B11 (x y : W32) : evBits .or .u64 (x.toNat : Int) (y.toNat : Int) = some (.int .u64 ((x ||| y).toNat : Int)) := BG0 (.inr rfl) x y
theorem BT4 : bsl Try.prog 189 64 (some [(0, .int .u64 1116352408), (1, .int .u64 1899447441), (2, .int .u64 3049323471), (3, .int .u64 3921009573), (4, .int .u64 961987163), (5, .int .u64 1508970993), (6, .int .u64 2453635748), (7, .int .u64 2870763221), (8, .int .u64 3624381080), (9, .int .u64 310598401), (10, .int .u64 607225278), (11, .int .u64 1426881987), (12, .int .u64 1925078388), (13, .int .u64 2162078206), (14, .int .u64 2614888103), (15, .int .u64 3248222580), (16, .int .u64 3835390401), (17, .int .u64 4022224774), (18, .int .u64 264347078), (19, .int .u64 604807628), (20, .int .u64 770255983), (21, .int .u64 1249150122), (22, .int .u64 1555081692), (23, .int .u64 1996064986), (24, .int .u64 2554220882), (25, .int .u64 2821834349), (26, .int .u64 2952996808), (27, .int .u64 3210313671), (28, .int .u64 3336571891), (29, .int .u64 3584528711), (30, .int .u64 113926993), (31, .int .u64 338241895), (32, .int .u64 666307205), (33, .int .u64 773529912), (34, .int .u64 1294757372), (35, .int .u64 1396182291), (36, .int .u64 1695183700), (37, .int .u64 1986661051), (38, .int .u64 2177026350), (39, .int .u64 2456956037), (40, .int .u64 2730485921), (41, .int .u64 2820302411), (42, .int .u64 3259730800), (43, .int .u64 3345764771), (44, .int .u64 3516065817), (45, .int .u64 3600352804), (46, .int .u64 4094571909), (47, .int .u64 275423344), (48, .int .u64 430227734), (49, .int .u64 506948616), (50, .int .u64 659060556), (51, .int .u64 883997877), (52, .int .u64 958139571), (53, .int .u64 1322822218), (54, .int .u64 1537002063), (55, .int .u64 1747873779), (56, .int .u64 1955562222), (57, .int .u64 2024104815), (58, .int .u64 2227730452), (59, .int .u64 2361852424), (60, .int .u64 2428436474), (61, .int .u64 2756734187), (62, .int .u64 3204031479), (63, .int .u64 3329325298)]) = some (.newSl (wc .u64 shK) 64 1) := by kernel_rfl
theorem BT5 (a b c d e f g h : Int) : bsl Try.prog 189 8 (some [(0, .int .u64 a), (1, .int .u64 b), (2, .int .u64 c), (3, .int .u64 d), (4, .int .u64 e), (5, .int .u64 f), (6, .int .u64 g), (7, .int .u64 h)]) = some (.newSl [.int .u64 a, .int .u64 b, .int .u64 c, .int .u64 d, .int .u64 e, .int .u64 f, .int .u64 g, .int .u64 h] 8 1) := by kernel_rfl
theorem B40 : bsl Try.prog 189 0 (some []) = some (.newSl [] 0 1) := by kernel_rfl
theorem BT6 : msl Try.prog 189 (some (.int .i64 64)) (some (.int .i64 64)) = some (.newSl (wc .u64 (List.replicate 64 0)) 64 1) := by kernel_rfl
theorem A90 : ∃ w A', EvF Try.prog HH 106 [] A w A' /\ w = .sl A.blk.length 0 64 1 /\ A' = A.push ⟨wc .u64 shK, .arr A.blk.length 0⟩ := by
 refine Aa5 rfl Try.func106 (by unfold Try.f106; rfl) Try.ntmps106 (by unfold Try.f106; rfl) (by simp) ?_
 simp only [RT, Q0, Q1, Q2, Q3, Q4, Q5, Q6, Q7, Q8, BT4]
theorem axU {b n j : Nat} (h : j < n) : evIndexAddr Try.prog 189 (.sl b 0 n 1) (.int .i64 (j : Int)) = some (.ptr b j) := by
 rw [A43 Try.underlying189 BF4 h, Nat.zero_add, Nat.mul_one]
theorem B41 (r : Nat) : evIndexAddr Try.prog 189 (.sl r 0 8 1) (.int .i64 0) = some (.ptr r 0) /\ evIndexAddr Try.prog 189 (.sl r 0 8 1) (.int .i64 1) = some (.ptr r 1) /\ evIndexAddr Try.prog 189 (.sl r 0 8 1) (.int .i64 2) = some (.ptr r 2) /\ evIndexAddr Try.prog 189 (.sl r 0 8 1) (.int .i64 3) = some (.ptr r 3) /\ evIndexAddr Try.prog 189 (.sl r 0 8 1) (.int .i64 4) = some (.ptr r 4) /\ evIndexAddr Try.prog 189 (.sl r 0 8 1) (.int .i64 5) = some (.ptr r 5) /\ evIndexAddr Try.prog 189 (.sl r 0 8 1) (.int .i64 6) = some (.ptr r 6) /\ evIndexAddr Try.prog 189 (.sl r 0 8 1) (.int .i64 7) = some (.ptr r 7) :=
 ⟨axU (j := 0) (by decide), axU (j := 1) (by decide), axU (j := 2) (by decide), axU (j := 3) (by decide), axU (j := 4) (by decide), axU (j := 5) (by decide), axU (j := 6) (by decide), axU (j := 7) (by decide)⟩
theorem ldU {l : List W32} (hb : A.blk[r]? = some ⟨wc .u64 l, k⟩) {j : Nat} (h : j < l.length) : evLoad Try.prog 191 (.ptr r j) A = some (.int .u64 ((gw l j).toNat : Int)) := by
 rw [Ab5 BZ7 hb, Bv1 h]
theorem B42 {s : S8} (hb : A.blk[r]? = some ⟨wc .u64 (s8l s), k⟩) : evLoad Try.prog 191 (.ptr r 0) A = some (.int .u64 (s.a.toNat : Int)) /\ evLoad Try.prog 191 (.ptr r 1) A = some (.int .u64 (s.b.toNat : Int)) /\ evLoad Try.prog 191 (.ptr r 2) A = some (.int .u64 (s.c.toNat : Int)) /\ evLoad Try.prog 191 (.ptr r 3) A = some (.int .u64 (s.d.toNat : Int)) /\ evLoad Try.prog 191 (.ptr r 4) A = some (.int .u64 (s.e.toNat : Int)) /\ evLoad Try.prog 191 (.ptr r 5) A = some (.int .u64 (s.f.toNat : Int)) /\ evLoad Try.prog 191 (.ptr r 6) A = some (.int .u64 (s.g.toNat : Int)) /\ evLoad Try.prog 191 (.ptr r 7) A = some (.int .u64 (s.h.toNat : Int)) :=
 ⟨ldU hb (j := 0) (by decide : 0 < 8), ldU hb (j := 1) (by decide : 1 < 8), ldU hb (j := 2) (by decide : 2 < 8), ldU hb (j := 3) (by decide : 3 < 8), ldU hb (j := 4) (by decide : 4 < 8), ldU hb (j := 5) (by decide : 5 < 8), ldU hb (j := 6) (by decide : 6 < 8), ldU hb (j := 7) (by decide : 7 < 8)⟩
theorem stU {l : List W32} (hs : Sole A r r) (hb : A.blk[r]? = some ⟨wc .u64 l, .arr r 0⟩) {j : Nat} (h : j < l.length) (x : W32) : ∃ A', evStore Try.prog 191 (.ptr r j) (.int .u64 (x.toNat : Int)) A = some A' /\ Fr (· = .row r) A A' /\ A'.blk[r]? = some ⟨wc .u64 (l.set j x), .arr r 0⟩ /\ Sole A' r r := by
 obtain ⟨A', s1, s2, s3, s4, s5⟩ := AK8 (P := Try.prog) (t := 191) (o := j) (x := .int .u64 (x.toNat : Int)) (cs := [.int .u64 (x.toNat : Int)]) hs hb rfl BF4 (by rw [Ap2]; exact h) rfl
 rw [Bv2 h] at s3
 exact ⟨A', s1, s2, s3, s5⟩
theorem BT7 (l : Bts) (j : Nat) (A : AS) : cnv Try.prog 5 191 (some (.int .u8 (gb l j : Int))) A = some (.val (.int .u64 (gb l j : Int))) := by
 rw [Aq1 (by decide) Try.underlying5 Try.underlying191, Ac1]
 have := AL7 l j
 rw [Int.emod_eq_of_lt (by omega) (by omega)]
structure RW (A B : AS) (bk bh bw : Nat) (s : S8) (l : List W32) : Prop where
 fr : Fr S0 A B
 k : B.blk[bk]? = some ⟨wc .u64 shK, .arr bk 0⟩
 h : B.blk[bh]? = some ⟨wc .u64 (s8l s), .arr bh 0⟩
 hs : Sole B bh bh
 w : B.blk[bw]? = some ⟨wc .u64 l, .arr bw 0⟩
 ws : Sole B bw bw
theorem RW.store {B : AS} {bk bh bw : Nat} {s : S8} {l : List W32} (h : RW A B bk bh bw s l) (h1 : bk ≠ bw) (h2 : bh ≠ bw) (h3 : A.blk.length <= bw) {j : Nat} (hj : j < l.length) (x : W32) : ∃ C, evStore Try.prog 191 (.ptr bw j) (.int .u64 (x.toNat : Int)) B = some C /\ RW A C bk bh bw s (l.set j x) := by
 obtain ⟨C, s1, s2, s3, s4⟩ := stU h.ws h.w hj x
 exact ⟨C, s1, h.fr.row_ s2 h3, s2.row _ _ h.k (fun q => by cases q; exact h1 rfl), s2.row _ _ h.h (fun q => by cases q; exact h2 rfl), h.hs.fr s2 (fun q => by cases q), s3, s4⟩
theorem RW.s0 {B C : AS} {bk bh bw : Nat} {s : S8} {l : List W32} (h : RW A B bk bh bw s l) (hf : Fr S0 B C) : RW A C bk bh bw s l :=
 ⟨h.fr.then0 hf, hf.row0 h.k, hf.row0 h.h, h.hs.fr hf (fun q => q), hf.row0 h.w, h.ws.fr hf (fun q => q)⟩
end
end Go.Sv.Try
namespace Go.Sv.Try
open Go Go.Proofs
section
variable {A : AS} {r : Nat} {k : BK}
theorem BT8 : bsl Try.prog 189 8 (some [(0, .int .u64 1779033703), (1, .int .u64 3144134277), (2, .int .u64 1013904242), (3, .int .u64 2773480762), (4, .int .u64 1359893119), (5, .int .u64 2600822924), (6, .int .u64 528734635), (7, .int .u64 1541459225)]) = some (.newSl (wc .u64 (s8l sha0)) 8 1) := by kernel_rfl
set_option maxRecDepth 10000 in
set_option maxHeartbeats 64000000 in
theorem Ax0 {s : Bts} (hw : WF A) (hs : s.length <= 100000000000) : ∃ w A', EvF Try.prog HH 87 [.str s] A w A' /\ Fr S0 A A' /\ w = .agg (bc (sha s)) := by
 refine Aa5 rfl Try.func87 (by unfold Try.f87; rfl) Try.ntmps87 (by unfold Try.f87; rfl) (by simp) ?_
 obtain ⟨pb, hpb⟩ : ∃ p, p = padB s := ⟨_, rfl⟩
 have hpl : pb.length % 64 = 0 /\ pb.length <= 200000000000 := by rw [hpb]; exact ⟨Bl6 s, by rw [Ai0]; have := AY9 s.length; omega⟩
 obtain ⟨n, hn⟩ : ∃ n, n = pb.length / 64 := ⟨_, rfl⟩
 have hpn : pb.length = 64 * n := by omega
 obtain ⟨ch, hch⟩ : ∃ c, c = chunks pb := ⟨_, rfl⟩
 have hcl : ch.length = n := by rw [hch, Aq7, hn]
 have hsha : sha s = out8 (ch.foldl comp sha0) := by rw [hch, hpb]; rfl
 obtain ⟨A1, e1, f1, r1, n1⟩ := Aa8 A (bc z32s)
 obtain ⟨b1, hb1⟩ : ∃ b, b = A.blk.length := ⟨_, rfl⟩
 have w1 := f1.wf hw
 obtain ⟨_, A2, k2, f2, rfl⟩ := A04 (A := A1) (s := s) w1 (by omega)
 obtain ⟨_, A3, k3, rfl, e3⟩ := A90 (A := A2)
 rw [<- hpb] at k2
 obtain ⟨bk, hbk⟩ : ∃ b, b = A2.blk.length := ⟨_, rfl⟩
 rw [<- hb1] at r1
 rw [<- hbk] at k3 e3
 have f3 : Fr S0 A2 A3 := by rw [e3, hbk]; exact Fr.pushArr A2 _
 have r3 : A3.blk[bk]? = some ⟨wc .u64 shK, .arr bk 0⟩ := by rw [e3, hbk]; exact Ab0 A2 _
 have n3 : A3.blk.length = bk + 1 := by rw [e3, Ad1, hbk]
 have w3 := f3.wf (f2.wf w1)
 obtain ⟨bh, hbh⟩ : ∃ b, b = A3.blk.length := ⟨_, rfl⟩
 obtain ⟨A4, e4⟩ : ∃ B, B = A3.push ⟨wc .u64 (s8l sha0), .arr bh 0⟩ := ⟨_, rfl⟩
 have f4 : Fr S0 A3 A4 := by rw [e4, hbh]; exact Fr.pushArr A3 _
 have r4 : A4.blk[bh]? = some ⟨wc .u64 (s8l sha0), .arr bh 0⟩ := by rw [e4, hbh]; exact Ab0 A3 _
 have so4 : Sole A4 bh bh := by rw [e4, hbh]; exact Sole.new w3
 simp only [RT, Q0, Q1, Q2, Q3, Q4, Q5, Q6, Q7, Q8, AR8, <- e1]
 refine Aa0 k2 ?_
 simp only [RT, Q0, Q1, Q2, Q3, Q4, Q5, Q6, Q7, Q8]
 refine Aa0 k3 ?_
 simp only [RT, Q0, Q1, Q2, Q3, Q4, Q5, Q6, Q7, Q8, BT8, <- hbh, <- e4, <- hb1]
 have l3 := f3.len
 have l2 := f2.len
 have l1 := Ac3 r1
 refine Aa2 (fun z e B => ∃ i : Nat, z = n - i /\ i <= n /\ e.get 7 = .int .i64 ((64 * i : Nat) : Int) /\ e.get 2 = .ptr b1 0 /\ e.get 3 = .str pb /\ e.get 4 = .sl bk 0 64 1 /\ e.get 5 = .int .u64 4294967296 /\ e.get 6 = .sl bh 0 8 1 /\ Fr S0 A1 B /\ B.blk[bk]? = some ⟨wc .u64 shK, .arr bk 0⟩ /\ B.blk[bh]? = some ⟨wc .u64 (s8l ((ch.take i).foldl comp sha0)), .arr bh 0⟩ /\ Sole B bh bh)
  (fun z e B => Is z (.exit 0) /\ e.get 2 = .ptr b1 0 /\ e.get 6 = .sl bh 0 8 1 /\ Fr S0 A1 B /\ B.blk[bh]? = some ⟨wc .u64 (s8l (ch.foldl comp sha0)), .arr bh 0⟩)
  ⟨_, 0, rfl, by omega, rfl, rfl, rfl, rfl, rfl, rfl, (f2.then0 f3).then0 f4, f4.row0 r3, r4, so4⟩ ?_ ?_
 . rintro z e B ⟨ii, rfl, hii, h7, h2, h3, h4, h5, h6, hf, hk, hh, hso⟩
   simp only [RT, Q0, Q1, Q2, Q3, Q4, Q5, Q6, Q7, Q8, h7, h3, Ak4 Try.underlying9]
   refine Aa1 (fun q1 => ?_) (fun q1 => ?_)
   rotate_left
   . have : ii = n := by omega
     subst this
     rw [<- hcl, List.take_length] at hh
     simp only [RT, Q0, Q1, Q2, Q3, Q4, Q5, Q6, Q7, Q8]
     exact ⟨rfl, h2, h6, hf, hh⟩
   have hii : ii < n := by omega
   obtain ⟨st, hst⟩ : ∃ st, st = (ch.take ii).foldl comp sha0 := ⟨_, rfl⟩
   rw [<- hst] at hh
   obtain ⟨blk, hblk⟩ := Ac7 (l := ch) (i := ii) (by omega)
   obtain ⟨_, hblk2, hbl64⟩ := AH5 (by rw [<- hch]; exact hblk)
   have wB := hf.wf w1
   obtain ⟨bw, hbw⟩ : ∃ b, b = B.blk.length := ⟨_, rfl⟩
   obtain ⟨B1, eB1⟩ : ∃ C, C = B.push ⟨wc .u64 (List.replicate 64 0), .arr bw 0⟩ := ⟨_, rfl⟩
   have fB1 : Fr S0 B B1 := by rw [eB1, hbw]; exact Fr.pushArr B _
   have lbk := Ac3 hk
   have lbh := Ac3 hh
   have lA1 := hf.len
   have H0 : RW A1 B1 bk bh bw st (List.replicate 64 0) := ⟨hf.then0 fB1, fB1.row0 hk, fB1.row0 hh, hso.fr fB1 (fun q => q), by rw [eB1, hbw]; exact Ab0 B _, by rw [eB1, hbw]; exact Sole.new wB⟩
   obtain ⟨W, hW⟩ : ∃ W : Nat -> List W32, W = wl blk := ⟨_, rfl⟩
   have hWl : ∀ i, (W i).length = i := fun i => by rw [hW, Bc4]
   have hWs : ∀ i, W (i + 1) = W i ++ [if i < 16 then be4 blk i else gw (W i) (i - 16) + shLow (gw (W i) (i - 15)) + gw (W i) (i - 7) + shHigh (gw (W i) (i - 2))] := fun i => by rw [hW]; rfl
   obtain ⟨R, hRd⟩ : ∃ R : Nat -> S8, R = rl (W 64) st := ⟨_, rfl⟩
   have hRs : ∀ i, R (i + 1) = rnd (gw shK i) (gw (W 64) i) (R i) := fun i => by rw [hRd]; rfl
   have hR0 : R 0 = st := by rw [hRd]; rfl
   have hcomp : comp st blk = add8 st (R 64) := by rw [hRd, hW]; rfl
   have H0' : RW A1 B1 bk bh bw st (W 0 ++ List.replicate (64 - 0) 0) := by rw [show W 0 = [] by rw [hW]; rfl, List.nil_append, Nat.sub_zero]; exact H0
   have hne1 : bk ≠ bw := by omega
   have hne2 : bh ≠ bw := by omega
   have hA1w : A1.blk.length <= bw := by omega
   simp only [RT, Q0, Q1, Q2, Q3, Q4, Q5, Q6, Q7, Q8, BT6, <- hbw, <- eB1]
   refine Aa2 (fun z e C => ∃ i : Nat, z = 64 - i /\ i <= 64 /\ e.get 9 = .int .i64 i /\ e.get 8 = .sl bw 0 64 1 /\ e.get 7 = .int .i64 ((64 * ii : Nat) : Int) /\ e.get 2 = .ptr b1 0 /\ e.get 3 = .str pb /\ e.get 4 = .sl bk 0 64 1 /\ e.get 5 = .int .u64 4294967296 /\ e.get 6 = .sl bh 0 8 1 /\ RW A1 C bk bh bw st (W i ++ List.replicate (64 - i) 0))
    (fun z e C => Is z (.exit 2) /\ e.get 8 = .sl bw 0 64 1 /\ e.get 7 = .int .i64 ((64 * ii : Nat) : Int) /\ e.get 2 = .ptr b1 0 /\ e.get 3 = .str pb /\ e.get 4 = .sl bk 0 64 1 /\ e.get 5 = .int .u64 4294967296 /\ e.get 6 = .sl bh 0 8 1 /\ RW A1 C bk bh bw st (W 64))
    ⟨_, 0, rfl, by omega, rfl, rfl, h7, h2, h3, h4, h5, h6, H0'⟩ ?_ ?_
   . rintro z e C ⟨i, rfl, hi, h9, h8, h7, h2, h3, h4, h5, h6, H⟩
     simp only [RT, Q0, Q1, Q2, Q3, Q4, Q5, Q6, Q7, Q8, h9]
     refine Aa1 (fun q2 => ?_) (fun q2 => ?_)
     rotate_left
     . have : i = 64 := by omega
       subst this
       rw [Nat.sub_self, List.replicate_zero, List.append_nil] at H
       simp only [RT, Q0, Q1, Q2, Q3, Q4, Q5, Q6, Q7, Q8]
       exact ⟨rfl, h8, h7, h2, h3, h4, h5, h6, H⟩
     have hi : i < 64 := by omega
     have hll : (W i ++ List.replicate (64 - i) (0 : W32)).length = 64 := by rw [List.length_append, hWl, List.length_replicate]; omega
     have wi : IntKind.i64.wrap ((i : Int) + 1) = ((i + 1 : Nat) : Int) := by rw [Ad7 (by omega)]
     by_cases q16 : i < 16
     . simp only [RT, Q0, Q1, Q2, Q3, Q4, Q5, Q6, Q7, Q8, h9, decide_eq_true (show ((i : Int) < 16) by omega)]
       have w4 : IntKind.i64.wrap (4 * (i : Int)) = ((4 * i : Nat) : Int) := by rw [Ac4 (by omega) (by omega)]; omega
       have wa : IntKind.i64.wrap (((64 * ii : Nat) : Int) + ((4 * i : Nat) : Int)) = ((64 * ii + 4 * i : Nat) : Int) := by rw [Ac4 (by omega) (by omega)]; omega
       refine Aa2 (fun z e D => ∃ c : Nat, z = 4 - c /\ c <= 4 /\ e.get 10 = .int .i64 c /\ e.get 9 = .int .i64 i /\ e.get 8 = .sl bw 0 64 1 /\ e.get 7 = .int .i64 ((64 * ii : Nat) : Int) /\ e.get 2 = .ptr b1 0 /\ e.get 3 = .str pb /\ e.get 4 = .sl bk 0 64 1 /\ e.get 5 = .int .u64 4294967296 /\ e.get 6 = .sl bh 0 8 1 /\ RW A1 D bk bh bw st (W i ++ [BitVec.ofNat 32 (pw blk i c)] ++ List.replicate (64 - (i + 1)) 0))
        (fun z e D => Is z (.exit 4) /\ e.get 9 = .int .i64 i /\ e.get 8 = .sl bw 0 64 1 /\ e.get 7 = .int .i64 ((64 * ii : Nat) : Int) /\ e.get 2 = .ptr b1 0 /\ e.get 3 = .str pb /\ e.get 4 = .sl bk 0 64 1 /\ e.get 5 = .int .u64 4294967296 /\ e.get 6 = .sl bh 0 8 1 /\ RW A1 D bk bh bw st (W (i + 1) ++ List.replicate (64 - (i + 1)) 0))
        ⟨_, 0, rfl, by omega, rfl, h9, h8, h7, h2, h3, h4, h5, h6, by
         have e : W i ++ [BitVec.ofNat 32 (pw blk i 0)] ++ List.replicate (64 - (i + 1)) (0 : W32) = W i ++ List.replicate (64 - i) 0 := by
          rw [List.append_assoc, show 64 - i = (64 - (i + 1)) + 1 by omega, List.replicate_succ]; rfl
         rw [e]; exact H⟩ ?_ ?_
       . clear H h9 h8 h7 h2 h3 h4 h5 h6
         rintro z e D ⟨c, rfl, hc, h10, h9, h8, h7, h2, h3, h4, h5, h6, H⟩
         simp only [RT, Q0, Q1, Q2, Q3, Q4, Q5, Q6, Q7, Q8, h10]
         refine Aa1 (fun q3 => ?_) (fun q3 => ?_)
         rotate_left
         . have : c = 4 := by omega
           subst this
           rw [BH7, show W i ++ [be4 blk i] = W (i + 1) by rw [hWs, if_pos q16]] at H
           simp only [RT, Q0, Q1, Q2, Q3, Q4, Q5, Q6, Q7, Q8]
           exact ⟨rfl, h9, h8, h7, h2, h3, h4, h5, h6, H⟩
         have hc : c < 4 := by omega
         have wc' : IntKind.i64.wrap ((c : Int) + 1) = ((c + 1 : Nat) : Int) := by rw [Ad7 (by omega)]
         have wb : IntKind.i64.wrap (((64 * ii + 4 * i : Nat) : Int) + (c : Int)) = ((64 * ii + 4 * i + c : Nat) : Int) := by rw [Ac4 (by omega) (by omega)]; omega
         have hle : (W i ++ [BitVec.ofNat 32 (pw blk i c)] ++ List.replicate (64 - (i + 1)) (0 : W32)).length = 64 := by simp only [List.length_append, hWl, List.length_singleton, List.length_replicate]; omega
         have hg : gw (W i ++ [BitVec.ofNat 32 (pw blk i c)] ++ List.replicate (64 - (i + 1)) (0 : W32)) i = BitVec.ofNat 32 (pw blk i c) := by
          rw [Bc6 (by rw [List.length_append, hWl]; show i < i + 1; omega)]
          unfold gw
          rw [List.getD_eq_getElem?_getD, List.getElem?_append_right (by rw [hWl]; exact Nat.le_refl _), hWl, Nat.sub_self]; rfl
         have lw := ldU H.w (j := i) (by rw [hle]; exact hi)
         rw [hg, A59 blk i (by omega)] at lw
         obtain ⟨x, hx⟩ := Ac7 (l := pb) (i := 64 * ii + 4 * i + c) (by omega)
         have hgb : gb blk (4 * i + c) = x.toNat := by
          unfold gb
          rw [hblk2, List.getD_eq_getElem?_getD, List.getElem?_take_of_lt (by omega), List.getElem?_drop, show 64 * ii + (4 * i + c) = 64 * ii + 4 * i + c by omega, hx]; rfl
         have y1 := Aw3 (P := Try.prog) (t := 9) (k := .i64) Try.underlying9 hx
         rw [<- hgb] at y1
         have hpc := Bx0 blk i c
         have h256 : 256 ^ c <= 256 ^ 3 := Nat.pow_le_pow_right (by decide) (by omega)
         have hgl := AL7 blk (4 * i + c)
         have wm : IntKind.u64.wrap ((pw blk i c : Int) * 256) = ((pw blk i c * 256 : Nat) : Int) := by rw [Ac1]; omega
         have ws : IntKind.u64.wrap (((pw blk i c * 256 : Nat) : Int) + (gb blk (4 * i + c) : Int)) = ((pw blk i (c + 1) : Nat) : Int) := by rw [Ac1, pw]; omega
         obtain ⟨E, t1, t2⟩ := H.store hne1 hne2 hA1w (j := i) (by rw [hle]; exact hi) (BitVec.ofNat 32 (pw blk i (c + 1)))
         rw [A59 blk i (by omega)] at t1
         have hset : (W i ++ [BitVec.ofNat 32 (pw blk i c)] ++ List.replicate (64 - (i + 1)) (0 : W32)).set i (BitVec.ofNat 32 (pw blk i (c + 1))) = W i ++ [BitVec.ofNat 32 (pw blk i (c + 1))] ++ List.replicate (64 - (i + 1)) 0 := by
          rw [List.append_assoc, List.set_append, if_neg (by rw [hWl]; omega), hWl, Nat.sub_self, List.append_assoc]; rfl
         rw [hset] at t2
         simp only [RT, Q0, Q1, Q2, Q3, Q4, Q5, Q6, Q7, Q8, h10]
         rw [Bt4, Aa7 (by rfl)]
         simp only [RT, Q0, Q1, Q2, Q3, Q4, Q5, Q6, Q7, Q8, h8, h9, axU (b := bw) hi, lw, wm, h3, h7, w4, wa, h10, wb, y1, BT7, ws, t1]
         simp only [RT, Q0, Q1, Q2, Q3, Q4, Q5, Q6, Q7, Q8, h10, wc']
         refine ⟨4 - (c + 1), by omega, c + 1, rfl, by omega, ?_⟩
         and_intros <;> first | rfl | assumption
       . rintro z e D hz ⟨rfl, h9, h8, h7, h2, h3, h4, h5, h6, H⟩
         simp only [RT, Q0, Q1, Q2, Q3, Q4, Q5, Q6, Q7, Q8, h9, wi]
         exact ⟨64 - (i + 1), by omega, i + 1, rfl, by omega, rfl, h8, h7, h2, h3, h4, h5, h6, H⟩
     . simp only [RT, Q0, Q1, Q2, Q3, Q4, Q5, Q6, Q7, Q8, h9, decide_eq_false (show ¬ ((i : Int) < 16) by omega)]
       have w15 : IntKind.i64.wrap ((i : Int) - 15) = ((i - 15 : Nat) : Int) := by rw [Ac4 (by omega) (by omega)]; omega
       have w2 : IntKind.i64.wrap ((i : Int) - 2) = ((i - 2 : Nat) : Int) := by rw [Ac4 (by omega) (by omega)]; omega
       have w16 : IntKind.i64.wrap ((i : Int) - 16) = ((i - 16 : Nat) : Int) := by rw [Ac4 (by omega) (by omega)]; omega
       have w7 : IntKind.i64.wrap ((i : Int) - 7) = ((i - 7 : Nat) : Int) := by rw [Ac4 (by omega) (by omega)]; omega
       have g : ∀ j, j < i -> evLoad Try.prog 191 (.ptr bw j) C = some (.int .u64 ((gw (W i) j).toNat : Int)) := fun j hj => by
        rw [ldU H.w (by omega), Bc6 (by rw [hWl]; exact hj)]
       rw [Bt5, Aa7 (by rfl)]
       simp only [RT, Q0, Q1, Q2, Q3, Q4, Q5, Q6, Q7, Q8, h8, h9, w15, w2, axU (b := bw) (show i - 15 < 64 by omega), axU (b := bw) (show i - 2 < 64 by omega), g (i - 15) (by omega), g (i - 2) (by omega)]
       refine Aa0 (Af4 (n := 7) (by decide) (by decide) rfl) ?_
       simp only [RT, Q0, Q1, Q2, Q3, Q4, Q5, Q6, Q7, Q8]
       refine Aa0 (Af4 (n := 18) (by decide) (by decide) rfl) ?_
       simp only [RT, Q0, Q1, Q2, Q3, Q4, Q5, Q6, Q7, Q8, Al9, A89, B39]
       refine Aa0 (Af4 (n := 17) (by decide) (by decide) rfl) ?_
       simp only [RT, Q0, Q1, Q2, Q3, Q4, Q5, Q6, Q7, Q8]
       refine Aa0 (Af4 (n := 19) (by decide) (by decide) rfl) ?_
       simp only [RT, Q0, Q1, Q2, Q3, Q4, Q5, Q6, Q7, Q8, Al9, A89, Bw9]
       rw [Bt6, Aa7 (by rfl)]
       obtain ⟨D, t1, t2⟩ := H.store hne1 hne2 hA1w (j := i) (by rw [hll]; exact hi) (gw (W i) (i - 16) + shLow (gw (W i) (i - 15)) + gw (W i) (i - 7) + shHigh (gw (W i) (i - 2)))
       rw [AL8 (hWl i) hi] at t2
       unfold shLow shHigh at t1
       simp only [RT, Q0, Q1, Q2, Q3, Q4, Q5, Q6, Q7, Q8, h8, h9, w16, w7, axU (b := bw) (show i - 16 < 64 by omega), axU (b := bw) (show i - 7 < 64 by omega), g (i - 16) (by omega), g (i - 7) (by omega), Bn1, BH5, BH6, h5, BT0, axU (b := bw) hi, t1]
       simp only [RT, Q0, Q1, Q2, Q3, Q4, Q5, Q6, Q7, Q8, h9, wi]
       have t3 : RW A1 D bk bh bw st (W (i + 1) ++ List.replicate (64 - (i + 1)) 0) := by rw [hWs, if_neg q16]; exact t2
       refine ⟨64 - (i + 1), by omega, i + 1, rfl, by omega, ?_⟩
       and_intros <;> first | rfl | assumption
   clear h7 h2 h3 h4 h5 h6 H0 H0'
   rintro z e C hz ⟨rfl, h8, h7, h2, h3, h4, h5, h6, H⟩
   have wC := H.fr.wf w1
   have lbhC : bh < C.blk.length := Ac3 H.h
   have hsrc : srcV Try.prog 189 1 (.sl bh 0 8 1) (C.push ⟨[], .arr C.blk.length 0⟩) = some (8, wc .u64 (s8l st)) := Ay1 Try.underlying189 ((Fr.pushArr C []).row0 H.h) (by rw [Ap2]; rfl)
   obtain ⟨D, p1, p2, p3, _⟩ := AA3 (P := Try.prog) (t := 189) (tx := 189) B05 wC hsrc (by rw [Ap2]; rfl) (by decide) (Bc5 _ _) (by decide) (by decide)
   simp only [RT, Q0, Q1, Q2, Q3, Q4, Q5, Q6, Q7, Q8, B40, h6, p1]
   have HD := H.s0 p2
   have hp3 : ∃ kd, D.blk[C.blk.length + 1]? = some ⟨wc .u64 (s8l (R 0)), kd⟩ := ⟨_, by rw [hR0]; exact p3⟩
   obtain ⟨kd0, hp3⟩ := hp3
   clear H p1 p2 p3
   refine Aa2 (fun z e E => ∃ (i bv : Nat) (kd : BK), z = 64 - i /\ i <= 64 /\ e.get 16 = .int .i64 i /\ e.get 15 = .sl bv 0 8 1 /\ e.get 8 = .sl bw 0 64 1 /\ e.get 7 = .int .i64 ((64 * ii : Nat) : Int) /\ e.get 2 = .ptr b1 0 /\ e.get 3 = .str pb /\ e.get 4 = .sl bk 0 64 1 /\ e.get 5 = .int .u64 4294967296 /\ e.get 6 = .sl bh 0 8 1 /\ RW A1 E bk bh bw st (W 64) /\ E.blk[bv]? = some ⟨wc .u64 (s8l (R i)), kd⟩ /\ bv ≠ bh)
    (fun z e E => Is z (.exit 6) /\ ∃ (bv : Nat) (kd : BK), e.get 15 = .sl bv 0 8 1 /\ e.get 7 = .int .i64 ((64 * ii : Nat) : Int) /\ e.get 2 = .ptr b1 0 /\ e.get 3 = .str pb /\ e.get 4 = .sl bk 0 64 1 /\ e.get 5 = .int .u64 4294967296 /\ e.get 6 = .sl bh 0 8 1 /\ RW A1 E bk bh bw st (W 64) /\ E.blk[bv]? = some ⟨wc .u64 (s8l (R 64)), kd⟩ /\ bv ≠ bh)
    ⟨_, 0, C.blk.length + 1, kd0, rfl, by omega, rfl, rfl, h8, h7, h2, h3, h4, h5, h6, HD, hp3, by omega⟩ ?_ ?_
   . clear HD hp3 h8 h7 h2 h3 h4 h5 h6
     rintro z e E ⟨i, bv, kd, rfl, hi, h16, h15, h8, h7, h2, h3, h4, h5, h6, H, hv, hbv⟩
     simp only [RT, Q0, Q1, Q2, Q3, Q4, Q5, Q6, Q7, Q8, h16]
     refine Aa1 (fun q2 => ?_) (fun q2 => ?_)
     rotate_left
     . have : i = 64 := by omega
       subst this
       simp only [RT, Q0, Q1, Q2, Q3, Q4, Q5, Q6, Q7, Q8]
       exact ⟨rfl, bv, kd, h15, h7, h2, h3, h4, h5, h6, H, hv, hbv⟩
     have hi : i < 64 := by omega
     have wi : IntKind.i64.wrap ((i : Int) + 1) = ((i + 1 : Nat) : Int) := by rw [Ad7 (by omega)]
     obtain ⟨v, hvd⟩ : ∃ v, v = R i := ⟨_, rfl⟩
     rw [<- hvd] at hv
     have l8 := B42 hv
     have ax := B41 bv
     have lk := ldU H.k (j := i) (show i < 64 from hi)
     have lw := ldU H.w (j := i) (by rw [hWl]; exact hi)
     simp only [RT, Q0, Q1, Q2, Q3, Q4, Q5, Q6, Q7, Q8]
     rw [Bt7, Aa7 (by rfl)]
     simp only [RT, Q0, Q1, Q2, Q3, Q4, Q5, Q6, Q7, Q8, h15, ax, l8, AF6, BH8, h5, BT3, A39, B11, BR5]
     rw [Bt8, Aa7 (by rfl)]
     simp only [RT, Q0, Q1, Q2, Q3, Q4, Q5, Q6, Q7, Q8, h15, ax, l8, AF6, BH8, A39, B11, BG1, Bt9, h4, h8, h16, axU (b := bk) hi, axU (b := bw) hi, lk, lw, Aa3]
     refine Aa0 (Af4 (n := 6) (by decide) (by decide) rfl) ?_
     simp only [RT, Q0, Q1, Q2, Q3, Q4, Q5, Q6, Q7, Q8, Aa3]
     refine ⟨Aa4 (ha := rfl) rfl l8.2.2.2.2.2.2.2 rfl (Aa4 (ha := rfl) rfl l8.2.2.2.2.1 rfl (Aa4 (ha := rfl) rfl l8.2.2.2.2.1 rfl (Aa4 (ha := rfl) rfl lk rfl (Aa4 (ha := rfl) rfl lw rfl Aa3)))), ?_⟩
     refine Aa0 (Af4 (n := 11) (by decide) (by decide) rfl) ?_
     simp only [RT, Q0, Q1, Q2, Q3, Q4, Q5, Q6, Q7, Q8, Aa3]
     refine ⟨Aa4 (ha := rfl) rfl l8.2.2.2.2.2.2.2 rfl (Aa4 (ha := rfl) rfl l8.2.2.2.2.1 rfl (Aa4 (ha := rfl) rfl lk rfl (Aa4 (ha := rfl) rfl lw rfl Aa3))), ?_⟩
     simp only [RT, Q0, Q1, Q2, Q3, Q4, Q5, Q6, Q7, Q8, Aa3, Al9, A89]
     refine Aa0 (Af4 (n := 25) (by decide) (by decide) rfl) ?_
     simp only [RT, Q0, Q1, Q2, Q3, Q4, Q5, Q6, Q7, Q8, Aa3]
     refine ⟨Aa4 (ha := rfl) rfl l8.2.2.2.2.2.2.2 rfl (Aa4 (ha := rfl) rfl lk rfl (Aa4 (ha := rfl) rfl lw rfl Aa3)), ?_⟩
     simp only [RT, Q0, Q1, Q2, Q3, Q4, Q5, Q6, Q7, Q8, Aa3, Al9, A89, Bn1, BH5, BH6, BS6, Bu0, h15, ax, l8]
     refine Aa0 (Af4 (n := 2) (by decide) (by decide) rfl) ?_
     simp only [RT, Q0, Q1, Q2, Q3, Q4, Q5, Q6, Q7, Q8, Aa3]
     refine ⟨Aa4 (ha := rfl) rfl l8.1 rfl (Aa4 (ha := rfl) rfl l8.1 rfl Aa3), ?_⟩
     refine Aa0 (Af4 (n := 13) (by decide) (by decide) rfl) ?_
     simp only [RT, Q0, Q1, Q2, Q3, Q4, Q5, Q6, Q7, Q8, Aa3]
     refine ⟨Aa4 (ha := rfl) rfl l8.1 rfl Aa3, ?_⟩
     simp only [RT, Q0, Q1, Q2, Q3, Q4, Q5, Q6, Q7, Q8, Aa3, Al9, A89]
     refine Aa0 (Af4 (n := 22) (by decide) (by decide) rfl) ?_
     simp only [RT, Q0, Q1, Q2, Q3, Q4, Q5, Q6, Q7, Q8, Aa3, Al9, A89, Bn1]
     rw [Bu1, Aa7 (by rfl)]
     obtain ⟨bn, hbn⟩ : ∃ b, b = E.blk.length := ⟨_, rfl⟩
     obtain ⟨G, eG⟩ : ∃ G, G = E.push ⟨wc .u64 (s8l (rnd (gw shK i) (gw (W 64) i) v)), .arr bn 0⟩ := ⟨_, rfl⟩
     have fG : Fr S0 E G := by rw [eG, hbn]; exact Fr.pushArr E _
     have rG : G.blk[bn]? = some ⟨wc .u64 (s8l (R (i + 1))), .arr bn 0⟩ := by rw [eG, hbn, hRs, <- hvd]; exact Ab0 E _
     have HG := H.s0 fG
     have hne : bn ≠ bh := by have := Ac3 H.h; omega
     have eG' : E.push ⟨[.int .u64 ((one8 (gw shK i) (gw (W 64) i) v + two8 v).toNat : Int), .int .u64 (v.a.toNat : Int), .int .u64 (v.b.toNat : Int), .int .u64 (v.c.toNat : Int), .int .u64 ((v.d + one8 (gw shK i) (gw (W 64) i) v).toNat : Int), .int .u64 (v.e.toNat : Int), .int .u64 (v.f.toNat : Int), .int .u64 (v.g.toNat : Int)], .arr bn 0⟩ = G := eG.symm
     unfold one8 two8 sg0 sg1 at eG'
     simp only [RT, Q0, Q1, Q2, Q3, Q4, Q5, Q6, Q7, Q8, h15, ax, l8, h5, BS7, BT1, BS8, BT2, BT5, <- hbn, eG']
     simp only [RT, Q0, Q1, Q2, Q3, Q4, Q5, Q6, Q7, Q8, h16, wi]
     refine ⟨64 - (i + 1), by omega, i + 1, bn, .arr bn 0, rfl, by omega, ?_⟩
     and_intros <;> first | rfl | assumption
   clear hp3 HD h8 h7 h2 h3 h4 h5 h6
   rintro z e E hz ⟨rfl, bv, kd, h15, h7, h2, h3, h4, h5, h6, H, hv, hbv⟩
   obtain ⟨v, hvd⟩ : ∃ v, v = R 64 := ⟨_, rfl⟩
   rw [<- hvd] at hv hcomp
   simp only [RT, Q0, Q1, Q2, Q3, Q4, Q5, Q6, Q7, Q8]
   refine Aa2 (fun z e G => ∃ i : Nat, z = 8 - i /\ i <= 8 /\ e.get 21 = .int .i64 i /\ e.get 15 = .sl bv 0 8 1 /\ e.get 7 = .int .i64 ((64 * ii : Nat) : Int) /\ e.get 2 = .ptr b1 0 /\ e.get 3 = .str pb /\ e.get 4 = .sl bk 0 64 1 /\ e.get 5 = .int .u64 4294967296 /\ e.get 6 = .sl bh 0 8 1 /\ Fr S0 A1 G /\ G.blk[bk]? = some ⟨wc .u64 shK, .arr bk 0⟩ /\ G.blk[bh]? = some ⟨wc .u64 (mx8 st v i), .arr bh 0⟩ /\ Sole G bh bh /\ G.blk[bv]? = some ⟨wc .u64 (s8l v), kd⟩)
    (fun z e G => Is z (.exit 8) /\ e.get 7 = .int .i64 ((64 * ii : Nat) : Int) /\ e.get 2 = .ptr b1 0 /\ e.get 3 = .str pb /\ e.get 4 = .sl bk 0 64 1 /\ e.get 5 = .int .u64 4294967296 /\ e.get 6 = .sl bh 0 8 1 /\ Fr S0 A1 G /\ G.blk[bk]? = some ⟨wc .u64 shK, .arr bk 0⟩ /\ G.blk[bh]? = some ⟨wc .u64 (s8l (comp st blk)), .arr bh 0⟩ /\ Sole G bh bh)
    ⟨_, 0, rfl, by omega, rfl, h15, h7, h2, h3, h4, h5, h6, H.fr, H.k, H.h, H.hs, hv⟩ ?_ ?_
   . clear H hv h15 h7 h2 h3 h4 h5 h6
     rintro z e G ⟨i, rfl, hi, h21, h15, h7, h2, h3, h4, h5, h6, hG, hk, hh, hso, hv⟩
     simp only [RT, Q0, Q1, Q2, Q3, Q4, Q5, Q6, Q7, Q8, h21]
     refine Aa1 (fun q2 => ?_) (fun q2 => ?_)
     rotate_left
     . have : i = 8 := by omega
       subst this
       have hh : G.blk[bh]? = some ⟨wc .u64 (s8l (comp st blk)), .arr bh 0⟩ := by rw [hcomp]; exact hh
       simp only [RT, Q0, Q1, Q2, Q3, Q4, Q5, Q6, Q7, Q8]
       exact ⟨rfl, h7, h2, h3, h4, h5, h6, hG, hk, hh, hso⟩
     have hi : i < 8 := by omega
     have wi : IntKind.i64.wrap ((i : Int) + 1) = ((i + 1 : Nat) : Int) := by rw [Ad7 (by omega)]
     obtain ⟨m1, m2⟩ := A55 (s := st) (v := v) hi
     have ml8 := A00 (s := st) (v := v) (i := i) (by omega)
     obtain ⟨F, t1, t2, t3, t4⟩ := stU hso hh (j := i) (by rw [ml8]; exact hi) (gw (s8l st) i + gw (s8l v) i)
     rw [m2] at t3
     have lh := ldU hh (j := i) (by rw [ml8]; exact hi)
     rw [m1] at lh
     have lv := ldU hv (j := i) (show i < 8 from hi)
     simp only [RT, Q0, Q1, Q2, Q3, Q4, Q5, Q6, Q7, Q8, h21]
     rw [Bu2, Aa7 (by rfl)]
     simp only [RT, Q0, Q1, Q2, Q3, Q4, Q5, Q6, Q7, Q8, h6, h15, h21, axU (b := bh) hi, axU (b := bv) hi, lh, lv, Bn1, h5, BS9, t1]
     simp only [RT, Q0, Q1, Q2, Q3, Q4, Q5, Q6, Q7, Q8, h21, wi]
     have z1 := hG.row_ t2 (by omega)
     have z2 := t2.row _ _ hk (fun q => by cases q; omega)
     have z3 := t2.row _ _ hv (fun q => by cases q; exact hbv rfl)
     refine ⟨8 - (i + 1), by omega, i + 1, rfl, by omega, ?_⟩
     and_intros <;> first | rfl | assumption | exact t4.1 | exact t4.2
   clear H hv h15 h7 h2 h3 h4 h5 h6
   rintro z e G hz ⟨rfl, h7, h2, h3, h4, h5, h6, hG, hk, hh, hso⟩
   have w64 : IntKind.i64.wrap (((64 * ii : Nat) : Int) + 64) = ((64 * (ii + 1) : Nat) : Int) := by rw [Ac4 (by omega) (by omega)]; omega
   simp only [RT, Q0, Q1, Q2, Q3, Q4, Q5, Q6, Q7, Q8, h7, w64]
   have hh2 : G.blk[bh]? = some ⟨wc .u64 (s8l ((ch.take (ii + 1)).foldl comp sha0)), .arr bh 0⟩ := by
    rw [Ac9 hblk, List.foldl_append, <- hst]; exact hh
   refine ⟨n - (ii + 1), by omega, ii + 1, rfl, by omega, ?_⟩
   and_intros <;> first | rfl | assumption | exact hso.1 | exact hso.2
 rintro z e B hz ⟨rfl, h2, h6, hf, hh⟩
 obtain ⟨st, hst⟩ : ∃ s, s = ch.foldl comp sha0 := ⟨_, rfl⟩
 rw [<- hst] at hh hsha
 obtain ⟨C, t1, t2, t3⟩ := BH2 (A := B) z32s (by simp [z32s])
 obtain ⟨b22, hb22⟩ : ∃ b, b = B.blk.length := ⟨_, rfl⟩
 rw [<- hb22] at t1 t3
 simp only [RT, Q0, Q1, Q2, Q3, Q4, Q5, Q6, Q7, Q8, BH1, AR8, <- hb22, t1]
 have hhC := t2.row0 hh
 have hr1C := t2.row0 (hf.row0 r1)
 have lbh := Ac3 hh
 have lb1 := Ac3 (hf.row0 r1)
 have lA1 := hf.len
 refine Aa2 (fun z e E => ∃ i : Nat, z = 32 - i /\ i <= 32 /\ e.get 23 = .int .i64 i /\ e.get 2 = .ptr b1 0 /\ e.get 6 = .sl bh 0 8 1 /\ e.get 22 = .ptr b22 0 /\ Fr (· = .row b22) C E /\ E.blk[b22]? = some ⟨bc ((out8 st).take i ++ List.replicate (32 - i) 0), .var⟩)
  (fun z e E => Is z (.exit 10) /\ e.get 2 = .ptr b1 0 /\ e.get 22 = .ptr b22 0 /\ Fr (· = .row b22) C E /\ E.blk[b22]? = some ⟨bc (out8 st), .var⟩)
  ⟨_, 0, rfl, by omega, rfl, h2, h6, rfl, .refl _ _, t3⟩ ?_ ?_
 . rintro z e E ⟨i, rfl, hi, h23, h2, h6, h22, hfE, hB⟩
   simp only [RT, Q0, Q1, Q2, Q3, Q4, Q5, Q6, Q7, Q8, h23]
   refine Aa1 (fun q1 => ?_) (fun q1 => ?_)
   rotate_left
   . have : i = 32 := by omega
     subst this
     rw [List.take_of_length_le (by rw [Af6]; exact Nat.le_refl _), Nat.sub_self, List.replicate_zero, List.append_nil] at hB
     simp only [RT, Q0, Q1, Q2, Q3, Q4, Q5, Q6, Q7, Q8]
     exact ⟨rfl, h2, h22, hfE, hB⟩
   have hi : i < 32 := by omega
   have wi : IntKind.i64.wrap ((i : Int) + 1) = ((i + 1 : Nat) : Int) := by rw [Ad7 (by omega)]
   have q4 : evBin Try.prog .quo 3 (.int .i64 (i : Int)) (.int .i64 4) = some (.int .i64 ((i / 4 : Nat) : Int)) := by
    rw [AX1, if_neg (by omega), show ((i : Int)).tdiv 4 = ((i / 4 : Nat) : Int) from rfl, Ac4 (by omega) (by omega)]
   have r4 : evBin Try.prog .rem 3 (.int .i64 (i : Int)) (.int .i64 4) = some (.int .i64 ((i % 4 : Nat) : Int)) := by
    rw [As4, if_neg (by omega)]; rfl
   have w8 : IntKind.i64.wrap (8 * ((i % 4 : Nat) : Int)) = ((8 * (i % 4) : Nat) : Int) := by rw [Ac4 (by omega) (by omega)]; omega
   have w24 : IntKind.i64.wrap (24 - ((8 * (i % 4) : Nat) : Int)) = ((24 - 8 * (i % 4) : Nat) : Int) := by rw [Ac4 (by omega) (by omega)]; omega
   have lS := ldU (hfE.row _ _ hhC (fun q => by cases q; omega)) (j := i / 4) (show i / 4 < 8 by omega)
   obtain ⟨G, u1, u2, u3⟩ := stB hB (j := i) (by rw [List.length_append, List.length_take, Af6, List.length_replicate]; omega) (UInt8.ofNat ((gw (s8l st) (i / 4)).toNat >>> (24 - 8 * (i % 4))))
   rw [AR7 hi] at u3
   have rm : ∀ x : W32, evBin Try.prog .rem 191 (.int .u64 (x.toNat : Int)) (.int .u64 256) = some (.int .u64 ((x.toNat % 256 : Nat) : Int)) := fun x => by rw [As4, if_neg (by omega)]; rfl
   have u1' : evStore Try.prog 5 (.ptr b22 i) (.int .u8 ((UInt8.ofNat ((gw (s8l st) (i / 4) >>> (24 - 8 * (i % 4))).toNat % 256)).toNat : Int)) E = some G := by rw [Bv7, BitVec.toNat_ushiftRight]; exact u1
   simp only [RT, Q0, Q1, Q2, Q3, Q4, Q5, Q6, Q7, Q8, h23, h6, q4, r4, w8, w24, axU (b := bh) (show i / 4 < 8 by omega), lS, Aw2, Bc7 (k := .u64) (.inr rfl) _ (n := 24 - 8 * (i % 4)) (by omega), rm, Be2, h22, BS4 (r := b22) hi, u1']
   simp only [RT, Q0, Q1, Q2, Q3, Q4, Q5, Q6, Q7, Q8, h23, wi]
   refine ⟨32 - (i + 1), by omega, i + 1, rfl, by omega, ?_⟩
   have z1 : Fr (· = .row b22) C G := hfE.trans u2 fun x q => .inl q
   and_intros <;> first | rfl | assumption
 rintro z e E hz ⟨rfl, h2, h22, hfE, hB⟩
 have hr1E := hfE.row _ _ hr1C (fun q => by cases q; omega)
 obtain ⟨G, u1, u2, u3⟩ := A56 hr1E (by simp [z32s]) (Af6 st)
 simp only [RT, Q0, Q1, Q2, Q3, Q4, Q5, Q6, Q7, Q8, h22, ldI hB (Af6 st), h2, u1, ldI u3 (Af6 st)]
 exact ⟨(((f1.then0 hf).then0 t2).row_ hfE (by omega)).row_ u2 (by omega), by rw [hsha]⟩
end
end Go.Sv.Try
namespace Go.Sv
open Go
theorem BH9 {m : Hp} {b : Nat} {l : Bts} {n : Nat} (h : m b = some (bc l)) (hn : l.length = n) : Slc eU8 m (.sl b 0 n 1) l := by
 subst hn
 refine .inr ⟨b, 0, bc l, rfl, h, by simp [eU8, Aa6], fun i x hx => ?_⟩
 show ((bc l).drop (0 + i * 1)).take 1 = _
 rw [Nat.mul_one, Nat.zero_add, List.take_one, List.head?_drop, Aq2, hx]; rfl
theorem BR2 {τ : Type} {E : Enc τ} {m : Hp} {b n : Nat} {vs : List V} {ls : List (List τ)} (h : m b = some vs) (hn : ls.length = n) (hl : vs.length = n) (hs : ∀ (i : Nat) x, ls[i]? = some x -> ∃ v, vs[i]? = some v /\ Slc E m v x) : Slc (eSl E) m (.sl b 0 n 1) ls := by
 subst hn
 refine .inr ⟨b, 0, vs, rfl, h, by show 0 + ls.length * 1 <= _; omega, fun i x hx => ?_⟩
 obtain ⟨v, h1, h2⟩ := hs i x hx
 refine ⟨v, ?_, h2⟩
 show (vs.drop (0 + i * 1)).take 1 = _
 rw [Nat.mul_one, Nat.zero_add, List.take_one, List.head?_drop, h1]; rfl
end Go.Sv
namespace Go.Sv.Try
open Go Go.Proofs
section
variable {A : AS} {r : Nat} {k : BK}
theorem BT9 : bsl Try.prog 44 1 (some [(0, .int .u8 1)]) = some (.newSl (bc [1]) 1 1) := by kernel_rfl
theorem BI0 (b o n z b' o' n' z' : Nat) : bsl Try.prog 22 2 (some [(0, .sl b o n z), (1, .sl b' o' n' z')]) = some (.newSl [.sl b o n z, .sl b' o' n' z'] 2 1) := by kernel_rfl
theorem BI1 (b o n z : Nat) : bsl Try.prog 22 2 (some [(0, .sl b o n z), (1, .snil)]) = some (.newSl [.sl b o n z, .snil] 2 1) := by kernel_rfl
theorem BU0 (a1 a2 a3 a4 b1 b2 b3 b4 c1 c2 c3 c4 : Nat) : bsl Try.prog 22 3 (some [(0, .sl a1 a2 a3 a4), (1, .sl b1 b2 b3 b4), (2, .sl c1 c2 c3 c4)]) = some (.newSl [.sl a1 a2 a3 a4, .sl b1 b2 b3 b4, .sl c1 c2 c3 c4] 3 1) := by kernel_rfl
theorem BU1 {b o n z : Nat} {v : V} (h : v = .snil ∨ ∃ b o n z, v = .sl b o n z) : bsl Try.prog 22 2 (some [(0, .sl b o n z), (1, v)]) = some (.newSl [.sl b o n z, v] 2 1) := by
 rcases h with rfl | ⟨_, _, _, _, rfl⟩
 . exact BI1 _ _ _ _
 . exact BI0 _ _ _ _ _ _ _ _
theorem AB1 {τ : Type} {E : Enc τ} {m : Hp} {v : V} {l : List τ} (h : Slc E m v l) : v = .snil ∨ ∃ b o n z, v = .sl b o n z := by
 rcases h with ⟨rfl, _⟩ | ⟨b, o, cs, rfl, _⟩
 . exact .inl rfl
 . exact .inr ⟨_, _, _, _, rfl⟩
theorem Be4 {m : Hp} {v : V} {x : Bts} (hw : WF A) (hm : m.on A) (h : Slc eU8 m v x) (hx : x.length <= 100000000000) : ∃ w A', EvF Try.prog HH 64 [v] A w A' /\ Fr S0 A A' /\ w = .agg (bc (leafH x)) := by
 refine Aa5 rfl Try.func64 (by unfold Try.f64; rfl) Try.ntmps64 (by unfold Try.f64; rfl) (by simp) ?_
 obtain ⟨A1, e1, f1, r1, n1⟩ := Aa8 A (bc z32s)
 obtain ⟨b1, hb1⟩ : ∃ b, b = A.blk.length := ⟨_, rfl⟩
 obtain ⟨b2, hb2⟩ : ∃ b, b = A1.blk.length := ⟨_, rfl⟩
 obtain ⟨A2, e2⟩ : ∃ B, B = A1.push ⟨bc [0], .arr b2 0⟩ := ⟨_, rfl⟩
 obtain ⟨b3, hb3⟩ : ∃ b, b = A2.blk.length := ⟨_, rfl⟩
 obtain ⟨A3, e3⟩ : ∃ B, B = A2.push ⟨[.sl b2 0 1 1, v], .arr b3 0⟩ := ⟨_, rfl⟩
 have f2 : Fr S0 A1 A2 := by rw [e2, hb2]; exact Fr.pushArr A1 _
 have f3 : Fr S0 A2 A3 := by rw [e3, hb3]; exact Fr.pushArr A2 _
 have r2 : A2.blk[b2]? = some ⟨bc [0], .arr b2 0⟩ := by rw [e2, hb2]; exact Ab0 A1 _
 have r3 : A3.blk[b3]? = some ⟨[.sl b2 0 1 1, v], .arr b3 0⟩ := by rw [e3, hb3]; exact Ab0 A2 _
 rw [<- hb1] at r1 n1
 have n2 : A2.blk.length = b2 + 1 := by rw [e2, Ad1, hb2]
 have f13 := (f1.then0 f2).then0 f3
 have hm3 := hm.fr0 f13
 have hno : ∀ b, A.blk.length <= b -> m b = none := fun b hb => hm.fresh hb
 obtain ⟨m', hm'⟩ : ∃ m', m' = (m.put b2 (bc [0])).put b3 [.sl b2 0 1 1, v] := ⟨_, rfl⟩
 have le1 : m.le m' := by
  rw [hm']
  exact Hp.le_trans (Hp.le_put (hno b2 (by omega))) (Hp.le_put (by show (if b3 = b2 then _ else m b3) = none; rw [if_neg (by omega)]; exact hno b3 (by omega)))
 have on' : m'.on A3 := by rw [hm']; exact (hm3.put (f3.row0 r2)).put r3
 have g2 : m' b2 = some (bc [0]) := by rw [hm']; show (if b2 = b3 then _ else (if b2 = b2 then _ else _)) = _; rw [if_neg (by omega), if_pos rfl]
 have g3 : m' b3 = some [.sl b2 0 1 1, v] := by rw [hm']; exact Hp.put_get _ _ _
 have hs : Slc (eSl eU8) m' (.sl b3 0 2 1) [[0], x] := BR2 g3 rfl rfl fun i y hy => by
  match i, hy with
  | 0, hy => cases hy; exact ⟨_, rfl, BH9 g2 rfl⟩
  | 1, hy => cases hy; exact ⟨_, rfl, h.mono le1⟩
  | i + 2, hy => simp at hy
 have hfl : ([[0], x] : List Bts).flatten = 0 :: x := by simp
 obtain ⟨w4, A4, k4, f4, hw4⟩ := Aw9 (f13.wf hw) on' hs (by rw [hfl, List.length_cons]; omega) (by simp)
 rw [hfl] at hw4
 subst hw4
 obtain ⟨A5, u1, u2, u3⟩ := A56 (f4.row0 (f3.row0 (f2.row0 r1))) (by simp [z32s]) (Af9 (0 :: x))
 simp only [RT, Q0, Q1, Q2, Q3, Q4, Q5, Q6, Q7, Q8, AR8, <- e1, <- hb1, BH4, <- hb2, <- e2, BU1 (AB1 h), <- hb3, <- e3]
 refine Aa0 k4 ?_
 simp only [RT, Q0, Q1, Q2, Q3, Q4, Q5, Q6, Q7, Q8, u1, ldI u3 (Af9 _)]
 exact ⟨(f13.then0 f4).row_ u2 (by omega), by unfold leafH; rfl⟩
set_option maxHeartbeats 4000000 in
theorem AR9 {x y : Bts} (hw : WF A) (hx : x.length = 32) (hy : y.length = 32) : ∃ w A', EvF Try.prog HH 83 [.agg (bc x), .agg (bc y)] A w A' /\ Fr S0 A A' /\ w = .agg (bc (nodeH x y)) := by
 refine Aa5 rfl Try.func83 (by unfold Try.f83; rfl) Try.ntmps83 (by unfold Try.f83; rfl) (by simp) ?_
 obtain ⟨Ax, ex, fx, rx, nx⟩ := Aa8 A (bc x)
 obtain ⟨bx, hbx⟩ : ∃ b, b = A.blk.length := ⟨_, rfl⟩
 obtain ⟨Ay, ey, fy, ry, ny⟩ := Aa8 Ax (bc y)
 obtain ⟨by_, hby⟩ : ∃ b, b = Ax.blk.length := ⟨_, rfl⟩
 obtain ⟨A1, e1, f1, r1, n1⟩ := Aa8 Ay (bc z32s)
 obtain ⟨b1, hb1⟩ : ∃ b, b = Ay.blk.length := ⟨_, rfl⟩
 obtain ⟨b2, hb2⟩ : ∃ b, b = A1.blk.length := ⟨_, rfl⟩
 obtain ⟨A2, e2⟩ : ∃ B, B = A1.push ⟨bc [1], .arr b2 0⟩ := ⟨_, rfl⟩
 obtain ⟨b3, hb3⟩ : ∃ b, b = A2.blk.length := ⟨_, rfl⟩
 obtain ⟨A3, e3⟩ : ∃ B, B = A2.push ⟨[.sl b2 0 1 1, .sl bx 0 32 1, .sl by_ 0 32 1], .arr b3 0⟩ := ⟨_, rfl⟩
 have f2 : Fr S0 A1 A2 := by rw [e2, hb2]; exact Fr.pushArr A1 _
 have f3 : Fr S0 A2 A3 := by rw [e3, hb3]; exact Fr.pushArr A2 _
 have r2 : A2.blk[b2]? = some ⟨bc [1], .arr b2 0⟩ := by rw [e2, hb2]; exact Ab0 A1 _
 have r3 : A3.blk[b3]? = some ⟨[.sl b2 0 1 1, .sl bx 0 32 1, .sl by_ 0 32 1], .arr b3 0⟩ := by rw [e3, hb3]; exact Ab0 A2 _
 rw [<- hbx] at rx nx
 rw [<- hby] at ry ny
 rw [<- hb1] at r1 n1
 have n2 : A2.blk.length = b2 + 1 := by rw [e2, Ad1, hb2]
 have rx2 := f2.row0 (f1.row0 (fy.row0 rx))
 have ry2 := f2.row0 (f1.row0 ry)
 have f13 := (((fx.then0 fy).then0 f1).then0 f2).then0 f3
 obtain ⟨m', hm'⟩ : ∃ m', m' = (((Hp.emp.put bx (bc x)).put by_ (bc y)).put b2 (bc [1])).put b3 [.sl b2 0 1 1, .sl bx 0 32 1, .sl by_ 0 32 1] := ⟨_, rfl⟩
 have on' : m'.on A3 := by rw [hm']; exact ((((Hp.on_emp A3).put (f3.row0 rx2)).put (f3.row0 ry2)).put (f3.row0 r2)).put r3
 have g3 : m' b3 = some [.sl b2 0 1 1, .sl bx 0 32 1, .sl by_ 0 32 1] := by rw [hm']; exact Hp.put_get _ _ _
 have gg : m' b2 = some (bc [1]) /\ m' bx = some (bc x) /\ m' by_ = some (bc y) := by
  rw [hm']; unfold Hp.put
  refine ⟨?_, ?_, ?_⟩
  . rw [if_neg (by omega), if_pos rfl]
  . rw [if_neg (by omega), if_neg (by omega), if_neg (by omega), if_pos rfl]
  . rw [if_neg (by omega), if_neg (by omega), if_pos rfl]
 obtain ⟨g1, gx, gy⟩ := gg
 have hs : Slc (eSl eU8) m' (.sl b3 0 3 1) [[1], x, y] := BR2 g3 rfl rfl fun i z hz => by
  match i, hz with
  | 0, hz => cases hz; exact ⟨_, rfl, BH9 g1 rfl⟩
  | 1, hz => cases hz; exact ⟨_, rfl, BH9 gx hx⟩
  | 2, hz => cases hz; exact ⟨_, rfl, BH9 gy hy⟩
  | i + 3, hz => simp at hz
 have hfl : ([[1], x, y] : List Bts).flatten = 1 :: (x ++ y) := by simp
 obtain ⟨w4, A4, k4, f4, hw4⟩ := Aw9 (f13.wf hw) on' hs (by rw [hfl, List.length_cons, List.length_append]; omega) (by simp)
 rw [hfl] at hw4
 subst hw4
 obtain ⟨A5, u1, u2, u3⟩ := A56 (f4.row0 (f3.row0 (f2.row0 r1))) (by simp [z32s]) (Af9 (1 :: (x ++ y)))
 have slx := Aq3 (P := Try.prog) (A := A2) (t := 32) (n := 32) (b := bx) (o := 0) (z := 0) Try.underlying32 sz5 rx2 (by show 0 + 32 * 1 <= (bc x).length; rw [Aa6, hx]; exact Nat.le_refl _)
 have sly := Aq3 (P := Try.prog) (A := A2) (t := 32) (n := 32) (b := by_) (o := 0) (z := 0) Try.underlying32 sz5 ry2 (by show 0 + 32 * 1 <= (bc y).length; rw [Aa6, hy]; exact Nat.le_refl _)
 simp only [RT, Q0, Q1, Q2, Q3, Q4, Q5, Q6, Q7, Q8, <- ex, <- hbx, <- ey, <- hby, AR8, <- e1, <- hb1]
 rw [BF1, Aa7 (by rfl)]
 simp only [RT, Q0, Q1, Q2, Q3, Q4, Q5, Q6, Q7, Q8, BT9, <- hb2, <- e2, slx, sly, BU0, <- hb3, <- e3]
 refine Aa0 k4 ?_
 simp only [RT, Q0, Q1, Q2, Q3, Q4, Q5, Q6, Q7, Q8, u1, ldI u3 (Af9 _)]
 exact ⟨(f13.then0 f4).row_ u2 (by omega), by unfold nodeH; rfl⟩
theorem AS0 {x : Bts} (hw : WF A) (hx : x.length <= 10000000000) : ∃ w A', EvF Try.prog HH 62 [.str x] A w A' /\ Fr S0 A A' /\ w = .agg (bc (leafH x)) := by
 refine Aa5 rfl Try.func62 (by unfold Try.f62; rfl) Try.ntmps62 (by unfold Try.f62; rfl) (by simp) ?_
 obtain ⟨A1, e1, f1, r1, n1⟩ := Aa8 A (bc z32s)
 obtain ⟨_, A2, k2, f2, rfl⟩ := Ax0 (A := A1) (s := 0 :: x) (f1.wf hw) (by simp; omega)
 obtain ⟨A3, u1, u2, u3⟩ := A56 (f2.row0 r1) (by simp [z32s]) (Af9 (0 :: x))
 have ad : evBin Try.prog .add 9 (.str [0]) (.str x) = some (.str (0 :: x)) := AO9 (by simp; omega)
 simp only [RT, Q0, Q1, Q2, Q3, Q4, Q5, Q6, Q7, Q8, AR8, <- e1, ad]
 refine Aa0 k2 ?_
 simp only [RT, Q0, Q1, Q2, Q3, Q4, Q5, Q6, Q7, Q8, u1, ldI u3 (Af9 _)]
 exact ⟨(f1.then0 f2).row_ u2 (Nat.le_refl _), rfl⟩
set_option maxRecDepth 10000 in
theorem AS1 {x : Bts} (hw : WF A) (hx : x.length = 32) : ∃ w A', EvF Try.prog HH 108 [.agg (bc x)] A w A' /\ Fr S0 A A' /\ w = .str x := by
 refine Aa5 rfl Try.func108 (by unfold Try.f108; rfl) Try.ntmps108 (by unfold Try.f108; rfl) (by simp) ?_
 obtain ⟨A1, e1, f1, r1, n1⟩ := Aa8 A (bc x)
 simp only [RT, Q0, Q1, Q2, Q3, Q4, Q5, Q6, Q7, Q8, <- e1]
 refine Aa2 (fun z e B => ∃ i : Nat, z = 32 - i /\ i <= 32 /\ e.get 4 = .int .i64 i /\ e.get 1 = .ptr A.blk.length 0 /\ e.get 3 = .str (x.take i) /\ Fr S0 A1 B)
  (fun z e B => Is z (.exit 0) /\ e.get 3 = .str x /\ Fr S0 A1 B)
  ⟨_, 0, rfl, by omega, rfl, rfl, rfl, .refl _ _⟩ ?_ ?_
 . rintro z e B ⟨i, rfl, hi, h4, h1, h3, hf⟩
   simp only [RT, Q0, Q1, Q2, Q3, Q4, Q5, Q6, Q7, Q8, h4]
   refine Aa1 (fun q1 => ?_) (fun q1 => ?_)
   rotate_left
   . have : i = 32 := by omega
     subst this
     rw [List.take_of_length_le (by omega)] at h3
     simp only [RT, Q0, Q1, Q2, Q3, Q4, Q5, Q6, Q7, Q8]
     exact ⟨rfl, h3, hf⟩
   have hi : i < 32 := by omega
   obtain ⟨y, hy⟩ := Ac7 (l := x) (i := i) (by omega)
   have wi : IntKind.i64.wrap ((i : Int) + 1) = ((i + 1 : Nat) : Int) := by rw [Ad7 (by omega)]
   have ld : evLoad Try.prog 5 (.ptr A.blk.length i) B = some (.int .u8 (y.toNat : Int)) := by
    rw [Ab5 ag5 (hf.row0 r1), Aq2, hy]; rfl
   have hb1 : bsl Try.prog 44 1 (some [(0, .int .u8 (y.toNat : Int))]) = some (.newSl (bc [y]) 1 1) := BQ9 _
   have q := Fr.pushArr B (bc [y])
   have hcv : cnv Try.prog 44 9 (some (.sl B.blk.length 0 1 1)) (B.push ⟨bc [y], .arr B.blk.length 0⟩) = some (.val (.str [y])) := BE2 (l := [y]) (by decide) Try.underlying44 Try.underlying5 Try.underlying9 (Ab0 B _)
   have ad : evBin Try.prog .add 9 (.str (x.take i)) (.str [y]) = some (.str (x.take (i + 1))) := by
    rw [AO9 (by rw [List.length_take]; simp; omega), Ac9 hy]
   simp only [RT, Q0, Q1, Q2, Q3, Q4, Q5, Q6, Q7, Q8, h3, h4, h1, BS4 (r := A.blk.length) hi, ld, hb1, hcv, ad, wi]
   exact ⟨32 - (i + 1), by omega, i + 1, rfl, by omega, rfl, rfl, hf.then0 q⟩
 rintro z e B hz ⟨rfl, h3, hf⟩
 simp only [RT, Q0, Q1, Q2, Q3, Q4, Q5, Q6, Q7, Q8, h3]
 exact f1.then0 hf
theorem AS2 {x y : Bts} (hw : WF A) (hx : x.length = 32) (hy : y.length = 32) : ∃ w A', EvF Try.prog HH 89 [.agg (bc x), .agg (bc y)] A w A' /\ Fr S0 A A' /\ w = .agg (bc (nodeH x y)) := by
 refine Aa5 rfl Try.func89 (by unfold Try.f89; rfl) Try.ntmps89 (by unfold Try.f89; rfl) (by simp) ?_
 obtain ⟨Ax, ex, fx, rx, nx⟩ := Aa8 A (bc x)
 obtain ⟨Ay, ey, fy, ry, ny⟩ := Aa8 Ax (bc y)
 obtain ⟨A1, e1, f1, r1, n1⟩ := Aa8 Ay (bc z32s)
 have w1 := f1.wf (fy.wf (fx.wf hw))
 obtain ⟨_, A2, k2, f2, rfl⟩ := AS1 w1 hx
 obtain ⟨_, A3, k3, f3, rfl⟩ := AS1 (f2.wf w1) hy
 obtain ⟨_, A4, k4, f4, rfl⟩ := Ax0 (A := A3) (s := 1 :: (x ++ y)) (f3.wf (f2.wf w1)) (by simp; omega)
 obtain ⟨A5, u1, u2, u3⟩ := A56 (f4.row0 (f3.row0 (f2.row0 r1))) (by simp [z32s]) (Af9 (1 :: (x ++ y)))
 have ad1 : evBin Try.prog .add 9 (.str [1]) (.str x) = some (.str (1 :: x)) := AO9 (by simp; omega)
 have ad2 : evBin Try.prog .add 9 (.str (1 :: x)) (.str y) = some (.str (1 :: (x ++ y))) := AO9 (by simp; omega)
 have lx := ldI (f1.row0 (fy.row0 rx)) hx
 have ly := ldI (f1.row0 ry) hy
 simp only [RT, Q0, Q1, Q2, Q3, Q4, Q5, Q6, Q7, Q8, <- ex, <- ey, AR8, <- e1, BF2, lx, ly, Aa3]
 refine Aa0 k2 ?_
 simp only [RT, Q0, Q1, Q2, Q3, Q4, Q5, Q6, Q7, Q8, Aa3]
 refine ⟨Aa4 (ha := rfl) rfl (ldI (f2.row0 (f1.row0 ry)) hy) rfl Aa3, ?_⟩
 simp only [RT, Q0, Q1, Q2, Q3, Q4, Q5, Q6, Q7, Q8, Aa3, ad1]
 refine Aa0 k3 ?_
 simp only [RT, Q0, Q1, Q2, Q3, Q4, Q5, Q6, Q7, Q8, Aa3, ad2]
 refine Aa0 k4 ?_
 simp only [RT, Q0, Q1, Q2, Q3, Q4, Q5, Q6, Q7, Q8, Aa3, u1, ldI u3 (Af9 _)]
 have l1 := fx.len
 have l2 := fy.len
 exact ⟨((((((fx.then0 fy).then0 f1).then0 f2).then0 f3).then0 f4)).row_ u2 (by omega), rfl⟩
end
end Go.Sv.Try
