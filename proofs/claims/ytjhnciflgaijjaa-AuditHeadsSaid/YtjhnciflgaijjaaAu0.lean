/- Messages as plain data, and how they are written. -/
import Derived.Test.YtjhnciflgaijjaaSv4
namespace Go.Sv
open Go
set_option linter.unusedVariables false
structure M where
  kind : Int
  who : Int
  height : Int
  round : Int
  valid : Int
  num : Int
  id : Bts
  data : Bts
  ids : List Bts
  list : List Bts
structure MsgIn (m : Hp) (x : M) (dv iv lv : V) : Prop where
  id : x.id.length = 32
  data : Slc eU8 m dv x.data
  ids : Slc eId m iv x.ids
  list : Slc (eSl eU8) m lv x.list
theorem MsgIn.mono {m m' : Hp} {x : M} {dv iv lv : V} (hm : m.le m') (h : MsgIn m x dv iv lv) : MsgIn m' x dv iv lv := ⟨h.id, h.data.mono hm, h.ids.mono hm, h.list.mono hm⟩
def digits (n : Nat) : Bts := if h : n = 0 then [] else digits (n / 256) ++ [UInt8.ofNat n]
termination_by n
def runB (b : Bts) : Bts := UInt8.ofNat (b.length / 65536) :: UInt8.ofNat (b.length / 256) :: UInt8.ofNat b.length :: b
def zero32 : Bts := List.replicate 32 0
def P9 (x : M) : List Bts := [digits x.who.toNat, digits x.height.toNat, digits x.round.toNat, digits x.valid.toNat, digits x.num.toNat, if x.id = zero32 then [] else x.id, x.data, x.ids.flatten, x.list.flatMap runB]
def opt1 (t : Nat) (b : Bts) : List (Nat × Bts) := if b = [] then [] else [(t, b)]
def optAll : Nat → List Bts → List (Nat × Bts)
  | _, [] => []
  | t, b :: r => opt1 t b ++ optAll (t + 1) r
def fieldList (x : M) : List (Nat × Bts) := optAll 1 (P9 x)
end Go.Sv
namespace Go.Sv
open Go
set_option linter.unusedVariables false
def takeB : Bts → Option (Bts × Bts)
  | a :: b :: c :: r => if a.toNat * 65536 + b.toNat * 256 + c.toNat > r.length then none else some (r.take (a.toNat * 65536 + b.toNat * 256 + c.toNat), r.drop (a.toNat * 65536 + b.toNat * 256 + c.toNat))
  | _ => none
theorem takeB_len {s x r : Bts} (h : takeB s = some (x, r)) : s.length = x.length + r.length + 3 ∧ x.length ≤ 16777215 := by
  match s, h with
  | a :: b :: c :: q, h =>
    simp only [takeB] at h
    split at h
    · simp at h
    · simp only [Option.some.injEq, Prod.mk.injEq] at h
      obtain ⟨rfl, rfl⟩ := h
      have h1 := a.toNat_lt; have h2 := b.toNat_lt; have h3 := c.toNat_lt
      simp only [List.length_cons, List.length_take, List.length_drop]
      omega
def items (last : Nat) (s : Bts) : List (Nat × Bts) × Int := match s with
  | [] => ([], 0)
  | t :: r => if t.toNat ≤ last ∨ t.toNat > 9 then ([], 21) else match h : takeB r with
    | none => ([], 20)
    | some (x, r') => ((t.toNat, x) :: (items t.toNat r').1, (items t.toNat r').2)
termination_by s.length
decreasing_by
  all_goals (have := takeB_len h; simp only [List.length_cons]; omega)
end Go.Sv
namespace Go.Sv
open Go
set_option linter.unusedVariables false
set_option linter.unusedSimpArgs false
abbrev W32 := BitVec 32
def rot (x : W32) (n : Nat) : W32 := x >>> n ||| x <<< (32 - n)
def shLow (x : W32) : W32 := rot x 7 ^^^ rot x 18 ^^^ x >>> 3
def shHigh (x : W32) : W32 := rot x 17 ^^^ rot x 19 ^^^ x >>> 10
def shK : List W32 := [1116352408, 1899447441, 3049323471, 3921009573, 961987163, 1508970993, 2453635748, 2870763221, 3624381080, 310598401, 607225278, 1426881987, 1925078388, 2162078206, 2614888103, 3248222580, 3835390401, 4022224774, 264347078, 604807628, 770255983, 1249150122, 1555081692, 1996064986, 2554220882, 2821834349, 2952996808, 3210313671, 3336571891, 3584528711, 113926993, 338241895, 666307205, 773529912, 1294757372, 1396182291, 1695183700, 1986661051, 2177026350, 2456956037, 2730485921, 2820302411, 3259730800, 3345764771, 3516065817, 3600352804, 4094571909, 275423344, 430227734, 506948616, 659060556, 883997877, 958139571, 1322822218, 1537002063, 1747873779, 1955562222, 2024104815, 2227730452, 2361852424, 2428436474, 2756734187, 3204031479, 3329325298]
def gw (l : List W32) (i : Nat) : W32 := l.getD i 0
def gb (l : Bts) (i : Nat) : Nat := (l.getD i 0).toNat
def be4 (b : Bts) (i : Nat) : W32 := BitVec.ofNat 32 (((gb b (4 * i) * 256 + gb b (4 * i + 1)) * 256 + gb b (4 * i + 2)) * 256 + gb b (4 * i + 3))
def wl (b : Bts) : Nat → List W32
  | 0 => []
  | i + 1 => wl b i ++ [if i < 16 then be4 b i else gw (wl b i) (i - 16) + shLow (gw (wl b i) (i - 15)) + gw (wl b i) (i - 7) + shHigh (gw (wl b i) (i - 2))]
theorem wl_len (b : Bts) : ∀ i, (wl b i).length = i
  | 0 => rfl
  | i + 1 => by rw [wl, List.length_append, wl_len b i]; rfl
structure S8 where
  a : W32
  b : W32
  c : W32
  d : W32
  e : W32
  f : W32
  g : W32
  h : W32
def s8l (s : S8) : List W32 := [s.a, s.b, s.c, s.d, s.e, s.f, s.g, s.h]
def chs (e f g : W32) : W32 := g ^^^ e &&& (f ^^^ g)
def maj (a b c : W32) : W32 := a &&& b ||| c &&& (a ||| b)
def sg1 (e : W32) : W32 := rot e 6 ^^^ rot e 11 ^^^ rot e 25
def sg0 (a : W32) : W32 := rot a 2 ^^^ rot a 13 ^^^ rot a 22
def one8 (k w : W32) (s : S8) : W32 := s.h + sg1 s.e + chs s.e s.f s.g + k + w
def two8 (s : S8) : W32 := sg0 s.a + maj s.a s.b s.c
def rnd (k w : W32) (s : S8) : S8 := ⟨one8 k w s + two8 s, s.a, s.b, s.c, s.d + one8 k w s, s.e, s.f, s.g⟩
def rl (ws : List W32) (s : S8) : Nat → S8
  | 0 => s
  | i + 1 => rnd (gw shK i) (gw ws i) (rl ws s i)
def add8 (s v : S8) : S8 := ⟨s.a + v.a, s.b + v.b, s.c + v.c, s.d + v.d, s.e + v.e, s.f + v.f, s.g + v.g, s.h + v.h⟩
def comp (s : S8) (b : Bts) : S8 := add8 s (rl (wl b 64) s 64)
def sha0 : S8 := ⟨1779033703, 3144134277, 1013904242, 2773480762, 1359893119, 2600822924, 528734635, 1541459225⟩
def out8 (s : S8) : Bts := (List.range 32).map fun i => UInt8.ofNat ((gw (s8l s) (i / 4)).toNat >>> (24 - 8 * (i % 4)))
def be8 (n : Nat) : Bts := (List.range 8).map fun i => UInt8.ofNat (n / 256 ^ (7 - i))
def padZ (n : Nat) : Nat := (119 - n % 64) % 64
def padB (l : Bts) : Bts := l ++ [128] ++ List.replicate (padZ l.length) 0 ++ be8 (l.length * 8)
def chunks (l : Bts) : List Bts := (List.range (l.length / 64)).map fun i => (l.drop (64 * i)).take 64
def sha (l : Bts) : Bts := out8 ((chunks (padB l)).foldl comp sha0)
theorem be8_len (n : Nat) : (be8 n).length = 8 := by simp [be8]
theorem out8_len (s : S8) : (out8 s).length = 32 := by simp [out8]
theorem sha_len (l : Bts) : (sha l).length = 32 := out8_len _
theorem padB_len (l : Bts) : (padB l).length = l.length + 1 + padZ l.length + 8 := by
  simp [padB, be8_len]; omega
theorem padB_mod (l : Bts) : (padB l).length % 64 = 0 := by
  rw [padB_len]; unfold padZ; omega
theorem padZ_lt (n : Nat) : padZ n < 64 := Nat.mod_lt _ (by omega)
theorem chunks_len (l : Bts) : (chunks l).length = l.length / 64 := by simp [chunks]
theorem chunks_get {l : Bts} {i : Nat} {x : Bts} (h : (chunks l)[i]? = some x) : i < l.length / 64 ∧ x = (l.drop (64 * i)).take 64 ∧ x.length = 64 := by
  have hi : i < l.length / 64 := by have := (List.getElem?_eq_some_iff.1 h).1; rwa [chunks_len] at this
  unfold chunks at h
  rw [List.getElem?_map, List.getElem?_range hi] at h
  cases h
  refine ⟨hi, rfl, ?_⟩
  rw [List.length_take, List.length_drop]
  omega
def wc (k : IntKind) (l : List W32) : List V := l.map fun x => .int k (x.toNat : Int)
theorem wc_len (k : IntKind) (l : List W32) : (wc k l).length = l.length := by simp [wc]
theorem wc_one (k : IntKind) (l : List W32) : (wc k l).all V.one = true := by simp [wc, V.one]
theorem wc_get {k : IntKind} {l : List W32} {i : Nat} (h : i < l.length) : (wc k l)[i]? = some (.int k ((gw l i).toNat : Int)) := by
  unfold wc gw
  rw [List.getElem?_map, List.getElem?_eq_getElem h, List.getD_eq_getElem?_getD, List.getElem?_eq_getElem h]; rfl
theorem putAt_one {l : List V} {i : Nat} {x : V} (h : i < l.length) : putAt l i [x] = l.set i x := by
  unfold putAt
  rw [List.set_eq_take_append_cons_drop, if_pos h]; simp
theorem wc_set {k : IntKind} {l : List W32} {i : Nat} {x : W32} (h : i < l.length) : putAt (wc k l) i [.int k (x.toNat : Int)] = wc k (l.set i x) := by
  rw [putAt_one (by rw [wc_len]; exact h)]
  unfold wc; rw [List.map_set]
theorem gw_app {l l' : List W32} {i : Nat} (h : i < l.length) : gw (l ++ l') i = gw l i := by
  unfold gw; rw [List.getD_eq_getElem?_getD, List.getElem?_append_left h, List.getD_eq_getElem?_getD]
theorem wrap_u32 (n : Int) : IntKind.u32.wrap n = n % 4294967296 := by simp [IntKind.wrap, IntKind.signed, IntKind.bits]
theorem wrap_u64 (n : Int) : IntKind.u64.wrap n = n % 18446744073709551616 := by simp [IntKind.wrap, IntKind.signed, IntKind.bits]
theorem u32_add (x y : W32) : IntKind.u32.wrap ((x.toNat : Int) + (y.toNat : Int)) = ((x + y).toNat : Int) := by
  rw [BitVec.toNat_add, wrap_u32]; simp
theorem w_lt (x : W32) : x.toNat < 4294967296 := x.isLt
theorem bits_ofInt {n : Nat} (x : W32) (h : 32 ≤ n) : BitVec.ofInt n (x.toNat : Int) = x.setWidth n := by
  rw [BitVec.ofInt_natCast]
  apply BitVec.eq_of_toNat_eq
  rw [BitVec.toNat_ofNat, BitVec.toNat_setWidth]
theorem wrapU {k : IntKind} (hk : k = .u32 ∨ k = .u64) {x : Nat} (h : x < 2 ^ k.bits) : k.wrap (x : Int) = x := by
  rcases hk with rfl | rfl
  · rw [wrap_u32]; have h : x < 4294967296 := h; omega
  · rw [wrap_u64]; have h : x < 18446744073709551616 := h; omega
theorem b32 {k : IntKind} (hk : k = .u32 ∨ k = .u64) : 32 ≤ k.bits := by rcases hk with rfl | rfl <;> decide
theorem bv_xor {k : IntKind} (hk : k = .u32 ∨ k = .u64) (x y : W32) : evBits .xor k (x.toNat : Int) (y.toNat : Int) = some (.int k ((x ^^^ y).toNat : Int)) := by
  unfold evBits
  simp only [bits_ofInt _ (b32 hk)]
  have hb := b32 hk
  have e : (x.setWidth k.bits ^^^ y.setWidth k.bits).toNat = (x ^^^ y).toNat := by
    rw [← BitVec.setWidth_xor, BitVec.toNat_setWidth, Nat.mod_eq_of_lt]
    exact Nat.lt_of_lt_of_le (x ^^^ y).isLt (Nat.pow_le_pow_right (by omega) hb)
  rw [e, wrapU hk]
  exact Nat.lt_of_lt_of_le (x ^^^ y).isLt (Nat.pow_le_pow_right (by omega) hb)
theorem bv_and {k : IntKind} (hk : k = .u32 ∨ k = .u64) (x y : W32) : evBits .and k (x.toNat : Int) (y.toNat : Int) = some (.int k ((x &&& y).toNat : Int)) := by
  unfold evBits
  simp only [bits_ofInt _ (b32 hk)]
  have hb := b32 hk
  have e : (x.setWidth k.bits &&& y.setWidth k.bits).toNat = (x &&& y).toNat := by
    rw [← BitVec.setWidth_and, BitVec.toNat_setWidth, Nat.mod_eq_of_lt]
    exact Nat.lt_of_lt_of_le (x &&& y).isLt (Nat.pow_le_pow_right (by omega) hb)
  rw [e, wrapU hk]
  exact Nat.lt_of_lt_of_le (x &&& y).isLt (Nat.pow_le_pow_right (by omega) hb)
theorem bv_or {k : IntKind} (hk : k = .u32 ∨ k = .u64) (x y : W32) : evBits .or k (x.toNat : Int) (y.toNat : Int) = some (.int k ((x ||| y).toNat : Int)) := by
  unfold evBits
  simp only [bits_ofInt _ (b32 hk)]
  have hb := b32 hk
  have e : (x.setWidth k.bits ||| y.setWidth k.bits).toNat = (x ||| y).toNat := by
    rw [← BitVec.setWidth_or, BitVec.toNat_setWidth, Nat.mod_eq_of_lt]
    exact Nat.lt_of_lt_of_le (x ||| y).isLt (Nat.pow_le_pow_right (by omega) hb)
  rw [e, wrapU hk]
  exact Nat.lt_of_lt_of_le (x ||| y).isLt (Nat.pow_le_pow_right (by omega) hb)
theorem bv_shr {k : IntKind} (hk : k = .u32 ∨ k = .u64) (x : W32) {n : Nat} (h : n ≤ 32) : evShift .shr k (x.toNat : Int) (n : Int) = some (.int k ((x >>> n).toNat : Int)) := by
  have hb := b32 hk
  rw [shr_nat x.toNat n (by omega), BitVec.toNat_ushiftRight, Nat.shiftRight_eq_div_pow]
theorem bv_shl (x : W32) {n : Nat} (h : n ≤ 32) : evShift .shl .u32 (x.toNat : Int) (n : Int) = some (.int .u32 ((x <<< n).toNat : Int)) := by
  unfold evShift
  rw [if_neg (by omega)]
  have e : min ((n : Int).toNat) IntKind.u32.bits = n := by rw [Int.toNat_natCast]; show min n 32 = n; omega
  simp only [e]
  congr 2
  rw [BitVec.toNat_shiftLeft, Nat.shiftLeft_eq, wrap_u32]
  simp
theorem ch_eq (e f g : W32) : e &&& f ||| ~~~e &&& g = chs e f g := by
  unfold chs
  apply BitVec.eq_of_getLsbD_eq
  intro i hi
  simp only [BitVec.getLsbD_or, BitVec.getLsbD_and, BitVec.getLsbD_xor, BitVec.getLsbD_not, hi, decide_true, Bool.true_and]
  cases e.getLsbD i <;> cases f.getLsbD i <;> cases g.getLsbD i <;> rfl
theorem maj_eq (a b c : W32) : a &&& b ||| a &&& c ||| b &&& c = maj a b c := by
  unfold maj
  apply BitVec.eq_of_getLsbD_eq
  intro i hi
  simp only [BitVec.getLsbD_or, BitVec.getLsbD_and]
  cases a.getLsbD i <;> cases b.getLsbD i <;> cases c.getLsbD i <;> rfl
end Go.Sv
namespace Go.Sv
open Go
set_option linter.unusedVariables false
set_option linter.unusedSimpArgs false
theorem chunks_at {l : Bts} {k : Nat} (h : k < l.length / 64) : (chunks l)[k]? = some ((l.drop (64 * k)).take 64) := by
  unfold chunks; rw [List.getElem?_map, List.getElem?_range h]; rfl
section
variable (L : Bts)
theorem chunk_full {k : Nat} (h : k < L.length / 64) : (chunks (padB L))[k]? = some ((L.drop (64 * k)).take 64) := by
  rw [chunks_at (by rw [padB_len]; omega)]
  unfold padB
  rw [List.append_assoc, List.append_assoc, List.drop_append_of_le_length (by omega), List.take_append_of_le_length (by rw [List.length_drop]; omega)]
theorem pad_drop : (padB L).drop (64 * (L.length / 64)) = L.drop (64 * (L.length / 64)) ++ ([128] ++ List.replicate (padZ L.length) 0 ++ be8 (L.length * 8)) := by
  unfold padB
  rw [List.append_assoc, List.append_assoc, List.drop_append_of_le_length (by omega), List.append_assoc]
theorem chunk_one (h : L.length % 64 < 56) : (chunks (padB L))[L.length / 64]? = some (L.drop (64 * (L.length / 64)) ++ [128] ++ List.replicate (55 - L.length % 64) 0 ++ be8 (L.length * 8)) ∧ (chunks (padB L)).length = L.length / 64 + 1 := by
  have hz : padZ L.length = 55 - L.length % 64 := by unfold padZ; omega
  constructor
  · rw [chunks_at (by rw [padB_len, hz]; omega), pad_drop, List.take_of_length_le (by simp [be8_len, hz]; omega), hz]
    simp only [List.append_assoc]
  · rw [chunks_len, padB_len, hz]; omega
theorem chunk_two (h : 56 ≤ L.length % 64) : (chunks (padB L))[L.length / 64]? = some (L.drop (64 * (L.length / 64)) ++ [128] ++ List.replicate (63 - L.length % 64) 0) ∧ (chunks (padB L))[L.length / 64 + 1]? = some (List.replicate 56 0 ++ be8 (L.length * 8)) ∧ (chunks (padB L)).length = L.length / 64 + 2 := by
  have hz : padZ L.length = (63 - L.length % 64) + 56 := by unfold padZ; omega
  have hl : (L.drop (64 * (L.length / 64)) ++ [128] ++ List.replicate (63 - L.length % 64) (0 : UInt8)).length = 64 := by simp; omega
  have e : (padB L).drop (64 * (L.length / 64)) = (L.drop (64 * (L.length / 64)) ++ [128] ++ List.replicate (63 - L.length % 64) 0) ++ (List.replicate 56 0 ++ be8 (L.length * 8)) := by
    rw [pad_drop, hz, ← List.replicate_append_replicate]; simp only [List.append_assoc]
  refine ⟨?_, ?_, ?_⟩
  · rw [chunks_at (by rw [padB_len, hz]; omega), e, List.take_left' hl]
  · rw [chunks_at (by rw [padB_len, hz]; omega), show 64 * (L.length / 64 + 1) = 64 * (L.length / 64) + 64 by omega, ← List.drop_drop, e, List.drop_left' hl, List.take_of_length_le (by simp [be8_len])]
  · rw [chunks_len, padB_len, hz]; omega
end
def Blk64 (p w : Bts) : Prop := w.length = 64 ∧ w.take (p.length % 64) = p.drop (64 * (p.length / 64))
theorem take_set {α : Type} (w : List α) {n : Nat} {x : α} (h : n < w.length) : (w.set n x).take (n + 1) = w.take n ++ [x] := by
  rw [List.take_set, List.take_add_one, List.getElem?_eq_getElem h]
  rw [List.set_append, if_neg (by rw [List.length_take]; omega)]
  rw [show n - (w.take n).length = 0 by rw [List.length_take]; omega]; rfl
theorem Blk64.step {p w : Bts} (h : Blk64 p w) (x : UInt8) : ((p.length + 1) % 64 ≠ 0 → Blk64 (p ++ [x]) (w.set (p.length % 64) x)) ∧ ((p.length + 1) % 64 = 0 → w.set (p.length % 64) x = ((p ++ [x]).drop (64 * (p.length / 64))).take 64 ∧ Blk64 (p ++ [x]) (w.set (p.length % 64) x) ∧ (p ++ [x]).length / 64 = p.length / 64 + 1) := by
  have e1 : (w.set (p.length % 64) x).take (p.length % 64 + 1) = (p ++ [x]).drop (64 * (p.length / 64)) := by
    rw [take_set _ (by rw [h.1]; omega), h.2, List.drop_append_of_le_length (by omega)]
  refine ⟨fun q => ⟨by rw [List.length_set]; exact h.1, ?_⟩, fun q => ⟨?_, ⟨by rw [List.length_set]; exact h.1, ?_⟩, ?_⟩⟩
  · rw [List.length_append, List.length_singleton, show (p.length + 1) % 64 = p.length % 64 + 1 by omega, show (p.length + 1) / 64 = p.length / 64 by omega]
    exact e1
  · have hl : (w.set (p.length % 64) x).length = 64 := by rw [List.length_set]; exact h.1
    have e2 : (w.set (p.length % 64) x).take (p.length % 64 + 1) = w.set (p.length % 64) x := List.take_of_length_le (by omega)
    rw [← e1, e2, List.take_of_length_le (by omega)]
  · rw [List.length_append, List.length_singleton, q, List.take_zero, List.drop_of_length_le (by rw [List.length_append, List.length_singleton]; omega)]
  · rw [List.length_append, List.length_singleton]; omega
theorem putAt_bcS {w : Bts} {i : Nat} {x : UInt8} (h : i < w.length) : putAt (bc w) i [.int .u8 (x.toNat : Int)] = bc (w.set i x) := by
  rw [putAt_one (by rw [bc_len]; exact h)]
  unfold bc; rw [List.map_set]
def cntB (q : Bts) (n i : Nat) : Bts := q ++ List.replicate (8 - i) 0 ++ (be8 n).drop (8 - i)
theorem cntB_step {q : Bts} {n i : Nat} (hq : q.length = 56) (hi : i < 8) : (cntB q n i).set (63 - i) (UInt8.ofNat (n / 256 ^ i)) = cntB q n (i + 1) := by
  unfold cntB
  have hr : List.replicate (8 - i) (0 : UInt8) = List.replicate (7 - i) 0 ++ [0] := by
    rw [show 8 - i = (7 - i) + 1 by omega, List.replicate_succ']
  have hd : (be8 n).drop (8 - (i + 1)) = UInt8.ofNat (n / 256 ^ i) :: (be8 n).drop (8 - i) := by
    rw [show 8 - i = (8 - (i + 1)) + 1 by omega]
    rw [List.drop_eq_getElem_cons (by rw [be8_len]; omega)]
    congr 1
    unfold be8
    rw [List.getElem_map, List.getElem_range]
    rw [show 7 - (8 - (i + 1)) = i by omega]
  rw [hd, hr, List.append_assoc, List.append_assoc, List.set_append, if_neg (by omega), hq, show 63 - i - 56 = 7 - i by omega, List.set_append, if_neg (by simp), List.length_replicate, Nat.sub_self, show 8 - (i + 1) = 7 - i by omega]
  simp
theorem cntB_zero {q : Bts} {n : Nat} : cntB q n 0 = q ++ List.replicate 8 0 := by
  unfold cntB; rw [List.drop_of_length_le (by rw [be8_len]; omega)]; simp
theorem cntB_end {q : Bts} {n : Nat} : cntB q n 8 = q ++ be8 n := by unfold cntB; simp
theorem cntB_len {q : Bts} {n i : Nat} (hq : q.length = 56) (hi : i ≤ 8) : (cntB q n i).length = 64 := by
  unfold cntB; simp only [List.length_append, List.length_replicate, List.length_drop, be8_len, hq]; omega
theorem copy_var {P : Program} {A : AS} {t e : TypeId} {b b' o' n n' : Nat} {cells cs : List V} (hu : P.underlying t = some (.slice e)) (hs : szT P e = some 1) (hb : A.blk[b]? = some ⟨cells, .var⟩) (hr : A.range b' o' n' = some cs) (hl : cs.length = n') (h1 : cs.all V.one = true) (hn : n' ≤ n) (hc : n' ≤ cells.length) :
    ∃ A', evCopy P t (.sl b 0 n 1) (.sl b' o' n' 1) A = some (.int .i64 (n' : Int), A') ∧ Fr (· = .row b) A A' ∧ A'.blk[b]? = some ⟨cs ++ cells.drop n', .var⟩ := by
  have ho : 0 + cs.length ≤ cells.length := by omega
  refine ⟨A.setBlk b (putAt cells 0 cs), ?_, Fr.setBlk hb (putAt_length ho), ?_⟩
  · unfold evCopy
    simp only [hu, hs]
    rw [if_pos ⟨trivial, trivial⟩, Nat.min_eq_left hn, Nat.mul_one, hr]
    simp only []
    unfold AS.put
    rw [hb]
    simp only []
    rw [if_pos ⟨ho, h1⟩]; rfl
  · rw [setBlk_blk, hb]
    simp [putAt, hl]
theorem arr_to {P : Program} {A : AS} {t e : TypeId} {n b o z j : Nat} {k : Blk} {kd : IntKind} (hu : P.underlying t = some (.array n e)) (hs : szT P e = some (z + 1)) (hb : A.blk[b]? = some k) (hl : o + n * (z + 1) ≤ k.cells.length) (hj : j ≤ n) :
    evSlice P t (.ptr b o) none (some (.int kd (j : Int))) none A = some (.sl b o j (z + 1)) := by
  unfold evSlice
  have e2 : (j : Int) ≤ n := by omega
  simp only [hu, hs, boundV]
  unfold AS.range
  rw [hb]; simp [hl, e2]
end Go.Sv
namespace Go.Sv
open Go
set_option linter.unusedVariables false
set_option linter.unusedSimpArgs false
def leafH (b : Bts) : Bts := sha (0 :: b)
def nodeH (a b : Bts) : Bts := sha (1 :: (a ++ b))
theorem leafH_len (b : Bts) : (leafH b).length = 32 := sha_len _
theorem nodeH_len (a b : Bts) : (nodeH a b).length = 32 := sha_len _
def halfF : Nat → Nat → Nat → Nat
  | 0, _, k => k
  | f + 1, n, k => if k * 2 < n then halfF f n (k * 2) else k
def half (n : Nat) : Nat := halfF n n 1
theorem halfF_pow : ∀ (f : Nat) {n a : Nat}, 2 ^ a < n → n ≤ 2 ^ a * 2 ^ f → ∃ c, halfF f n (2 ^ a) = 2 ^ c ∧ 2 ^ c < n ∧ n ≤ 2 ^ (c + 1)
  | 0, n, a, h1, h2 => by rw [Nat.pow_zero, Nat.mul_one] at h2; omega
  | f + 1, n, a, h1, h2 => by
    unfold halfF
    split
    · rename_i q
      rw [← Nat.pow_succ] at q ⊢
      exact halfF_pow f q (by rw [Nat.pow_succ 2 f, Nat.mul_comm (2 ^ f), ← Nat.mul_assoc, ← Nat.pow_succ] at h2; exact h2)
    · rename_i q
      exact ⟨a, rfl, h1, by rw [Nat.pow_succ]; omega⟩
theorem half_pow {n : Nat} (h : 2 ≤ n) : ∃ c, half n = 2 ^ c ∧ 2 ^ c < n ∧ n ≤ 2 ^ (c + 1) := by
  have := halfF_pow n (n := n) (a := 0) (by simp; omega) (by
    have : n < 2 ^ n := Nat.lt_two_pow_self
    simp; omega)
  exact this
theorem half_eq {n c : Nat} (h1 : 2 ^ c < n) (h2 : n ≤ 2 ^ (c + 1)) : half n = 2 ^ c := by
  have hp : 0 < 2 ^ c := Nat.pow_pos (by decide)
  obtain ⟨d, e1, e2, e3⟩ := half_pow (n := n) (by omega)
  rw [e1]
  have a1 : d < c + 1 := (Nat.pow_lt_pow_iff_right (a := 2) (by decide)).1 (Nat.lt_of_lt_of_le e2 h2)
  have a2 : c < d + 1 := (Nat.pow_lt_pow_iff_right (a := 2) (by decide)).1 (Nat.lt_of_lt_of_le h1 e3)
  rw [show d = c by omega]
theorem half_lt {n : Nat} (h : 2 ≤ n) : 0 < half n ∧ half n < n := by
  obtain ⟨c, e1, e2, _⟩ := half_pow h
  rw [e1]; exact ⟨Nat.pow_pos (by decide), e2⟩
def rootF : Nat → List Bts → Bts
  | 0, _ => []
  | f + 1, l => if l.length = 0 then sha [] else if l.length = 1 then l.headD [] else nodeH (rootF f (l.take (half l.length))) (rootF f (l.drop (half l.length)))
theorem rootF_enough : ∀ (f g : Nat) (l : List Bts), l.length < f → l.length < g → rootF f l = rootF g l
  | 0, g, l, h, _ => by omega
  | f + 1, 0, l, _, h => by omega
  | f + 1, g + 1, l, h1, h2 => by
    unfold rootF
    split
    · rfl
    split
    · rfl
    · rename_i a b
      obtain ⟨x, y⟩ := half_lt (n := l.length) (by omega)
      rw [rootF_enough f g (l.take (half l.length)) (by rw [List.length_take]; omega) (by rw [List.length_take]; omega), rootF_enough f g (l.drop (half l.length)) (by rw [List.length_drop]; omega) (by rw [List.length_drop]; omega)]
def rootR (l : List Bts) : Bts := rootF (l.length + 1) l
theorem rootR_nil : rootR [] = sha [] := rfl
theorem rootR_more {l : List Bts} (h : 2 ≤ l.length) : rootR l = nodeH (rootR (l.take (half l.length))) (rootR (l.drop (half l.length))) := by
  obtain ⟨x, y⟩ := half_lt h
  unfold rootR
  rw [rootF, if_neg (by omega), if_neg (by omega)]
  rw [rootF_enough l.length ((l.take (half l.length)).length + 1) _ (by rw [List.length_take]; omega) (by omega), rootF_enough l.length ((l.drop (half l.length)).length + 1) _ (by rw [List.length_drop]; omega) (by omega)]
theorem rootR_len {l : List Bts} (h : ∀ x ∈ l, x.length = 32) : (rootR l).length = 32 := by
  match l, h with
  | [], _ => exact sha_len _
  | [x], h => exact h x (by simp)
  | x :: y :: r, _ => rw [rootR_more (by simp)]; exact nodeH_len _ _
abbrev Peaks := List (Nat × List Bts)
def Pk.cat (L : Peaks) : List Bts := L.flatMap (·.2)
def Pk.ok (L : Peaks) : Prop := (∀ p ∈ L, p.2.length = 2 ^ p.1) ∧ L.Pairwise (fun p q => q.1 < p.1)
def Pk.tops (L : Peaks) : List Bts := L.map fun p => rootR p.2
theorem Pk.cat_cons (p : Nat × List Bts) (L : Peaks) : Pk.cat (p :: L) = p.2 ++ Pk.cat L := rfl
theorem Pk.cat_app (L M : Peaks) : Pk.cat (L ++ M) = Pk.cat L ++ Pk.cat M := by unfold Pk.cat; rw [List.flatMap_append]
theorem Pk.lt : ∀ {L : Peaks} {k : Nat}, Pk.ok L → (∀ p ∈ L, p.1 < k) → (Pk.cat L).length < 2 ^ k
  | [], k, _, _ => by show 0 < 2 ^ k; exact Nat.pow_pos (by decide)
  | p :: L, k, h, hk => by
    have h1 := List.pairwise_cons.1 h.2
    have h2 := Pk.lt (L := L) (k := p.1) ⟨fun q hq => h.1 q (by simp [hq]), h1.2⟩ h1.1
    have h3 := hk p (by simp)
    rw [Pk.cat_cons, List.length_append, h.1 p (by simp)]
    have : 2 ^ (p.1 + 1) ≤ 2 ^ k := Nat.pow_le_pow_right (by decide) h3
    rw [Nat.pow_succ] at this; omega
def Pk.root : Peaks → Bts
  | [] => sha []
  | [p] => rootR p.2
  | p :: q :: L => nodeH (rootR p.2) (Pk.root (q :: L))
theorem Pk.root_eq : ∀ {L : Peaks}, Pk.ok L → Pk.root L = rootR (Pk.cat L)
  | [], _ => rfl
  | [p], _ => by simp [Pk.root, Pk.cat]
  | p :: q :: L, h => by
    have h1 := List.pairwise_cons.1 h.2
    have hok : Pk.ok (q :: L) := ⟨fun x hx => h.1 x (List.mem_cons_of_mem _ hx), h1.2⟩
    have ih := Pk.root_eq hok
    have hlt := Pk.lt hok h1.1
    have hp := h.1 p (by simp)
    have hq := h.1 q (by simp)
    have hq0 : 0 < 2 ^ q.1 := Nat.pow_pos (by decide)
    have hge : 0 < (Pk.cat (q :: L)).length := by rw [Pk.cat_cons, List.length_append, hq]; omega
    have hpp : 0 < 2 ^ p.1 := Nat.pow_pos (by decide)
    have hl : (Pk.cat (p :: q :: L)).length = 2 ^ p.1 + (Pk.cat (q :: L)).length := by rw [Pk.cat_cons, List.length_append, hp]
    have hh : half (Pk.cat (p :: q :: L)).length = 2 ^ p.1 := half_eq (by omega) (by rw [Nat.pow_succ]; omega)
    rw [rootR_more (by omega), hh, Pk.cat_cons, ← hp, List.take_left, List.drop_left, ← ih]
    rfl
theorem rootR_join {k : Nat} {a b : List Bts} (ha : a.length = 2 ^ k) (hb : b.length = 2 ^ k) : rootR (a ++ b) = nodeH (rootR a) (rootR b) := by
  have hpp : 0 < 2 ^ k := Nat.pow_pos (by decide)
  have hl : (a ++ b).length = 2 ^ k + 2 ^ k := by rw [List.length_append, ha, hb]
  have hh : half (a ++ b).length = 2 ^ k := half_eq (by omega) (by rw [Nat.pow_succ]; omega)
  rw [rootR_more (by omega), hh, ← ha, List.take_left, List.drop_left]
theorem Pk.odd {L : Peaks} {j : Nat} (h : Pk.ok L) (hj : ∀ p ∈ L, j ≤ p.1) : ((Pk.cat L).length / 2 ^ j % 2 = 1 ↔ ∃ c M, L = M ++ [(j, c)]) ∧ (Pk.cat L).length % 2 ^ j = 0 := by
  have hpj : 0 < 2 ^ j := Nat.pow_pos (by decide)
  have dv : ∀ {L : Peaks} {i : Nat}, (∀ p ∈ L, p.2.length = 2 ^ p.1) → (∀ p ∈ L, i ≤ p.1) → 2 ^ i ∣ (Pk.cat L).length := by
    intro L
    induction L with
    | nil => intro i _ _; exact ⟨0, rfl⟩
    | cons p L ih =>
      intro i h1 h2
      rw [Pk.cat_cons, List.length_append, h1 p (by simp)]
      exact Nat.dvd_add (Nat.pow_dvd_pow 2 (h2 p (by simp))) (ih (fun q hq => h1 q (by simp [hq])) fun q hq => h2 q (by simp [hq]))
  refine ⟨⟨fun q => ?_, fun ⟨c, M, e⟩ => ?_⟩, Nat.mod_eq_zero_of_dvd (dv h.1 hj)⟩
  · rcases List.eq_nil_or_concat L with e | ⟨M, p, e⟩
    · rw [e] at q; simp [Pk.cat] at q
    · rw [List.concat_eq_append] at e
      by_cases w : p.1 = j
      · exact ⟨p.2, M, by rw [e, ← w]⟩
      · exfalso
        have hM : ∀ x ∈ L, j + 1 ≤ x.1 := by
          intro x hx
          rw [e] at hx
          have hpj := hj p (by rw [e]; simp)
          rcases List.mem_append.1 hx with hx | hx
          · have hpw := h.2
            rw [e, List.pairwise_append] at hpw
            have := hpw.2.2 x hx p (by simp)
            omega
          · rw [List.mem_singleton.1 hx]; omega
        obtain ⟨t, ht⟩ := dv h.1 hM
        rw [ht, Nat.pow_succ, Nat.mul_assoc, Nat.mul_div_cancel_left _ hpj] at q
        omega
  · have hM : ∀ x ∈ M, j + 1 ≤ x.1 := fun x hx => by
      have hpw := h.2
      rw [e, List.pairwise_append] at hpw
      have := hpw.2.2 x hx (j, c) (by simp)
      have this : j < x.1 := this
      omega
    have hMl : ∀ p ∈ M, p.2.length = 2 ^ p.1 := fun p hp => h.1 p (by rw [e]; simp [hp])
    have hcl : c.length = 2 ^ j := h.1 (j, c) (by rw [e]; simp)
    obtain ⟨t, ht⟩ := dv hMl hM
    have : (Pk.cat L).length = 2 ^ j * (2 * t + 1) := by
      rw [e, Pk.cat_app, List.length_append, ht]
      show 2 ^ (j + 1) * t + (c ++ []).length = _
      rw [List.append_nil, hcl, Nat.pow_succ, Nat.mul_assoc, Nat.mul_add, Nat.mul_one]
    rw [this, Nat.mul_div_cancel_left _ hpj]; omega
theorem Pk.pop {M : Peaks} {j : Nat} {c : List Bts} (h : Pk.ok (M ++ [(j, c)])) : Pk.ok M ∧ (∀ p ∈ M, j + 1 ≤ p.1) ∧ c.length = 2 ^ j := by
  have hpw := h.2
  rw [List.pairwise_append] at hpw
  exact ⟨⟨fun p hp => h.1 p (by simp [hp]), hpw.1⟩, fun p hp => by have : j < p.1 := hpw.2.2 p hp (j, c) (by simp); omega, h.1 (j, c) (by simp)⟩
theorem Pk.push {M : Peaks} {j : Nat} {c : List Bts} (h : Pk.ok M) (hj : ∀ p ∈ M, j ≤ p.1) (hc : c.length = 2 ^ j) (hn : ¬ ∃ c' M', M = M' ++ [(j, c')]) : Pk.ok (M ++ [(j, c)]) := by
  refine ⟨fun p hp => ?_, ?_⟩
  · rcases List.mem_append.1 hp with hp | hp
    · exact h.1 p hp
    · rw [List.mem_singleton.1 hp]; exact hc
  · rw [List.pairwise_append]
    refine ⟨h.2, by simp, fun a ha b hb => ?_⟩
    rw [List.mem_singleton.1 hb]
    show j < a.1
    have h1 := hj a ha
    rcases Nat.lt_or_ge j a.1 with q | q
    · exact q
    · exfalso
      obtain ⟨M1, M2, e⟩ := List.append_of_mem ha
      cases M2 with
      | nil => exact hn ⟨a.2, M1, by rw [e, show j = a.1 by omega]⟩
      | cons b M2 =>
        have hpw := h.2
        rw [e, List.pairwise_append] at hpw
        have h2 := (List.pairwise_cons.1 hpw.2.1).1 b (by simp)
        have h3 := hj b (by rw [e]; simp)
        omega
end Go.Sv
