/- Books: what they answer. -/
import Derived.Test.YtjhnciflgaijjaaBkA
import Derived.Test.YtjhnciflgaijjaaRows
import Derived.Test.YtjhnciflgaijjaaSvBase
namespace Go.Sv.Try
open Go Go.Proofs
set_option linter.unusedVariables false
set_option linter.unusedSimpArgs false
section
variable {A B C : AS} {m : Hp} {Z Z' : Nat → Prop} {bp tp r : Nat} {M : List ((Int × Int) × Nat)} {N L : List Bts} {Hs : List HdP} {fl ft fh : Option Nat} {S : Loc → Prop}
theorem bookFind_spec (h : BkR Z A bp tp r M N L Hs fl ft fh) (who num : Int) :
    EvF Try.prog HH 50 [.ptr bp 0, .int .i64 who, .int .i64 num] A (match lookL M (who, num) with | some i => .tup [.int .i64 (i : Int), .int .i64 0] | none => .tup [.int .i64 0, .int .i64 4]) A := by
  obtain ⟨lv, hv, b1, b2, b3⟩ := h.ex
  have hlk := h.mp.look (P := Try.prog) kNm mtB zIB (who, num) true
  have key : ∃ w A', EvF Try.prog HH 50 [.ptr bp 0, .int .i64 who, .int .i64 num] A w A' ∧ w = (match lookL M (who, num) with | some i => .tup [.int .i64 (i : Int), .int .i64 0] | none => .tup [.int .i64 0, .int .i64 4]) ∧ A' = A := by
    refine run_fn2 rfl Try.func50 (by unfold Try.f50; rfl) Try.ntmps50 (by unfold Try.f50; rfl) (by simp) ?_
    cases hq : lookL M (who, num) with
    | some i =>
      rw [hq] at hlk; simp only [if_true] at hlk
      simp only [RT, Nat.reduceLT, Nat.reduceBEq, Nat.reduceEqDiff, Nat.reduceAdd, Int.reduceEq, Int.reduceLT, Int.reduceLE, Int.reduceGT, Int.reduceGE, faBk, ldBok b1, bldNm, hlk]
    | none =>
      rw [hq] at hlk; simp only [if_true] at hlk
      simp only [RT, Nat.reduceLT, Nat.reduceBEq, Nat.reduceEqDiff, Nat.reduceAdd, Int.reduceEq, Int.reduceLT, Int.reduceLE, Int.reduceGT, Int.reduceGE, faBk, ldBok b1, bldNm, hlk]
  obtain ⟨_, _, k, rfl, rfl⟩ := key
  exact k
theorem bldHd00 : evBuild Try.prog 34 [] = some (.agg (hdC hd0)) := by kernel_rfl
theorem hd0_len : hd0.2.2.length = 32 := rfl
theorem setHd {b : Nat} {x y : HdP} (h : A.blk[b]? = some ⟨hdC x, .var⟩) (hx : x.2.2.length = 32) (hy : y.2.2.length = 32) : ∃ A', evStore Try.prog 34 (.ptr b 0) (.agg (hdC y)) A = some A' ∧ Fr (· = .row b) A A' ∧ A'.blk[b]? = some ⟨hdC y, .var⟩ := by
  obtain ⟨A', s1, s2, s3, s4⟩ := store_var (P := Try.prog) (t := 34) (o := 0) (x := .agg (hdC y)) (cs := hdC y) h rfl (by rw [hdC_len hy]; exact sz34) (by rw [hdC_len hy, hdC_len hx]; decide) (hdC_one y)
  rw [putAt_all (by rw [hdC_len hy, hdC_len hx])] at s3
  exact ⟨A', s1, s2, s3⟩
def headAt (Hs : List HdP) (k : Int) : Option HdP := if k < 1 then none else Hs[(k - 1).toNat]?
set_option maxRecDepth 10000 in
theorem bookHead_spec (hw : WF A) (h : BkR Z A bp tp r M N L Hs fl ft fh) (hH : Hs.length ≤ 1000000) (k : Int) :
    ∃ w A', EvF Try.prog HH 48 [.ptr bp 0, .int .i64 k] A w A' ∧ Fr S0 A A' ∧ (match headAt Hs k with | some x => w = .tup [.agg (hdC x), .int .i64 0] ∧ x.2.2.length = 32 | none => w = .tup [.agg (hdC hd0), .int .i64 4]) := by
  refine run_fn2 rfl Try.func48 (by unfold Try.f48; rfl) Try.ntmps48 (by unfold Try.f48; rfl) (by simp) ?_
  obtain ⟨A1, e1, f1, r1, n1⟩ := new_var A (hdC hd0)
  obtain ⟨b4, hb4⟩ : ∃ b, b = A.blk.length := ⟨_, rfl⟩
  rw [← hb4] at r1
  have h1 := h.fr0 f1
  obtain ⟨lv, hv, b1, b2, b3⟩ := h1.ex
  have hlen := fun B => b3.len (P := Try.prog) Try.underlying23 B
  have fin : ∀ {x : HdP}, x.2.2.length = 32 → ∃ C, evStore Try.prog 34 (.ptr b4 0) (.agg (hdC x)) A1 = some C ∧ evLoad Try.prog 34 (.ptr b4 0) C = some (.agg (hdC x)) ∧ Fr S0 A C := fun {x} hx => by
    obtain ⟨C, s1, s2, s3⟩ := setHd r1 hd0_len hx
    exact ⟨C, s1, (ldHd s3 hx).2.2.2, f1.row_ s2 (by omega)⟩
  by_cases c1 : k < 1
  · have e : headAt Hs k = none := if_pos c1
    obtain ⟨C, s1, s2, s3⟩ := fin hd0_len
    simp only [RT, Nat.reduceLT, Nat.reduceBEq, Nat.reduceEqDiff, Nat.reduceAdd, Int.reduceEq, Int.reduceLT, Int.reduceLE, Int.reduceGT, Int.reduceGE, zcHd, ← e1, ← hb4, decide_eq_true c1, bldHd00, s1, s2]
    rw [e]; exact ⟨s3, trivial⟩
  have e : headAt Hs k = Hs[(k - 1).toNat]? := if_neg c1
  by_cases c2 : k > Hs.length
  · have e2 : Hs[(k - 1).toNat]? = none := List.getElem?_eq_none (by omega)
    obtain ⟨C, s1, s2, s3⟩ := fin hd0_len
    simp only [RT, Nat.reduceLT, Nat.reduceBEq, Nat.reduceEqDiff, Nat.reduceAdd, Int.reduceEq, Int.reduceLT, Int.reduceLE, Int.reduceGT, Int.reduceGE, zcHd, ← e1, ← hb4, decide_eq_false c1, faBk, ldBok b1, hlen, decide_eq_true c2, bldHd00, s1, s2]
    rw [e, e2]; exact ⟨s3, trivial⟩
  obtain ⟨x, hx⟩ := get_lt (l := Hs) (i := (k - 1).toNat) (by omega)
  obtain ⟨b, o, c, g3, g4, g5⟩ := b3.at (P := Try.prog) (k := .i64) (Hp.on_emp A1) Try.underlying23 sz34 ag34 hx
  obtain ⟨rfl, hx32⟩ := eHd_W g5
  obtain ⟨C, s1, s2, s3⟩ := fin hx32
  have hwk : IntKind.i64.wrap (k - 1) = (((k - 1).toNat : Nat) : Int) := by rw [wrapI (by omega) (by omega)]; omega
  simp only [RT, Nat.reduceLT, Nat.reduceBEq, Nat.reduceEqDiff, Nat.reduceAdd, Int.reduceEq, Int.reduceLT, Int.reduceLE, Int.reduceGT, Int.reduceGE, zcHd, ← e1, ← hb4, decide_eq_false c1, faBk, ldBok b1, hlen, decide_eq_false c2, hwk, g3, g4, s1, s2]
  rw [e, hx]; exact ⟨s3, rfl, hx32⟩
end
end Go.Sv.Try
namespace Go.Sv.Try
open Go Go.Proofs
set_option linter.unusedVariables false
set_option linter.unusedSimpArgs false
theorem checkM_ent {w n : Int} {x : Bts} (h1 : 0 ≤ w ∧ w ≤ 1099511627776) (h2 : 0 ≤ n ∧ n ≤ 1099511627776) (h3 : x.length ≤ 131072) : checkM (entM w n x) = 0 := by
  unfold checkM
  rw [if_neg (by simp [entM, msg0]), if_neg ?_, if_neg ?_]
  · simp [entM, msg0, lens, sumOf]; omega
  · simp [entM, msg0, M.nums, numBad]; omega
theorem read_ent {w n : Int} {x : Bts} (h : checkM (entM w n x) = 0) : readMsg (writeB (entM w n x)) = entM w n x ∧ readErr (writeB (entM w n x)) = 0 :=
  rd_ok (read_write (okM_of h) ⟨rfl, by simp [entM, msg0]⟩)
theorem entC_ent {w n : Int} {x : Bts} (h : checkM (entM w n x) = 0) (h1 : w ≤ 15) (h2 : 1 ≤ n) (h3 : x.length ≤ 256) : entC (writeB (entM w n x)) = 0 := by
  obtain ⟨e1, e2⟩ := read_ent h
  refine entC_ok e2 ?_ ?_
  · rw [e1]
    rintro (q | q | q | q | q | q | q | q | q)
    · exact q rfl
    · have : n < 1 := q; omega
    · have : w > 15 := q; omega
    · exact q rfl
    · exact q rfl
    · exact q rfl
    · exact q rfl
    · simp [entM, msg0] at q
    · simp [entM, msg0] at q
  · rw [e1]; show ¬ x.length > 256; omega
theorem entryE_ok {w n : Int} {x : Bts} (h1 : 0 ≤ w ∧ w ≤ 15) (h2 : 1 ≤ n ∧ n ≤ 1099511627776) (h3 : x.length ≤ 256) : entryE w n x = 0 := by
  have h := checkM_ent (w := w) (n := n) (x := x) ⟨h1.1, by omega⟩ ⟨by omega, h2.2⟩ (by omega)
  unfold entryE
  rw [if_neg (by simpa using h)]
  exact entC_ent h h1.2 h2.1 h3
theorem nmOf_ent {w n : Int} {x : Bts} (h : checkM (entM w n x) = 0) : nmOf (writeB (entM w n x)) = (w, n) := by
  unfold nmOf; rw [(read_ent h).1]; rfl
theorem checkM_bat {l : List Bts} (h1 : l.length ≤ 64) (h2 : lens l ≤ 131072) : checkM (batM l) = 0 := by
  unfold checkM
  rw [if_neg (by simp [batM, msg0]), if_neg ?_, if_neg ?_]
  · simp [batM, msg0]; omega
  · simp [batM, msg0, M.nums, numBad]
theorem joinE_ok {l : List Bts} (h1 : l.length ≤ 8) (h2 : lens l ≤ 131072) : joinE l = 0 := by
  unfold joinE
  rw [if_neg (by omega)]
  exact checkM_bat (by omega) h2
theorem split_bat {l : List Bts} (h1 : l.length ≤ 8) (h : checkM (batM l) = 0) : splitB (writeB (batM l)) = l := by
  obtain ⟨e1, e2⟩ := rd_ok (read_write (okM_of h) ⟨rfl, by simp [batM, msg0]⟩)
  unfold splitB
  rw [e1, e2, if_neg]
  · rfl
  · rintro (q | q | q)
    · exact q rfl
    · exact q rfl
    · have : l.length > 8 := q; omega
def kTxt : Bts := [116, 101, 120, 116]
def kEnt : Bts := writeB (entM 3 7 kTxt)
def kEntC : Bts := [1, 1, 0, 0, 1, 3, 5, 0, 0, 1, 7, 7, 0, 0, 4, 116, 101, 120, 116]
theorem kEnt_is : kEnt = kEntC := by
  have d3 : digits 3 = [3] := by rw [digits_pos (by decide)]; show digits 0 ++ _ = _; rw [digits_zero]; rfl
  have d7 : digits 7 = [7] := by rw [digits_pos (by decide)]; show digits 0 ++ _ = _; rw [digits_zero]; rfl
  unfold kEnt writeB fieldList P9
  simp only [entM, msg0, kTxt]
  show _ = _
  rw [show (3 : Int).toNat = 3 from rfl, show (7 : Int).toNat = 7 from rfl, show (0 : Int).toNat = 0 from rfl, d3, d7, digits_zero]
  decide +kernel
theorem kLeaf : (leafH kEntC).head? = some 0 → False := by
  have : (leafH kEntC).head? ≠ some 0 := by decide +kernel
  exact this
theorem kRoot : rootR ([kEnt].map leafH) ≠ z32s := by
  rw [kEnt_is]
  intro q
  have q : leafH kEntC = z32s := q
  exact kLeaf (by rw [q]; rfl)
end Go.Sv.Try
namespace Go.Sv.Try
open Go Go.Proofs
set_option linter.unusedVariables false
set_option linter.unusedSimpArgs false
section
variable {A B C : AS} {m : Hp} {Z Z' : Nat → Prop} {bp tp r : Nat} {M : List ((Int × Int) × Nat)} {N L : List Bts} {Hs : List HdP} {fl ft fh : Option Nat} {S : Loc → Prop}
theorem fam_new {fo : Option Nat} (hw : WF A) (hf : Fr S0 A B) (h : ∀ f, fo = some f → A.blk.length ≤ f) {z : Loc} (hz : inFamO B fo z) : z.newTo A := by
  rcases inFamO_back hf hz with q | q
  · cases fo with
    | none => exact q.elim
    | some f =>
      have hlo := h f rfl
      cases z with
      | row b => obtain ⟨k, base, z1, z2⟩ := q; have := hw b k _ base z1 z2; omega
      | fam g => show A.blk.length ≤ g; rw [show g = f from q]; exact hlo
      | map r => exact q.elim
      | loop r => exact q.elim
      | it r => exact q.elim
  · exact q
theorem bkS_new (hw : WF A) (hf : Fr S0 A B) (h1 : A.blk.length ≤ bp) (h2 : A.blk.length ≤ tp) (h3 : A.maps.length ≤ r) (a1 : ∀ f, fl = some f → A.blk.length ≤ f) (a2 : ∀ f, ft = some f → A.blk.length ≤ f) (a3 : ∀ f, fh = some f → A.blk.length ≤ f) :
    ∀ z, bkS B bp tp r fl ft fh z → z.newTo A := by
  rintro z (q | q | q | q | q | q)
  · subst q; exact h1
  · subst q; exact h2
  · subst q; exact h3
  · exact fam_new hw hf a1 q
  · exact fam_new hw hf a2 q
  · exact fam_new hw hf a3 q
theorem Gr.ge {A : AS} {fo fo' : Option Nat} {n : Nat} (h : Gr A fo fo') (hn : n ≤ A.blk.length) (h0 : ∀ f, fo = some f → n ≤ f) : ∀ f, fo' = some f → n ≤ f := fun f q => by
  rcases h.or q with y | y
  · exact h0 f y
  · omega
theorem bslTxt : bsl Try.prog 44 4 (some [(0, .int .u8 116), (1, .int .u8 101), (2, .int .u8 120), (3, .int .u8 116)]) = some (.newSl (bc kTxt) 4 1) := by kernel_rfl
theorem bslB2 {v w : V} (h : v = .snil ∨ ∃ b o n z, v = .sl b o n z) (h' : w = .snil ∨ ∃ b o n z, w = .sl b o n z) : bsl Try.prog 22 2 (some [(0, v), (1, w)]) = some (.newSl [v, w] 2 1) := by
  rcases h with rfl | ⟨_, _, _, _, rfl⟩ <;> rcases h' with rfl | ⟨_, _, _, _, rfl⟩ <;> kernel_rfl
theorem cnv_same {P : Program} {t e : TypeId} {b o n f base : Nat} {cs : List V} {A : AS} (hu : P.underlying t = some (.slice e)) (he : P.underlying e = some (.int .u8)) (hb : A.blk[b]? = some ⟨cs, .arr f base⟩) : cnv P t t (some (.sl b o (n + 1) 1)) A = some (.val (.sl b o (n + 1) 1)) := by
  unfold cnv
  rw [if_pos rfl]
  simp only [Option.bind_some, evSame, if_true, hu, he, hb, Option.map_some]
theorem kEnt_len : kEnt.length = 19 := by rw [kEnt_is]; rfl
theorem kChk : checkM (entM 3 7 kTxt) = 0 := checkM_ent ⟨by decide, by decide⟩ ⟨by decide, by decide⟩ (by decide)
theorem kEntE : entryE 3 7 kTxt = 0 := entryE_ok ⟨by decide, by decide⟩ ⟨by decide, by decide⟩ (by decide)
theorem kEntC0 : entC kEnt = 0 := entC_ent kChk (by decide) (by decide) (by decide)
theorem kName : nmOf kEnt = (3, 7) := nmOf_ent kChk
theorem kBat : checkM (batM [kEnt, kEnt]) = 0 := checkM_bat (by simp) (by simp [lens, sumOf, kEnt_len])
theorem kJoin : joinE [kEnt, kEnt] = 0 := joinE_ok (by simp) (by simp [lens, sumOf, kEnt_len])
theorem kOne : addE [kEnt] kEnt = [kEnt] := addE_no fun q => by
  have q := q.2.1
  rw [kName] at q
  simp [mapOf, lookL, kName] at q
theorem kAp1 : applyB [] (writeB (batM [kEnt, kEnt])) = [kEnt] := by
  unfold applyB
  rw [split_bat (by simp) kBat]
  show addE (addE [] kEnt) kEnt = _
  have e : addE [] kEnt = [kEnt] := addE_yes kEntC0 rfl (by decide)
  rw [e, kOne]
theorem kAp2 : applyB [kEnt] (writeB (batM [kEnt, kEnt])) = [kEnt] := by
  unfold applyB
  rw [split_bat (by simp) kBat]
  show addE (addE [kEnt] kEnt) kEnt = _
  rw [kOne, kOne]
theorem kFind : lookL (mapOf [kEnt]) (3, 7) = some 0 := by simp [mapOf, lookL, kName]
end
end Go.Sv.Try
namespace Go.Sv.Try
open Go Go.Proofs
set_option linter.unusedVariables false
set_option linter.unusedSimpArgs false
section
variable {A B C : AS} {m : Hp} {Z Z' : Nat → Prop} {bp tp r : Nat} {M : List ((Int × Int) × Nat)} {N L : List Bts} {Hs : List HdP} {fl ft fh : Option Nat} {S : Loc → Prop}
theorem pEqB (b : Nat) : evEq Try.prog 84 (.ptr b 0) .pnil = some false := by kernel_rfl
set_option maxRecDepth 10000 in
set_option maxHeartbeats 32000000 in
theorem bookKeeps_spec (hw : WF A) : ∃ w A', EvF Try.prog HH 33 [] A w A' ∧ w = .bool true ∧ Fr S0 A A' := by
  refine run_fn2 rfl Try.func33 (by unfold Try.f33; rfl) Try.ntmps33 (by unfold Try.f33; rfl) (by simp) ?_
  obtain ⟨A1, e1⟩ : ∃ B, B = A.push ⟨bc kTxt, .arr A.blk.length 0⟩ := ⟨_, rfl⟩
  have f1 : Fr S0 A A1 := by rw [e1]; exact Fr.pushArr A _
  have s1 := new_arrBts A kTxt (sz := 1) rfl
  rw [← e1] at s1
  obtain ⟨b1, hb1⟩ : ∃ b, b = A.blk.length := ⟨_, rfl⟩
  rw [← hb1] at s1 e1
  have r1 : A1.blk[b1]? = some ⟨bc kTxt, .arr b1 0⟩ := by rw [e1, hb1]; exact push_row A _
  obtain ⟨_, A2, k2, f2, u, rfl, u0, u1⟩ := entry_spec (who := 3) (num := 7) (f1.wf hw) (arrHp_on A1) s1 (by decide)
  rw [kEntE] at k2
  have own := u1 kEntE
  have w2 := f2.wf (f1.wf hw)
  have hc1 : cnv Try.prog 44 44 (some (.sl b1 0 4 1)) A1 = some (.val (.sl b1 0 4 1)) := cnv_same (n := 3) Try.underlying44 Try.underlying5 r1
  simp only [RT, Nat.reduceLT, Nat.reduceBEq, Nat.reduceEqDiff, Nat.reduceAdd, Int.reduceEq, Int.reduceLT, Int.reduceLE, Int.reduceGT, Int.reduceGE, bslTxt, ← hb1, ← e1, hc1]
  refine run_call1 k2 ?_
  obtain ⟨A3, e3⟩ : ∃ B, B = A2.push ⟨[u, u], .arr A2.blk.length 0⟩ := ⟨_, rfl⟩
  obtain ⟨b3, hb3⟩ : ∃ b, b = A2.blk.length := ⟨_, rfl⟩
  rw [← hb3] at e3
  have f3 : Fr S0 A2 A3 := by rw [e3, hb3]; exact Fr.pushArr A2 _
  have r3 : A3.blk[b3]? = some ⟨[u, u], .arr b3 0⟩ := by rw [e3, hb3]; exact push_row A2 _
  have hu3 := (own.fr0 f3).arrBts
  have s3 : Slc (eSl eU8) (arrHp A3) (.sl b3 0 2 1) [kEnt, kEnt] := slcV (by unfold arrHp; rw [r3]) rfl rfl fun i x hx => by
    match i, hx with
    | 0, hx => cases hx; exact ⟨_, rfl, hu3⟩
    | 1, hx => cases hx; exact ⟨_, rfl, hu3⟩
    | i + 2, hx => simp at hx
  have w3 := f3.wf w2
  obtain ⟨_, A4, k4, f4, v, rfl, v0, v1⟩ := join_spec w3 (arrHp_on A3) s3 (by simp) (fun b hb => by simp at hb; rw [hb, kEnt_len]; decide)
  rw [kJoin] at k4
  have ownB := v1 kJoin
  have w4 := f4.wf w3
  simp only [RT, Nat.reduceLT, Nat.reduceBEq, Nat.reduceEqDiff, Nat.reduceAdd, Int.reduceEq, Int.reduceLT, Int.reduceLE, Int.reduceGT, Int.reduceGE, bslB2 own.form own.form, ← hb3, ← e3]
  refine run_call1 k4 ?_
  obtain ⟨_, A5, k5, f5, bp, tp, r, ft, rfl, hB, hft, g1, g2, g3⟩ := bookNew_spec (Z := fun _ => False) w4
  simp only [RT, Nat.reduceLT, Nat.reduceBEq, Nat.reduceEqDiff, Nat.reduceAdd, Int.reduceEq, Int.reduceLT, Int.reduceLE, Int.reduceGT, Int.reduceGE]
  refine run_call1 k5 ?_
  have w5 := f5.wf w4
  have hbat := ownB.arrBts
  have hbl : (writeB (batM [kEnt, kEnt])).length ≤ 1800091 := writeB_len (batM_in s3) (okM_of kBat)
  obtain ⟨_, A6, k6, rfl, f6, fl1, ft1, fh1, hB6, a1, a2, a3⟩ := apply_spec w5 (fun f q => q.elim) hB ((arrHp_on A4).fr0 f5) hbat (by omega) (by simp)
  have z1 : ∀ f, (none : Option Nat) = some f → A4.blk.length ≤ f := fun f q => by cases q
  have f46 : Fr S0 A4 A6 := f5.trans f6 fun z q => .inr (bkS_new w4 f5 g1 g2 g3 z1 hft z1 z q)
  rw [kAp1] at hB6 k6
  have w6 := f46.wf w4
  obtain ⟨_, A7, k7, rfl, f7, fl2, ft2, fh2, hB7, b1', b2', b3'⟩ := apply_spec w6 (fun f q => q.elim) hB6 ((arrHp_on A4).fr0 f46) hbat (by omega) (by simp)
  have l5 := f5.len
  have l6 := f46.len
  have f47 : Fr S0 A4 A7 := f46.trans f7 fun z q => .inr (bkS_new w4 f46 g1 g2 g3 (Gr.ge a1 l5 z1) (Gr.ge a2 l5 hft) (Gr.ge a3 l5 z1) z q)
  rw [kAp2] at hB7 k7
  have w7 := f47.wf w4
  have hul := fun B => own.len (P := Try.prog) Try.underlying44 B
  rw [show (writeB (entM 3 7 kTxt)).length = 19 from kEnt_len] at hul
  have v1' : (V.int .i64 ((([kEnt] : List Bts).length : Int) - (([] : List Bts).length : Int))) = .int .i64 1 := rfl
  have v2' : (V.int .i64 ((([kEnt] : List Bts).length : Int) - (([kEnt] : List Bts).length : Int))) = .int .i64 0 := rfl
  rw [v1'] at k6
  rw [v2'] at k7
  simp only [RT, Nat.reduceLT, Nat.reduceBEq, Nat.reduceEqDiff, Nat.reduceAdd, Int.reduceEq, Int.reduceLT, Int.reduceLE, Int.reduceGT, Int.reduceGE, hul, pEqB, decide_eq_false (show ¬ (((19 : Nat) : Int) = 0) by decide)]
  refine run_call1 k6 ?_
  simp only [RT, Nat.reduceLT, Nat.reduceBEq, Nat.reduceEqDiff, Nat.reduceAdd, Int.reduceEq, Int.reduceLT, Int.reduceLE, Int.reduceGT, Int.reduceGE]
  refine run_call1 k7 ?_
  simp only [RT, Nat.reduceLT, Nat.reduceBEq, Nat.reduceEqDiff, Nat.reduceAdd, Int.reduceEq, Int.reduceLT, Int.reduceLE, Int.reduceGT, Int.reduceGE]
  have k8 := bookFind_spec hB7.raw 3 7
  rw [kFind] at k8
  have k8 : EvF Try.prog HH 50 [.ptr bp 0, .int .i64 3, .int .i64 7] A7 (.tup [.int .i64 0, .int .i64 0]) A7 := k8
  refine run_call1 k8 ?_
  obtain ⟨_, A8, k9, f8, y9⟩ := bookHead_spec w7 hB7.raw (by simp) 2
  obtain ⟨rfl, h32⟩ : _ = V.tup [.agg (hdC (2, 1, rootR ([kEnt].map leafH))), .int .i64 0] ∧ (rootR ([kEnt].map leafH)).length = 32 := y9
  have k10 := bookSize_spec (hB7.raw.fr0 f8)
  simp only [RT, Nat.reduceLT, Nat.reduceBEq, Nat.reduceEqDiff, Nat.reduceAdd, Int.reduceEq, Int.reduceLT, Int.reduceLE, Int.reduceGT, Int.reduceGE]
  refine run_call1 k9 ?_
  obtain ⟨A9, t1, f9, t3⟩ := newHd (A := A8) (x := (2, 1, rootR ([kEnt].map leafH))) h32
  obtain ⟨b8, hb8⟩ : ∃ b, b = A8.blk.length := ⟨_, rfl⟩
  rw [← hb8] at t1 t3
  have f79 := f8.then0 f9
  have k10 : EvF Try.prog HH 45 [.ptr bp 0] A9 (.int .i64 1) A9 := bookSize_spec (hB7.raw.fr0 f79)
  have k11 : EvF Try.prog HH 47 [.ptr bp 0] A9 (.int .i64 2) A9 := bookHeight_spec (hB7.raw.fr0 f79)
  have ld := ldHd t3 h32
  have fa := faHd b8
  simp only [RT, Nat.reduceLT, Nat.reduceBEq, Nat.reduceEqDiff, Nat.reduceAdd, Int.reduceEq, Int.reduceLT, Int.reduceLE, Int.reduceGT, Int.reduceGE, zcHd, ← hb8, t1]
  refine run_call1 k10 ?_
  simp only [RT, Nat.reduceLT, Nat.reduceBEq, Nat.reduceEqDiff, Nat.reduceAdd, Int.reduceEq, Int.reduceLT, Int.reduceLE, Int.reduceGT, Int.reduceGE]
  refine run_call1 k11 ?_
  simp only [RT, Nat.reduceLT, Nat.reduceBEq, Nat.reduceEqDiff, Nat.reduceAdd, Int.reduceEq, Int.reduceLT, Int.reduceLE, Int.reduceGT, Int.reduceGE, fa, ld, bldI0, eqI2 h32 (show z32s.length = 32 from rfl), kRoot]
  exact (((f1.then0 f2).then0 f3).then0 f4).then0 (f47.then0 f79)
end
end Go.Sv.Try
namespace Go.Sv.Try
open Go Go.Proofs
set_option linter.unusedVariables false
set_option linter.unusedSimpArgs false
section
variable {A B C : AS} {m : Hp}
theorem ld2 {b : Nat} {x y : Int} {k : BK} (h : A.blk[b]? = some ⟨[.int .i64 x, .int .i64 y], k⟩) : evLoad Try.prog 3 (.ptr b 0) A = some (.int .i64 x) ∧ evLoad Try.prog 3 (.ptr b 1) A = some (.int .i64 y) :=
  ⟨by rw [load_at ag3 h]; rfl, by rw [load_at ag3 h]; rfl⟩
end
end Go.Sv.Try
namespace Go.Sv.Try
open Go Go.Proofs
set_option linter.unusedVariables false
set_option linter.unusedSimpArgs false
section
variable {A B C : AS} {m : Hp}
set_option maxRecDepth 10000 in
set_option maxHeartbeats 32000000 in
theorem bookBatches_spec {v u : V} {l : List Bts} {b : Bts} {most : Int} (hw : WF A) (hm : m.on A) (hl : Slc (eSl eU8) m v l) (hb : Slc eU8 m u b) (hll : l.length ≤ 1000000000) (hlx : ∀ x ∈ l, x.length ≤ 1000000000) (hbl : b.length ≤ 1000000000) :
    ∃ w A', EvF Try.prog HH 7 [v, u, .int .i64 most] A w A' ∧ w = .bool true := by
  refine run_fn2 rfl Try.func7 (by unfold Try.f7; rfl) Try.ntmps7 (by unfold Try.f7; rfl) (by simp) ?_
  obtain ⟨A0, e0, f0, r0, n0⟩ := new_var A [.int .i64 most]
  obtain ⟨b5, hb5⟩ : ∃ b, b = A.blk.length := ⟨_, rfl⟩
  rw [← hb5] at r0 n0
  obtain ⟨A1, e1, f1, r1, n1⟩ := new_var A0 [.bool false]
  obtain ⟨b6, hb6⟩ : ∃ b, b = A0.blk.length := ⟨_, rfl⟩
  rw [← hb6] at r1 n1
  have f01 := f0.then0 f1
  obtain ⟨_, A2, k2, rfl, f2⟩ := bookKeeps_spec (f01.wf hw)
  have f02 := f01.then0 f2
  have w2 := f02.wf hw
  simp only [RT, Nat.reduceLT, Nat.reduceBEq, Nat.reduceEqDiff, Nat.reduceAdd, Int.reduceEq, Int.reduceLT, Int.reduceLE, Int.reduceGT, Int.reduceGE, zc4, ← e0, ← hb5, ← e1, ← hb6]
  refine run_call1 k2 ?_
  obtain ⟨_, A3, k3, f3, u1, rfl, z0, z1⟩ := join_spec w2 (hm.fr0 f02) hl (by omega) (fun x q => by have := hlx x q; omega)
  have w3 := f3.wf w2
  simp only [RT, Nat.reduceLT, Nat.reduceBEq, Nat.reduceEqDiff, Nat.reduceAdd, Int.reduceEq, Int.reduceLT, Int.reduceLE, Int.reduceGT, Int.reduceGE, un_notd]
  refine run_call1 k3 ?_
  have m3 := (hm.fr0 f02).fr0 f3
  obtain ⟨_, A4, k4, f4, rfl⟩ := refJoin_spec w3 m3 hl (by omega) (fun x q => by have := hlx x q; omega)
  have w4 := f4.wf w3
  simp only [RT, Nat.reduceLT, Nat.reduceBEq, Nat.reduceEqDiff, Nat.reduceAdd, Int.reduceEq, Int.reduceLT, Int.reduceLE, Int.reduceGT, Int.reduceGE]
  refine run_call1 k4 ?_
  have m4 := m3.fr0 f4
  have hs : cnv Try.prog 44 9 (some u1) A4 = some (.val (.str (if joinE l = 0 then writeB (batM l) else []))) := by
    by_cases q : joinE l = 0
    · rw [if_pos q]
      exact cnv_text (by decide) ((z1 q).fr0 f4).arrBts (arrHp_on A4) Try.underlying44 Try.underlying5 Try.underlying9
    · rw [if_neg q, z0 q]
      exact cnv_text (m := Hp.emp) (by decide) (.inl ⟨rfl, rfl⟩) (Hp.on_emp _) Try.underlying44 Try.underlying5 Try.underlying9
  have hcb := fun B (q : m.on B) => cnv_text (P := Try.prog) (A := B) (s := 44) (d := 9) (by decide) hb q Try.underlying44 Try.underlying5 Try.underlying9
  simp only [RT, Nat.reduceLT, Nat.reduceBEq, Nat.reduceEqDiff, Nat.reduceAdd, Int.reduceEq, Int.reduceLT, Int.reduceLE, Int.reduceGT, Int.reduceGE, hs, hcb A4 m4]
  obtain ⟨lw, A5, k5, f5, fo, hL, hfo⟩ := refSplit_spec (A := A4) (b := b) w4 (by omega)
  obtain ⟨xs, hxs⟩ : ∃ x, x = splitB b := ⟨_, rfl⟩
  rw [← hxs] at hL
  refine run_call1 k5 ?_
  obtain ⟨A6, s1, f6, s3, s4⟩ := new_set (P := Try.prog) A5 (z := [.snil]) (t := 43) (x := lw) (cs := [lw]) hL.cells1 sz43 rfl (by simp [hL.one])
  obtain ⟨b11, hb11⟩ : ∃ b, b = A5.blk.length := ⟨_, rfl⟩
  rw [← hb11] at s1 s3
  obtain ⟨A7, t1, f7, t3, t4⟩ := new_set (P := Try.prog) A6 (z := [.int .i64 0]) (t := 3) (x := .int .i64 0) (cs := [.int .i64 0]) rfl sz3 rfl rfl
  obtain ⟨b12, hb12⟩ : ∃ b, b = A6.blk.length := ⟨_, rfl⟩
  rw [← hb12] at t1 t3
  have f57 := f6.then0 f7
  have f47 := f5.then0 f57
  have w7 := f47.wf w4
  have m7 := m4.fr0 f47
  obtain ⟨_, A8, k8, f8, be, bm, dv, iv, lv, rfl, q2, q3, q4, q5, q6⟩ := split_spec w7 m7 hb (by omega)
  have f48 := f47.then0 f8
  have hbase := (f2.then0 f3).then0 (f4.then0 f48)
  have r5 : A8.blk[b5]? = _ := hbase.row0 (f1.row0 r0)
  have r6 : A8.blk[b6]? = _ := hbase.row0 r1
  have r11 : A8.blk[b11]? = _ := f8.row0 (f7.row0 s3)
  have r12 : A8.blk[b12]? = _ := f8.row0 t3
  have hL8 := (hL.fr0 f57).fr0 f8
  have lt12 := row_lt t3
  have lt11 := row_lt s3
  have l01 := (f2.then0 f3).then0 (f4.then0 f5)
  have len1 := l01.len
  have hmm := arrHq_on A7.blk.length A8
  obtain ⟨mm, hmmE⟩ : ∃ x, x = arrHq A7.blk.length A8 := ⟨_, rfl⟩
  rw [← hmmE] at hmm q4
  have hS12 : mm b12 = none := by rw [hmmE]; exact arrHq_var r12
  have hx8 : xs.length ≤ 8 := by
    rw [hxs]; unfold splitB
    split
    · simp
    · rename_i q; have : ¬ (readMsg b).list.length > 8 := fun z => q (.inr (.inr z)); omega
  have ne5 : b5 ≠ b12 := by omega
  have ne6 : b6 ≠ b12 := by omega
  have ne11 : b11 ≠ b12 := by omega
  simp only [RT, Nat.reduceLT, Nat.reduceBEq, Nat.reduceEqDiff, Nat.reduceAdd, Int.reduceEq, Int.reduceLT, Int.reduceLE, Int.reduceGT, Int.reduceGE, zc43, ← hb11, s1, zc3, ← hb12, t1]
  refine run_call1 k8 ?_
  simp only [RT, Nat.reduceLT, Nat.reduceBEq, Nat.reduceEqDiff, Nat.reduceAdd, Int.reduceEq, Int.reduceLT, Int.reduceLE, Int.reduceGT, Int.reduceGE]
  obtain ⟨I, hI⟩ : ∃ I : Nat → AS → Prop, I = fun (i : Nat) (B : AS) => B.blk[b5]? = some ⟨[.int .i64 most], .var⟩ ∧ B.blk[b6]? = some ⟨[.bool false], .var⟩ ∧ B.blk[b11]? = some ⟨[lw], .var⟩ ∧ B.blk[b12]? = some ⟨[.int .i64 (i : Int)], .var⟩ ∧ Lst eStr Hp.emp B lw xs fo := ⟨_, rfl⟩
  have hIl : ∀ {i : Nat} {X Y : AS} {l : Nat}, I i X → Fr (· = .loop l) X Y → I i Y := by
    intro i X Y l q z
    rw [hI] at q ⊢
    obtain ⟨h1, h2, h3, h4, h5⟩ := q
    exact ⟨z.row _ _ h1 (fun y => by cases y), z.row _ _ h2 (fun y => by cases y), z.row _ _ h3 (fun y => by cases y), z.row _ _ h4 (fun y => by cases y), h5.fr z (fun b y => by cases y)⟩
  refine run_goes_k (S := (· = .row b12)) (AR := argSp mm) (xs := xs.zipIdx) I (fun B => ∃ k : Nat, I k B ∧ (k = xs.length ∨ (k : Int) = most))
    rfl (fun q => by cases q) ?_ (by rw [hI]; exact ⟨r5, r6, r11, r12, hL8⟩) (fun _ _ _ q z => hIl q z) (fun _ _ ⟨k, q, y⟩ z => ⟨k, hIl q z, y⟩) Try.func7 Try.ntmps7 (by simp) ?_ ?_ ?_
  · intro X hX
    rw [hxs]
    refine split1_goes (hmm.fr0 hX) ?_ (hX.row0 q2) (hX.row0 q3) q4
    rintro c (q | q)
    · cases q; exact hS12
    · cases q
  · rintro i ⟨y, j⟩ X args hi hIX hfX ⟨w, rfl, hy⟩
    have hij : xs[i]? = some y ∧ j = i := by
      rw [List.getElem?_zipIdx] at hi
      cases q : xs[i]? with
      | none => rw [q] at hi; simp at hi
      | some y' => rw [q] at hi; simp at hi; rw [hi.1, hi.2]; exact ⟨rfl, rfl⟩
    obtain ⟨hi', rfl⟩ := hij
    have hy : Slc eU8 mm w y := hy
    have hlt := (List.getElem?_eq_some_iff.1 hi').1
    refine ⟨_, rfl, ?_⟩
    simp only [RT, Nat.reduceLT, Nat.reduceBEq, Nat.reduceEqDiff, Nat.reduceAdd, Int.reduceEq, Int.reduceLT, Int.reduceLE, Int.reduceGT, Int.reduceGE]
    refine ⟨rfl, .refl _ _, fun Y hY => ?_⟩
    have hIY := hIl hIX hY
    rw [hI] at hIY
    obtain ⟨h1, h2, h3, h4, h5⟩ := hIY
    have hmY : mm.on Y := (hmm.fr hfX fun c q => by
      rcases q with q | q
      · cases q; exact hS12
      · cases q).fr hY fun c q => by cases q
    have l12 := load_one (P := Try.prog) (t := 3) ag3 h4
    have l11 := load_one (P := Try.prog) (t := 43) ag43 h3
    have l5 := load_one (P := Try.prog) (t := 3) ag3 h1
    have hlen := h5.len (P := Try.prog) (t := 43) Try.underlying43 Y
    have hcy := cnv_text (P := Try.prog) (A := Y) (s := 44) (d := 9) (by decide) hy hmY Try.underlying44 Try.underlying5 Try.underlying9
    obtain ⟨bb, oo, cc, g3, g4, g5⟩ := h5.at (P := Try.prog) (k := .i64) (Hp.on_emp Y) Try.underlying43 sz9 ag9 hi'
    rw [eStr_W.1 g5] at g4
    have hwi : IntKind.i64.wrap ((j : Int) + 1) = ((j + 1 : Nat) : Int) := by rw [wrapS (by omega)]
    obtain ⟨D, p1, p2, p3, p4⟩ := store_one (P := Try.prog) (t := 3) (x := .int .i64 ((j + 1 : Nat) : Int)) h4 rfl sz3 rfl
    have l12' := load_one (P := Try.prog) (t := 3) ag3 p3
    have l5' := load_one (P := Try.prog) (t := 3) ag3 (p2.row _ _ h1 (fun q => by cases q; exact ne5 rfl))
    have hID : I (j + 1) D := by
      rw [hI]
      exact ⟨p2.row _ _ h1 (fun q => by cases q; exact ne5 rfl), p2.row _ _ h2 (fun q => by cases q; exact ne6 rfl), p2.row _ _ h3 (fun q => by cases q; exact ne11 rfl), p3, h5.fr p2 (.box h4)⟩
    rw [pl_7_12, run_plan_id (by rfl)]
    simp only [RT, Nat.reduceLT, Nat.reduceBEq, Nat.reduceEqDiff, Nat.reduceAdd, Int.reduceEq, Int.reduceLT, Int.reduceLE, Int.reduceGT, Int.reduceGE, l12, l11, hlen, decide_eq_false (show ¬ ((j : Int) ≥ (xs.length : Int)) by omega), hcy, g3, g4]
    simp only [RT, Nat.reduceLT, Nat.reduceBEq, Nat.reduceEqDiff, Nat.reduceAdd, Int.reduceEq, Int.reduceLT, Int.reduceLE, Int.reduceGT, Int.reduceGE, l12, hwi, p1, l12', l5']
    by_cases c : ((j + 1 : Nat) : Int) = most
    · simp only [RT, Nat.reduceLT, Nat.reduceBEq, Nat.reduceEqDiff, Nat.reduceAdd, Int.reduceEq, Int.reduceLT, Int.reduceLE, Int.reduceGT, Int.reduceGE, decide_eq_true c]
      exact ⟨p2, .inr ⟨rfl, j + 1, hID, .inr c⟩⟩
    · simp only [RT, Nat.reduceLT, Nat.reduceBEq, Nat.reduceEqDiff, Nat.reduceAdd, Int.reduceEq, Int.reduceLT, Int.reduceLE, Int.reduceGT, Int.reduceGE, decide_eq_false c]
      exact ⟨p2, .inl ⟨rfl, hID⟩⟩
  · intro X hX
    rw [List.length_zipIdx] at hX
    exact ⟨_, hX, .inl rfl⟩
  rintro X ⟨k, hX, hk⟩ hfX
  rw [hI] at hX
  obtain ⟨h1, h2, h3, h4, h5⟩ := hX
  have l12 := load_one (P := Try.prog) (t := 3) ag3 h4
  have l11 := load_one (P := Try.prog) (t := 43) ag43 h3
  have l5 := load_one (P := Try.prog) (t := 3) ag3 h1
  have hlen := h5.len (P := Try.prog) (t := 43) Try.underlying43 X
  obtain ⟨D, p1, p2, p3, p4⟩ := store_one (P := Try.prog) (t := 4) (x := .bool true) h2 rfl sz4 rfl
  have l6 := load_one (P := Try.prog) (t := 4) ag4 p3
  by_cases c : k = xs.length
  · simp only [RT, Nat.reduceLT, Nat.reduceBEq, Nat.reduceEqDiff, Nat.reduceAdd, Int.reduceEq, Int.reduceLT, Int.reduceLE, Int.reduceGT, Int.reduceGE, l12, l11, hlen, decide_eq_true (show ((k : Int) = (xs.length : Int)) by omega), p1, l6]
  · have c2 : (k : Int) = most := hk.resolve_left c
    simp only [RT, Nat.reduceLT, Nat.reduceBEq, Nat.reduceEqDiff, Nat.reduceAdd, Int.reduceEq, Int.reduceLT, Int.reduceLE, Int.reduceGT, Int.reduceGE, l12, l11, hlen, decide_eq_false (show ¬ ((k : Int) = (xs.length : Int)) by omega), l5, decide_eq_true c2, p1, l6]
end
end Go.Sv.Try
namespace Go.Sv.Try
open Go
theorem bulkW_eq {H : Type} : (∀ d : DataW H, bulkW d ≤ Go.Proofs.Ytjhnciflgaijjaa.Rows.uptoBulk d) ∧ ∀ l : List (DataW H), bulkWs l ≤ Go.Proofs.Ytjhnciflgaijjaa.Rows.uptoBulkAll l := by
  have key : ∀ n : Nat, (∀ d : DataW H, bulkW d ≤ n → bulkW d ≤ Go.Proofs.Ytjhnciflgaijjaa.Rows.uptoBulk d) ∧ ∀ l : List (DataW H), bulkWs l ≤ n → bulkWs l ≤ Go.Proofs.Ytjhnciflgaijjaa.Rows.uptoBulkAll l := by
    intro n
    induction n with
    | zero =>
      refine ⟨fun d h => by omega, fun l h => by omega⟩
    | succ n ih =>
      have hd : ∀ d : DataW H, bulkW d ≤ n + 1 → bulkW d ≤ Go.Proofs.Ytjhnciflgaijjaa.Rows.uptoBulk d := by
        intro d h
        match d, h with
        | .lit (.string b), h => unfold bulkW Go.Proofs.Ytjhnciflgaijjaa.Rows.uptoBulk; exact Nat.le_refl _
        | .lit (.bool b), h => unfold bulkW Go.Proofs.Ytjhnciflgaijjaa.Rows.uptoBulk; exact Nat.le_refl _
        | .lit (.int k b), h => unfold bulkW Go.Proofs.Ytjhnciflgaijjaa.Rows.uptoBulk; exact Nat.le_refl _
        | .lit (.float k b), h => unfold bulkW Go.Proofs.Ytjhnciflgaijjaa.Rows.uptoBulk; exact Nat.le_refl _
        | .lit .nil, h => unfold bulkW Go.Proofs.Ytjhnciflgaijjaa.Rows.uptoBulk; exact Nat.le_refl _
        | .nil, h => unfold bulkW Go.Proofs.Ytjhnciflgaijjaa.Rows.uptoBulk; exact Nat.le_refl _
        | .ptr d, h => unfold bulkW at h ⊢; unfold Go.Proofs.Ytjhnciflgaijjaa.Rows.uptoBulk; have := ih.1 d (by omega); omega
        | .slice a b, h => unfold bulkW at h ⊢; unfold Go.Proofs.Ytjhnciflgaijjaa.Rows.uptoBulk; have := ih.2 a (by omega); have := ih.2 b (by omega); omega
        | .agg a, h => unfold bulkW at h ⊢; unfold Go.Proofs.Ytjhnciflgaijjaa.Rows.uptoBulk; have := ih.2 a (by omega); omega
        | .iface t d, h => unfold bulkW at h ⊢; unfold Go.Proofs.Ytjhnciflgaijjaa.Rows.uptoBulk; have := ih.1 d (by omega); omega
        | .map es, h => unfold bulkW Go.Proofs.Ytjhnciflgaijjaa.Rows.uptoBulk; omega
        | .held x, h => unfold bulkW Go.Proofs.Ytjhnciflgaijjaa.Rows.uptoBulk; exact Nat.le_refl _
      refine ⟨hd, fun l => ?_⟩
      induction l with
      | nil => intro _; unfold bulkWs; omega
      | cons d l ihl => intro h; unfold bulkWs at h ⊢; unfold Go.Proofs.Ytjhnciflgaijjaa.Rows.uptoBulkAll; have := hd d (by omega); have := ihl (by omega); omega
  exact ⟨fun d => (key _).1 d (Nat.le_refl _), fun l => (key _).2 l (Nat.le_refl _)⟩
theorem upto_app {H : Type} : ∀ a b : List (DataW H), Go.Proofs.Ytjhnciflgaijjaa.Rows.uptoBulkAll a ≤ Go.Proofs.Ytjhnciflgaijjaa.Rows.uptoBulkAll (a ++ b)
  | [], b => by unfold Go.Proofs.Ytjhnciflgaijjaa.Rows.uptoBulkAll; omega
  | d :: a, b => by
    have := upto_app a b
    rw [List.cons_append]
    unfold Go.Proofs.Ytjhnciflgaijjaa.Rows.uptoBulkAll
    omega
theorem bulk_small {H : Type} {ds gs : List (DataW H)} (h : Go.Proofs.Ytjhnciflgaijjaa.Rows.uptoSmall H (ds ++ gs) = true) : bulkWs ds ≤ 1048576 := by
  have h1 : Go.Proofs.Ytjhnciflgaijjaa.Rows.uptoBulkAll (ds ++ gs) ≤ 1048576 := of_decide_eq_true h
  exact Nat.le_trans (bulkW_eq.2 ds) (Nat.le_trans (upto_app ds gs) h1)
end Go.Sv.Try
