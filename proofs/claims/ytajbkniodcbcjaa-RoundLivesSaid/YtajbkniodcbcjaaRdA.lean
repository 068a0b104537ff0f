/- Rounds of agreement in memory: what lies where. -/
import Derived.Test.YtajbkniodcbcjaaSvBase
import Derived.Test.YtajbkniodcbcjaaSv4
import Derived.Test.YtajbkniodcbcjaaRd0
namespace Go.Sv.Try
open Go Go.Proofs
set_option linter.unusedVariables false
set_option linter.unusedSimpArgs false
def voteC (x : Bts) : List V := .bool (decide (x ≠ z32)) :: bc x
def rowV (n : Nat) (f : Nat → Bts) : List V := reps n fun w => voteC (f w)
def offC (o : Ofr) : List V := .bool o.there :: .int .i64 o.valid :: bc o.id
def actC (a : Act) : List V := .int .i64 a.kind :: .int .i64 a.round :: .int .i64 a.num :: .int .i64 a.valid :: bc a.id
def timC (f : Nat → Bool) : List V := [.bool (f 0), .bool (f 1), .bool (f 2)]
def rdL (r : Rd) (kv av : V) (cp : Nat) : List (List V) :=
  [[.int .i64 r.n], [.int .i64 r.me], [.int .i64 r.height], [.int .i64 r.now], [.int .i64 r.step], [.int .i64 r.locked], [.int .i64 r.valid], bc r.lock, bc r.best, bc r.fresh,
   reps 12 fun i => offC (r.offers i), [kv], [.ptr cp 0], reps 12 fun i => timC (r.timed i), [av]]
def encR (r : Rd) (kv av : V) (cp : Nat) : List V := (rdL r kv av cp).flatten
def eAct : Enc Act := ⟨36, true, fun _ cs x => cs = actC x ∧ x.id.length = 32, fun h => by rw [h.1]; simp [actC, bc_len, h.2], fun h => by simp at h, fun h => by rw [h.1]; simp only [actC, List.all_cons, bc_one]; rfl, fun _ h => h⟩
theorem eAct_W {m : Hp} {w : V} {x : Act} : eAct.W m w x ↔ w = .agg (actC x) ∧ x.id.length = 32 := by
  unfold Enc.W; rw [if_pos (by rfl)]
  exact ⟨fun ⟨cs, h, h1, h2⟩ => ⟨by rw [h, h1], h2⟩, fun ⟨h, h2⟩ => ⟨_, h, rfl, h2⟩⟩
theorem eId_W {m : Hp} {w : V} {x : Bts} : eId.W m w x ↔ w = .agg (bc x) ∧ x.length = 32 := eB_W
structure Rok (r : Rd) : Prop where
  lock : r.lock.length = 32
  best : r.best.length = 32
  fresh : r.fresh.length = 32
  offers : ∀ i, (r.offers i).id.length = 32
  v : ∀ a b c, (r.v a b c).length = 32
theorem offC_len {o : Ofr} (h : o.id.length = 32) : (offC o).length = 34 := by simp [offC, bc_len, h]
theorem offC_one (o : Ofr) : (offC o).all V.one = true := by simp only [offC, List.all_cons, bc_one]; rfl
theorem actC_len {a : Act} (h : a.id.length = 32) : (actC a).length = 36 := by simp [actC, bc_len, h]
theorem voteC_len {x : Bts} (h : x.length = 32) : (voteC x).length = 33 := by simp [voteC, bc_len, h]
theorem voteC_one (x : Bts) : (voteC x).all V.one = true := by simp only [voteC, List.all_cons, bc_one]; rfl
theorem rdL_lens {r : Rd} {kv av : V} {cp : Nat} (h : Rok r) : (rdL r kv av cp).map List.length = [1, 1, 1, 1, 1, 1, 1, 32, 32, 32, 408, 1, 1, 36, 1] := by
  have h1 := reps_len (n := 12) (k := 34) (f := fun i => offC (r.offers i)) (fun i _ => offC_len (h.offers i))
  have h2 := reps_len (n := 12) (k := 3) (f := fun i => timC (r.timed i)) (fun i _ => rfl)
  simp only [rdL, List.map_cons, List.map_nil, bc_len, h.lock, h.best, h.fresh, h1, h2, List.length_singleton]
theorem faR (b : Nat) : evFieldAddr Try.prog 84 (.ptr b 0) 0 = some (.ptr b 0) ∧ evFieldAddr Try.prog 84 (.ptr b 0) 1 = some (.ptr b 1) ∧ evFieldAddr Try.prog 84 (.ptr b 0) 2 = some (.ptr b 2) ∧ evFieldAddr Try.prog 84 (.ptr b 0) 3 = some (.ptr b 3) ∧ evFieldAddr Try.prog 84 (.ptr b 0) 4 = some (.ptr b 4)
    ∧ evFieldAddr Try.prog 84 (.ptr b 0) 5 = some (.ptr b 5) ∧ evFieldAddr Try.prog 84 (.ptr b 0) 6 = some (.ptr b 6) ∧ evFieldAddr Try.prog 84 (.ptr b 0) 7 = some (.ptr b 7) ∧ evFieldAddr Try.prog 84 (.ptr b 0) 8 = some (.ptr b 39) ∧ evFieldAddr Try.prog 84 (.ptr b 0) 9 = some (.ptr b 71)
    ∧ evFieldAddr Try.prog 84 (.ptr b 0) 10 = some (.ptr b 103) ∧ evFieldAddr Try.prog 84 (.ptr b 0) 11 = some (.ptr b 511) ∧ evFieldAddr Try.prog 84 (.ptr b 0) 12 = some (.ptr b 512) ∧ evFieldAddr Try.prog 84 (.ptr b 0) 13 = some (.ptr b 513) ∧ evFieldAddr Try.prog 84 (.ptr b 0) 14 = some (.ptr b 549) :=
  ⟨by kernel_rfl, by kernel_rfl, by kernel_rfl, by kernel_rfl, by kernel_rfl, by kernel_rfl, by kernel_rfl, by kernel_rfl, by kernel_rfl, by kernel_rfl, by kernel_rfl, by kernel_rfl, by kernel_rfl, by kernel_rfl, by kernel_rfl⟩
theorem faOf (b o : Nat) : evFieldAddr Try.prog 79 (.ptr b o) 0 = some (.ptr b o) ∧ evFieldAddr Try.prog 79 (.ptr b o) 1 = some (.ptr b (o + 1)) ∧ evFieldAddr Try.prog 79 (.ptr b o) 2 = some (.ptr b (o + 2)) := ⟨by kernel_rfl, by kernel_rfl, by kernel_rfl⟩
theorem faVo (b o : Nat) : evFieldAddr Try.prog 96 (.ptr b o) 0 = some (.ptr b o) ∧ evFieldAddr Try.prog 96 (.ptr b o) 1 = some (.ptr b (o + 1)) := ⟨by kernel_rfl, by kernel_rfl⟩
theorem faCo (b : Nat) : evFieldAddr Try.prog 93 (.ptr b 0) 0 = some (.ptr b 0) ∧ evFieldAddr Try.prog 93 (.ptr b 0) 1 = some (.ptr b 1) := ⟨by kernel_rfl, by kernel_rfl⟩
theorem ixOf {b i : Nat} (hi : i < 12) : evIndexAddr Try.prog 80 (.ptr b 103) (.int .i64 (i : Int)) = some (.ptr b (103 + i * 34)) := arr_addr Try.underlying80 sz79 hi
theorem ixTi {b i : Nat} (hi : i < 12) : evIndexAddr Try.prog 82 (.ptr b 513) (.int .i64 (i : Int)) = some (.ptr b (513 + i * 3)) := arr_addr Try.underlying82 sz81 hi
theorem ixTj {b i j : Nat} (hj : j < 3) : evIndexAddr Try.prog 81 (.ptr b (513 + i * 3)) (.int .i64 (j : Int)) = some (.ptr b (513 + i * 3 + j)) := by
  have := arr_addr (P := Try.prog) (b := b) (o := 513 + i * 3) (k := .i64) Try.underlying81 sz4 hj
  rw [Nat.mul_one] at this; exact this
theorem ixVr {b i : Nat} (hi : i < 12) : evIndexAddr Try.prog 91 (.ptr b 1) (.int .i64 (i : Int)) = some (.ptr b (1 + i * 2)) := arr_addr Try.underlying91 sz90 hi
theorem ixVk {b i j : Nat} (hj : j < 2) : evIndexAddr Try.prog 90 (.ptr b (1 + i * 2)) (.int .i64 (j : Int)) = some (.ptr b (1 + i * 2 + j)) := by
  have := arr_addr (P := Try.prog) (b := b) (o := 1 + i * 2) (k := .i64) Try.underlying90 sz89 hj
  rw [Nat.mul_one] at this; exact this
theorem ixVw {b n i : Nat} (hi : i < n) : evIndexAddr Try.prog 89 (.sl b 0 n 33) (.int .i64 (i : Int)) = some (.ptr b (i * 33)) := by
  have := sl_addr (P := Try.prog) (b := b) (o := 0) (k := .i64) (n := n) Try.underlying89 sz96 hi
  rw [Nat.zero_add] at this; exact this
section
variable {A A' : AS} {rp cp : Nat} {r : Rd} {kv av : V} {k : BK}
theorem atR (h : Rok r) {i : Nat} {c : List V} (hi : (rdL r kv av cp)[i]? = some c) : At (encR r kv av cp) (offs [1, 1, 1, 1, 1, 1, 1, 32, 32, 32, 408, 1, 1, 36, 1] i) c := by
  have := At.part hi; rw [rdL_lens h] at this; exact this
theorem ldR (hb : A.blk[rp]? = some ⟨encR r kv av cp, k⟩) (h : Rok r) :
    evLoad Try.prog 3 (.ptr rp 0) A = some (.int .i64 r.n) ∧ evLoad Try.prog 3 (.ptr rp 1) A = some (.int .i64 r.me) ∧ evLoad Try.prog 3 (.ptr rp 2) A = some (.int .i64 r.height) ∧ evLoad Try.prog 3 (.ptr rp 3) A = some (.int .i64 r.now) ∧ evLoad Try.prog 3 (.ptr rp 4) A = some (.int .i64 r.step)
    ∧ evLoad Try.prog 3 (.ptr rp 5) A = some (.int .i64 r.locked) ∧ evLoad Try.prog 3 (.ptr rp 6) A = some (.int .i64 r.valid) ∧ evLoad Try.prog 39 (.ptr rp 7) A = some (.agg (bc r.lock)) ∧ evLoad Try.prog 39 (.ptr rp 39) A = some (.agg (bc r.best)) ∧ evLoad Try.prog 39 (.ptr rp 71) A = some (.agg (bc r.fresh))
    ∧ evLoad Try.prog 26 (.ptr rp 511) A = some kv ∧ evLoad Try.prog 59 (.ptr rp 512) A = some (.ptr cp 0) ∧ evLoad Try.prog 35 (.ptr rp 549) A = some av :=
  ⟨(atR h (i := 0) rfl).load1 hb ag3, (atR h (i := 1) rfl).load1 hb ag3, (atR h (i := 2) rfl).load1 hb ag3, (atR h (i := 3) rfl).load1 hb ag3, (atR h (i := 4) rfl).load1 hb ag3, (atR h (i := 5) rfl).load1 hb ag3, (atR h (i := 6) rfl).load1 hb ag3,
   (atR h (i := 7) rfl).load hb ag39 sz39 (by rw [bc_len, h.lock]), (atR h (i := 8) rfl).load hb ag39 sz39 (by rw [bc_len, h.best]), (atR h (i := 9) rfl).load hb ag39 sz39 (by rw [bc_len, h.fresh]),
   (atR h (i := 11) rfl).load1 hb ag26, (atR h (i := 12) rfl).load1 hb ag59, (atR h (i := 14) rfl).load1 hb ag35⟩
theorem atOf (h : Rok r) {i : Nat} (hi : i < 12) : At (encR r kv av cp) (103 + i * 34) (offC (r.offers i)) :=
  (atR h (i := 10) rfl).trans (At.rep (f := fun i => offC (r.offers i)) (fun i _ => offC_len (h.offers i)) hi)
theorem ldOf (hb : A.blk[rp]? = some ⟨encR r kv av cp, k⟩) (h : Rok r) {i : Nat} (hi : i < 12) :
    evLoad Try.prog 79 (.ptr rp (103 + i * 34)) A = some (.agg (offC (r.offers i))) ∧ evLoad Try.prog 4 (.ptr rp (103 + i * 34)) A = some (.bool (r.offers i).there) :=
  ⟨(atOf h hi).load hb ag79 sz79 (offC_len (h.offers i)),
   ((atOf h hi).trans (o' := 0) (m' := [.bool (r.offers i).there]) ⟨[], .int .i64 (r.offers i).valid :: bc (r.offers i).id, rfl, rfl⟩).load1 hb ag4⟩
theorem atTi (h : Rok r) {i j : Nat} (hi : i < 12) (hj : j < 3) : At (encR r kv av cp) (513 + i * 3 + j) [.bool (r.timed i j)] := by
  refine ((atR h (i := 13) rfl).trans (At.rep (f := fun i => timC (r.timed i)) (k := 3) (fun i _ => rfl) hi)).trans ?_
  match j, hj with
  | 0, _ => exact ⟨[], [.bool (r.timed i 1), .bool (r.timed i 2)], rfl, rfl⟩
  | 1, _ => exact ⟨[.bool (r.timed i 0)], [.bool (r.timed i 2)], rfl, rfl⟩
  | 2, _ => exact ⟨[.bool (r.timed i 0), .bool (r.timed i 1)], [], rfl, rfl⟩
theorem ldTi (hb : A.blk[rp]? = some ⟨encR r kv av cp, k⟩) (h : Rok r) {i j : Nat} (hi : i < 12) (hj : j < 3) : evLoad Try.prog 4 (.ptr rp (513 + i * 3 + j)) A = some (.bool (r.timed i j)) := (atTi h hi hj).load1 hb ag4
theorem stR (hb : A.blk[rp]? = some ⟨encR r kv av cp, .var⟩) (h : Rok r) (i : Nat) {o : Nat} {c cs : List V} {t : TypeId} {x : V} {L' : List (List V)} (hi : (rdL r kv av cp)[i]? = some c) (ho : offs [1, 1, 1, 1, 1, 1, 1, 32, 32, 32, 408, 1, 1, 36, 1] i = o) (hx : x.cells = some cs) (hl : cs.length = c.length)
    (hs : szT Try.prog t = some cs.length) (h1 : cs.all V.one = true) (hL : (rdL r kv av cp).set i cs = L') : ∃ A', evStore Try.prog t (.ptr rp o) x A = some A' ∧ Fr (· = .row rp) A A' ∧ A'.blk[rp]? = some ⟨L'.flatten, .var⟩ := by
  obtain ⟨A', k1, k2, k3, _⟩ := part_store (P := Try.prog) (o := o) (t := t) (L := rdL r kv av cp) hb hi (by rw [rdL_lens h]; exact ho) hx hl hs h1
  exact ⟨A', k1, k2, by rw [k3, hL]⟩
theorem stInt (hb : A.blk[rp]? = some ⟨encR r kv av cp, .var⟩) (h : Rok r) (n : Int) :
    (∃ A', evStore Try.prog 3 (.ptr rp 3) (.int .i64 n) A = some A' ∧ Fr (· = .row rp) A A' ∧ A'.blk[rp]? = some ⟨encR { r with now := n } kv av cp, .var⟩) ∧ (∃ A', evStore Try.prog 3 (.ptr rp 4) (.int .i64 n) A = some A' ∧ Fr (· = .row rp) A A' ∧ A'.blk[rp]? = some ⟨encR { r with step := n } kv av cp, .var⟩)
    ∧ (∃ A', evStore Try.prog 3 (.ptr rp 5) (.int .i64 n) A = some A' ∧ Fr (· = .row rp) A A' ∧ A'.blk[rp]? = some ⟨encR { r with locked := n } kv av cp, .var⟩) ∧ (∃ A', evStore Try.prog 3 (.ptr rp 6) (.int .i64 n) A = some A' ∧ Fr (· = .row rp) A A' ∧ A'.blk[rp]? = some ⟨encR { r with valid := n } kv av cp, .var⟩) :=
  ⟨stR hb h 3 rfl rfl rfl rfl sz3 rfl rfl, stR hb h 4 rfl rfl rfl rfl sz3 rfl rfl, stR hb h 5 rfl rfl rfl rfl sz3 rfl rfl, stR hb h 6 rfl rfl rfl rfl sz3 rfl rfl⟩
theorem szId {x : Bts} (h : x.length = 32) : szT Try.prog 39 = some (bc x).length := by rw [bc_len, h]; exact sz39
theorem stId (hb : A.blk[rp]? = some ⟨encR r kv av cp, .var⟩) (h : Rok r) {x : Bts} (hx : x.length = 32) :
    (∃ A', evStore Try.prog 39 (.ptr rp 7) (.agg (bc x)) A = some A' ∧ Fr (· = .row rp) A A' ∧ A'.blk[rp]? = some ⟨encR { r with lock := x } kv av cp, .var⟩) ∧ (∃ A', evStore Try.prog 39 (.ptr rp 39) (.agg (bc x)) A = some A' ∧ Fr (· = .row rp) A A' ∧ A'.blk[rp]? = some ⟨encR { r with best := x } kv av cp, .var⟩)
    ∧ (∃ A', evStore Try.prog 39 (.ptr rp 71) (.agg (bc x)) A = some A' ∧ Fr (· = .row rp) A A' ∧ A'.blk[rp]? = some ⟨encR { r with fresh := x } kv av cp, .var⟩) :=
  ⟨stR hb h 7 rfl rfl rfl (by rw [bc_len, bc_len, hx, h.lock]) (szId hx) (bc_one x) rfl, stR hb h 8 rfl rfl rfl (by rw [bc_len, bc_len, hx, h.best]) (szId hx) (bc_one x) rfl, stR hb h 9 rfl rfl rfl (by rw [bc_len, bc_len, hx, h.fresh]) (szId hx) (bc_one x) rfl⟩
theorem stKn (hb : A.blk[rp]? = some ⟨encR r kv av cp, .var⟩) (h : Rok r) {w : V} (hw : w.one = true) (l : List Bts) : ∃ A', evStore Try.prog 26 (.ptr rp 511) w A = some A' ∧ Fr (· = .row rp) A A' ∧ A'.blk[rp]? = some ⟨encR { r with known := l } w av cp, .var⟩ :=
  stR hb h 11 rfl rfl (one_cells hw) rfl sz26 (by simp [hw]) rfl
theorem stAc (hb : A.blk[rp]? = some ⟨encR r kv av cp, .var⟩) (h : Rok r) {w : V} (hw : w.one = true) (l : List Act) : ∃ A', evStore Try.prog 35 (.ptr rp 549) w A = some A' ∧ Fr (· = .row rp) A A' ∧ A'.blk[rp]? = some ⟨encR { r with acts := l } kv w cp, .var⟩ :=
  stR hb h 14 rfl rfl (one_cells hw) rfl sz35 (by simp [hw]) rfl
theorem stOf (hb : A.blk[rp]? = some ⟨encR r kv av cp, .var⟩) (h : Rok r) {o : Ofr} (ho : o.id.length = 32) {i : Nat} (hi : i < 12) :
    ∃ A', evStore Try.prog 79 (.ptr rp (103 + i * 34)) (.agg (offC o)) A = some A' ∧ Fr (· = .row rp) A A' ∧ A'.blk[rp]? = some ⟨encR { r with offers := set1 r.offers i o } kv av cp, .var⟩ := by
  have hl := offC_len ho
  have h2 := (atOf (kv := kv) (av := av) (cp := cp) h hi).le
  rw [offC_len (h.offers i)] at h2
  obtain ⟨A', k1, k2, k3, _⟩ := store_var (P := Try.prog) (t := 79) (o := 103 + i * 34) (x := .agg (offC o)) hb rfl (by rw [hl]; exact sz79) (by rw [hl]; exact h2) (offC_one o)
  refine ⟨A', k1, k2, ?_⟩
  have a10 : At (encR r kv av cp) 103 (reps 12 fun i => offC (r.offers i)) := atR h (i := 10) rfl
  rw [k3, putAt_nest a10 (by rw [hl, reps_len (k := 34) (fun i _ => offC_len (h.offers i))]; omega), putAt_rep (k := 34) (fun i _ => offC_len (h.offers i)) hi hl]
  have e := putAt_part (L := rdL r kv av cp) (i := 10) (c' := reps 12 fun j => if j = i then offC o else offC (r.offers j)) rfl (by
    rw [reps_len (k := 34) (fun i _ => offC_len (h.offers i)), reps_len (k := 34)]
    intro j _; split
    · exact hl
    · exact offC_len (h.offers j))
  rw [rdL_lens h] at e
  have e2 : (reps 12 fun j => if j = i then offC o else offC (r.offers j)) = reps 12 fun j => offC (set1 r.offers i o j) := reps_congr fun j _ => by unfold set1; split <;> rfl
  rw [e2] at e ⊢
  exact congrArg (fun c => some (⟨c, .var⟩ : Blk)) e
set_option maxRecDepth 4000 in
theorem stTi (hb : A.blk[rp]? = some ⟨encR r kv av cp, .var⟩) (h : Rok r) {i j : Nat} (hi : i < 12) (hj : j < 3) :
    ∃ A', evStore Try.prog 4 (.ptr rp (513 + i * 3 + j)) (.bool true) A = some A' ∧ Fr (· = .row rp) A A' ∧ A'.blk[rp]? = some ⟨encR { r with timed := set2 r.timed i j true } kv av cp, .var⟩ := by
  have h2 := (atTi (kv := kv) (av := av) (cp := cp) h hi hj).le
  obtain ⟨A', k1, k2, k3, _⟩ := store_var (P := Try.prog) (t := 4) (o := 513 + i * 3 + j) (x := .bool true) hb rfl sz4 h2 rfl
  refine ⟨A', k1, k2, ?_⟩
  have h3 : ∀ i, i < 12 → (timC (r.timed i)).length = 3 := fun _ _ => rfl
  have a13 : At (encR r kv av cp) 513 (reps 12 fun i => timC (r.timed i)) := atR h (i := 13) rfl
  rw [k3, Nat.add_assoc, putAt_nest a13 (by rw [reps_len (k := 3) h3]; simp; omega), putAt_nest (At.rep (k := 3) h3 hi) (by show j + 1 ≤ 3; omega)]
  have e0 : putAt (timC (r.timed i)) j [.bool true] = timC (set2 r.timed i j true i) := by
    match j, hj with
    | 0, _ => simp [putAt, timC, set2]
    | 1, _ => simp [putAt, timC, set2]
    | 2, _ => simp [putAt, timC, set2]
  rw [e0, putAt_rep (k := 3) h3 hi (by rfl)]
  have e := putAt_part (L := rdL r kv av cp) (i := 13) (c' := reps 12 fun a => if a = i then timC (set2 r.timed i j true i) else timC (r.timed a)) rfl (by
    rw [reps_len (k := 3) h3, reps_len (k := 3)]
    intro a _; split <;> rfl)
  rw [rdL_lens h] at e
  have e2 : (reps 12 fun a => if a = i then timC (set2 r.timed i j true i) else timC (r.timed a)) = reps 12 fun a => timC (set2 r.timed i j true a) := reps_congr fun a _ => by
    split
    · rename_i q; rw [q]
    · rename_i q; unfold timC set2; simp [q]
  rw [e2] at e ⊢
  exact congrArg (fun c => some (⟨c, .var⟩ : Blk)) e
end
end Go.Sv.Try
namespace Go.Sv.Try
open Go Go.Proofs
set_option linter.unusedVariables false
set_option linter.unusedSimpArgs false
def cntL (n : Nat) (vb : Nat → Nat) : List (List V) := [[.int .i64 n], reps 24 fun j => [.sl (vb j) 0 n 33]]
def encC (n : Nat) (vb : Nat → Nat) : List V := (cntL n vb).flatten
structure IsCnt (A : AS) (cp n : Nat) (v : Vt) (vb : Nat → Nat) : Prop where
  box : A.blk[cp]? = some ⟨encC n vb, .var⟩
  row : ∀ j, j < 24 → A.blk[vb j]? = some ⟨rowV n (v (j / 2) (j % 2)), .arr (vb j) 0⟩
  sole : ∀ j, j < 24 → Sole A (vb j) (vb j)
  inj : ∀ i j, i < 24 → j < 24 → vb i = vb j → i = j
  ok : okN n
  len : ∀ a b c, (v a b c).length = 32
def vbS (vb : Nat → Nat) : Loc → Prop := fun x => ∃ j, j < 24 ∧ x = .row (vb j)
theorem IsCnt.fr {A A' : AS} {cp n : Nat} {v : Vt} {vb : Nat → Nat} {S : Loc → Prop} (h : IsCnt A cp n v vb) (hf : Fr S A A') (h1 : ¬ S (.row cp)) (h2 : ∀ j, j < 24 → ¬ S (.row (vb j)) ∧ ¬ S (.fam (vb j))) : IsCnt A' cp n v vb :=
  { h with box := hf.row _ _ h.box h1, row := fun j hj => hf.row _ _ (h.row j hj) (h2 j hj).1, sole := fun j hj => (h.sole j hj).fr hf (h2 j hj).2 }
theorem IsCnt.fr0 {A A' : AS} {cp n : Nat} {v : Vt} {vb : Nat → Nat} (h : IsCnt A cp n v vb) (hf : Fr S0 A A') : IsCnt A' cp n v vb := h.fr hf (fun q => q) fun _ _ => ⟨fun q => q, fun q => q⟩
section
variable {A A' : AS} {cp n : Nat} {v : Vt} {vb : Nat → Nat}
theorem cntL_lens : (cntL n vb).map List.length = [1, 24] := by
  have := reps_len (n := 24) (k := 1) (f := fun j => [V.sl (vb j) 0 n 33]) (fun _ _ => rfl)
  simp only [cntL, List.map_cons, List.map_nil, this, List.length_singleton]
theorem ldC (h : IsCnt A cp n v vb) : evLoad Try.prog 3 (.ptr cp 0) A = some (.int .i64 n) := by
  have := At.part (L := cntL n vb) (i := 0) rfl
  rw [cntL_lens] at this
  exact At.load1 h.box this ag3
theorem ldS (h : IsCnt A cp n v vb) {i j : Nat} (hi : i < 12) (hj : j < 2) : evLoad Try.prog 89 (.ptr cp (1 + i * 2 + j)) A = some (.sl (vb (i * 2 + j)) 0 n 33) := by
  have h1 := At.part (L := cntL n vb) (i := 1) rfl
  rw [cntL_lens] at h1
  have h2 := h1.trans (At.rep (n := 24) (k := 1) (f := fun j => [V.sl (vb j) 0 n 33]) (fun _ _ => rfl) (i := i * 2 + j) (by omega))
  rw [Nat.mul_one, show offs [1, 24] 1 + (i * 2 + j) = 1 + i * 2 + j by show 1 + (i * 2 + j) = _; omega] at h2
  exact At.load1 h.box h2 ag89
theorem rowIx (h : IsCnt A cp n v vb) {i j : Nat} (hi : i < 12) (hj : j < 2) : A.blk[vb (i * 2 + j)]? = some ⟨rowV n (v i j), .arr (vb (i * 2 + j)) 0⟩ := by
  have := h.row (i * 2 + j) (by omega)
  rw [show (i * 2 + j) / 2 = i by omega, show (i * 2 + j) % 2 = j by omega] at this
  exact this
theorem atV {f : Nat → Bts} (hl : ∀ w, (f w).length = 32) {w : Nat} (hw : w < n) : At (rowV n f) (w * 33) (voteC (f w)) := At.rep (f := fun w => voteC (f w)) (fun i _ => voteC_len (hl i)) hw
theorem ldV {b : Nat} {k : BK} {f : Nat → Bts} (hb : A.blk[b]? = some ⟨rowV n f, k⟩) (hl : ∀ w, (f w).length = 32) {w : Nat} (hw : w < n) :
    evLoad Try.prog 96 (.ptr b (w * 33)) A = some (.agg (voteC (f w))) ∧ evLoad Try.prog 4 (.ptr b (w * 33)) A = some (.bool (decide (f w ≠ z32))) ∧ evLoad Try.prog 39 (.ptr b (w * 33 + 1)) A = some (.agg (bc (f w))) :=
  ⟨(atV hl hw).load hb ag96 sz96 (voteC_len (hl w)),
   ((atV hl hw).trans (o' := 0) (m' := [.bool (decide (f w ≠ z32))]) ⟨[], bc (f w), rfl, rfl⟩).load1 hb ag4,
   ((atV hl hw).trans (o' := 1) (m' := bc (f w)) ⟨[.bool (decide (f w ≠ z32))], [], by simp [voteC], rfl⟩).load hb ag39 sz39 (by rw [bc_len, hl w])⟩
theorem nil_spec : ∃ w A', EvF Try.prog HH 26 [] A w A' ∧ w = .agg (bc n32) ∧ Fr S0 A A' := by
  refine run_fn2 rfl Try.func26 (by unfold Try.f26; rfl) Try.ntmps26 (by unfold Try.f26; rfl) (by simp) ?_
  have b0 : evBuild Try.prog 39 [(31, .int .u8 1)] = some (.agg (bc n32)) := by kernel_rfl
  obtain ⟨A2, s1, s2, s3, s4⟩ := new_set (P := Try.prog) A (z := bc z32) (t := 39) (x := .agg (bc n32)) (cs := bc n32) rfl sz39 rfl (bc_one _)
  have zc : (zeroT Try.prog 39).bind V.cells = some (bc z32) := zc39
  have ld := At.load s3 (At.all _) ag39 sz39 rfl
  simp only [RT, Nat.reduceLT, Nat.reduceBEq, Nat.reduceEqDiff, Nat.reduceAdd, Int.reduceEq, Int.reduceLT, Int.reduceLE, Int.reduceGT, Int.reduceGE, zc, b0, s1, ld]
  exact s2
theorem faults_spec {n : Int} (h0 : -9223372036854775808 ≤ n) (h1 : n ≤ 9223372036854775807) : ∃ w A', EvF Try.prog HH 10 [.int .i64 n] A w A' ∧ A' = A ∧ w = .int .i64 (fltsI n) := by
  refine run_fn2 rfl Try.func10 (by unfold Try.f10; rfl) Try.ntmps10 (by unfold Try.f10; rfl) (by simp) ?_
  unfold fltsI
  by_cases q1 : n = 1
  · subst q1; simp only [RT, Nat.reduceLT, Nat.reduceBEq, Nat.reduceEqDiff, Nat.reduceAdd, Int.reduceEq, Int.reduceLT, Int.reduceLE, Int.reduceGT, Int.reduceGE, bi_quo]; rfl
  by_cases q4 : n = 4
  · subst q4; simp only [RT, Nat.reduceLT, Nat.reduceBEq, Nat.reduceEqDiff, Nat.reduceAdd, Int.reduceEq, Int.reduceLT, Int.reduceLE, Int.reduceGT, Int.reduceGE, bi_quo]; rfl
  by_cases q7 : n = 7
  · subst q7; simp only [RT, Nat.reduceLT, Nat.reduceBEq, Nat.reduceEqDiff, Nat.reduceAdd, Int.reduceEq, Int.reduceLT, Int.reduceLE, Int.reduceGT, Int.reduceGE, bi_quo]; rfl
  have d1 : decide (¬ n = 1) = true := decide_eq_true q1
  have d4 : decide (¬ n = 4) = true := decide_eq_true q4
  have d7 : decide (¬ n = 7) = true := decide_eq_true q7
  simp only [RT, Nat.reduceLT, Nat.reduceBEq, Nat.reduceEqDiff, Nat.reduceAdd, Int.reduceEq, Int.reduceLT, Int.reduceLE, Int.reduceGT, Int.reduceGE, d1, d4, d7]
  rw [if_pos ⟨q1, q4, q7⟩]
theorem need_spec {n : Nat} (h : okN n) : ∃ w A', EvF Try.prog HH 38 [.int .i64 (n : Int)] A w A' ∧ A' = A ∧ w = .int .i64 (need n) := by
  refine run_fn2 rfl Try.func38 (by unfold Try.f38; rfl) Try.ntmps38 (by unfold Try.f38; rfl) (by simp) ?_
  simp only [RT, Nat.reduceLT, Nat.reduceBEq, Nat.reduceEqDiff, Nat.reduceAdd, Int.reduceEq, Int.reduceLT, Int.reduceLE, Int.reduceGT, Int.reduceGE]
  obtain ⟨_, _, k1, rfl, rfl⟩ := faults_spec (A := A) (n := n) (by omega) (by unfold okN at h; omega)
  refine run_call1 k1 ?_
  rw [flts_ok h]
  simp only [RT, Nat.reduceLT, Nat.reduceBEq, Nat.reduceEqDiff, Nat.reduceAdd, Int.reduceEq, Int.reduceLT, Int.reduceLE, Int.reduceGT, Int.reduceGE]
  rcases h with rfl | rfl | rfl <;> rfl
theorem right_spec (h : IsCnt A cp n v vb) (r k w : Int) : ∃ x A', EvF Try.prog HH 34 [.ptr cp 0, .int .i64 r, .int .i64 k, .int .i64 w] A x A' ∧ A' = A ∧ x = .bool (decide (right n r k w)) := by
  refine run_fn2 rfl Try.func34 (by unfold Try.f34; rfl) Try.ntmps34 (by unfold Try.f34; rfl) (by simp) ?_
  have ld := ldC h
  have fa := (faCo cp).1
  simp only [RT, Nat.reduceLT, Nat.reduceBEq, Nat.reduceEqDiff, Nat.reduceAdd, Int.reduceEq, Int.reduceLT, Int.reduceLE, Int.reduceGT, Int.reduceGE]
  by_cases q1 : 0 ≤ r
  rotate_left
  · have e : ¬ right n r k w := fun q => q1 q.1
    simp only [RT, Nat.reduceLT, Nat.reduceBEq, Nat.reduceEqDiff, Nat.reduceAdd, Int.reduceEq, Int.reduceLT, Int.reduceLE, Int.reduceGT, Int.reduceGE, decide_eq_false (show ¬ r ≥ 0 from q1), decide_eq_false e]
  by_cases q2 : r < 12
  rotate_left
  · have e : ¬ right n r k w := fun q => q2 q.2.1
    simp only [RT, Nat.reduceLT, Nat.reduceBEq, Nat.reduceEqDiff, Nat.reduceAdd, Int.reduceEq, Int.reduceLT, Int.reduceLE, Int.reduceGT, Int.reduceGE, decide_eq_true (show r ≥ 0 from q1), decide_eq_false q2, decide_eq_false e]
  have d1 := decide_eq_true (show r ≥ 0 from q1)
  have d2 := decide_eq_true q2
  by_cases q3 : k = 0 ∨ k = 1
  rotate_left
  · have e : ¬ right n r k w := fun q => q3 q.2.2.1
    have d3 : decide (k = 0) = false := decide_eq_false (by omega)
    have d4 : decide (k = 1) = false := decide_eq_false (by omega)
    simp only [RT, Nat.reduceLT, Nat.reduceBEq, Nat.reduceEqDiff, Nat.reduceAdd, Int.reduceEq, Int.reduceLT, Int.reduceLE, Int.reduceGT, Int.reduceGE, d1, d2, d3, d4, decide_eq_false e]
  by_cases q4 : 0 ≤ w
  rotate_left
  · have e : ¬ right n r k w := fun q => q4 q.2.2.2.1
    have d5 := decide_eq_false (show ¬ w ≥ 0 from q4)
    rcases q3 with rfl | rfl
    · simp only [RT, Nat.reduceLT, Nat.reduceBEq, Nat.reduceEqDiff, Nat.reduceAdd, Int.reduceEq, Int.reduceLT, Int.reduceLE, Int.reduceGT, Int.reduceGE, d1, d2, d5, decide_eq_false e]
    · simp only [RT, Nat.reduceLT, Nat.reduceBEq, Nat.reduceEqDiff, Nat.reduceAdd, Int.reduceEq, Int.reduceLT, Int.reduceLE, Int.reduceGT, Int.reduceGE, d1, d2, d5, decide_eq_false e]
  have d5 := decide_eq_true (show w ≥ 0 from q4)
  have e : (right n r k w) = (w < (n : Int)) := propext ⟨fun q => q.2.2.2.2, fun q => ⟨q1, q2, q3, q4, q⟩⟩
  rcases q3 with rfl | rfl
  · simp only [RT, Nat.reduceLT, Nat.reduceBEq, Nat.reduceEqDiff, Nat.reduceAdd, Int.reduceEq, Int.reduceLT, Int.reduceLE, Int.reduceGT, Int.reduceGE, d1, d2, d5, fa, ld, e]
  · simp only [RT, Nat.reduceLT, Nat.reduceBEq, Nat.reduceEqDiff, Nat.reduceAdd, Int.reduceEq, Int.reduceLT, Int.reduceLE, Int.reduceGT, Int.reduceGE, d1, d2, d5, fa, ld, e]
end
end Go.Sv.Try
namespace Go.Sv.Try
open Go Go.Proofs
set_option linter.unusedVariables false
set_option linter.unusedSimpArgs false
theorem bldZ : evBuild Try.prog 39 [] = some (.agg (bc z32)) := by kernel_rfl
theorem bldVoG (g : Nat → V) : evBuild Try.prog 96 [(0, .bool true), (1, .agg ((List.range 32).map g))] = some (.agg (.bool true :: (List.range 32).map g)) := by kernel_rfl
theorem bldVo {x : Bts} (h : x.length = 32) : evBuild Try.prog 96 [(0, .bool true), (1, .agg (bc x))] = some (.agg (.bool true :: bc x)) := by
  obtain ⟨g, hg⟩ := cells_fun (l := bc x) (n := 32) (by rw [bc_len, h])
  rw [hg]; exact bldVoG g
theorem bldOfG (g : Nat → V) (n : Int) : evBuild Try.prog 79 [(0, .bool true), (1, .int .i64 n), (2, .agg ((List.range 32).map g))] = some (.agg (.bool true :: .int .i64 n :: (List.range 32).map g)) := by kernel_rfl
theorem bldOf {x : Bts} (h : x.length = 32) (n : Int) : evBuild Try.prog 79 [(0, .bool true), (1, .int .i64 n), (2, .agg (bc x))] = some (.agg (offC ⟨true, n, x⟩)) := by
  obtain ⟨g, hg⟩ := cells_fun (l := bc x) (n := 32) (by rw [bc_len, h])
  unfold offC; simp only []; rw [hg]; exact bldOfG g n
theorem bldA1G (g : Nat → V) (R v : Int) : evBuild Try.prog 42 [(0, .int .i64 1), (1, .int .i64 R), (3, .int .i64 v), (4, .agg ((List.range 32).map g))] = some (.agg (.int .i64 1 :: .int .i64 R :: .int .i64 0 :: .int .i64 v :: (List.range 32).map g)) := by kernel_rfl
theorem bldA1 {x : Bts} (h : x.length = 32) (R v : Int) : evBuild Try.prog 42 [(0, .int .i64 1), (1, .int .i64 R), (3, .int .i64 v), (4, .agg (bc x))] = some (.agg (actC ⟨1, R, 0, v, x⟩)) := by
  obtain ⟨g, hg⟩ := cells_fun (l := bc x) (n := 32) (by rw [bc_len, h])
  unfold actC; simp only []; rw [hg]; exact bldA1G g R v
theorem bldA2G (g : Nat → V) (R k : Int) : evBuild Try.prog 42 [(0, .int .i64 2), (1, .int .i64 R), (2, .int .i64 k), (4, .agg ((List.range 32).map g))] = some (.agg (.int .i64 2 :: .int .i64 R :: .int .i64 k :: .int .i64 0 :: (List.range 32).map g)) := by kernel_rfl
theorem bldA2 {x : Bts} (h : x.length = 32) (R k : Int) : evBuild Try.prog 42 [(0, .int .i64 2), (1, .int .i64 R), (2, .int .i64 k), (4, .agg (bc x))] = some (.agg (actC ⟨2, R, k, 0, x⟩)) := by
  obtain ⟨g, hg⟩ := cells_fun (l := bc x) (n := 32) (by rw [bc_len, h])
  unfold actC; simp only []; rw [hg]; exact bldA2G g R k
theorem bldA3 (R k : Int) : evBuild Try.prog 42 [(0, .int .i64 3), (1, .int .i64 R), (2, .int .i64 k)] = some (.agg (actC ⟨3, R, k, 0, z32⟩)) := by kernel_rfl
theorem bldA4G (g : Nat → V) (R : Int) : evBuild Try.prog 42 [(0, .int .i64 4), (1, .int .i64 R), (4, .agg ((List.range 32).map g))] = some (.agg (.int .i64 4 :: .int .i64 R :: .int .i64 0 :: .int .i64 0 :: (List.range 32).map g)) := by kernel_rfl
theorem bldA4 {x : Bts} (h : x.length = 32) (R : Int) : evBuild Try.prog 42 [(0, .int .i64 4), (1, .int .i64 R), (4, .agg (bc x))] = some (.agg (actC ⟨4, R, 0, 0, x⟩)) := by
  obtain ⟨g, hg⟩ := cells_fun (l := bc x) (n := 32) (by rw [bc_len, h])
  unfold actC; simp only []; rw [hg]; exact bldA4G g R
theorem eqZ {x y : Bts} (hx : x.length = 32) (hy : y.length = 32) : evEq Try.prog 39 (.agg (bc x)) (.agg (bc y)) = some (decide (x = y)) :=
  eq_bytes (n := 32) (by kernel_rfl) ag39 (by kernel_rfl) hx hy
theorem ldId {A : AS} {b : Nat} {k : BK} {x : Bts} (h : A.blk[b]? = some ⟨bc x, k⟩) (hx : x.length = 32) : evLoad Try.prog 39 (.ptr b 0) A = some (.agg (bc x)) := At.load h (At.all _) ag39 sz39 (by rw [bc_len, hx])
theorem newId {A : AS} {x : Bts} (hx : x.length = 32) : ∃ A', evStore Try.prog 39 (.ptr A.blk.length 0) (.agg (bc x)) (A.push ⟨bc z32, .var⟩) = some A' ∧ Fr S0 A A' ∧ A'.blk[A.blk.length]? = some ⟨bc x, .var⟩ := by
  obtain ⟨A2, s1, s2, s3, s4⟩ := new_set (P := Try.prog) A (z := bc z32) (t := 39) (x := .agg (bc x)) (cs := bc x) rfl (szId hx) (by rw [bc_len, bc_len, hx]; rfl) (bc_one _)
  exact ⟨A2, s1, s2, s3⟩
theorem setId {A : AS} {b : Nat} {x y : Bts} (h : A.blk[b]? = some ⟨bc x, .var⟩) (hx : x.length = 32) (hy : y.length = 32) : ∃ A', evStore Try.prog 39 (.ptr b 0) (.agg (bc y)) A = some A' ∧ Fr (· = .row b) A A' ∧ A'.blk[b]? = some ⟨bc y, .var⟩ := by
  obtain ⟨A', s1, s2, s3, s4⟩ := store_var (P := Try.prog) (t := 39) (o := 0) (x := .agg (bc y)) (cs := bc y) h rfl (szId hy) (by rw [bc_len, bc_len]; omega) (bc_one _)
  exact ⟨A', s1, s2, by rw [s3, putAt_all (by rw [bc_len, bc_len, hx, hy])]⟩
theorem zcI : (zeroT Try.prog 39).bind V.cells = some (bc z32) := zc39
section
variable {A A' : AS} {cp n : Nat} {v : Vt} {vb : Nat → Nat}
theorem rowV_upd {f : Nat → Bts} (hl : ∀ w, (f w).length = 32) {w : Nat} (hw : w < n) {x : Bts} (hx : x.length = 32) (hz : x ≠ z32) : putAt (rowV n f) (w * 33) (.bool true :: bc x) = rowV n (fun c => if c = w then x else f c) := by
  have e : (.bool true :: bc x : List V) = voteC x := by unfold voteC; rw [decide_eq_true hz]
  unfold rowV
  rw [e, putAt_rep (k := 33) (fun i _ => voteC_len (hl i)) hw (voteC_len hx)]
  exact reps_congr fun c _ => by by_cases q : c = w <;> simp [q]
set_option maxHeartbeats 4000000 in
theorem put_spec (hW : WF A) (h : IsCnt A cp n v vb) (r k w : Int) {id : Bts} (hid : id.length = 32) : ∃ x A', EvF Try.prog HH 23 [.ptr cp 0, .int .i64 r, .int .i64 k, .int .i64 w, .agg (bc id)] A x A' ∧ Fr (vbS vb) A A' ∧ x = .int .i64 (putC n v r k w id) ∧ IsCnt A' cp n (putV n v r k w id) vb := by
  refine run_fn2 rfl Try.func23 (by unfold Try.f23; rfl) Try.ntmps23 (by unfold Try.f23; rfl) (by simp) ?_
  simp only [RT, Nat.reduceLT, Nat.reduceBEq, Nat.reduceEqDiff, Nat.reduceAdd, Int.reduceEq, Int.reduceLT, Int.reduceLE, Int.reduceGT, Int.reduceGE]
  obtain ⟨A1, e1, f1, r1, n1⟩ := new_var A (bc id)
  rw [← e1]
  have h1 := h.fr0 f1
  obtain ⟨_, _, k1, hA, rfl⟩ := right_spec h1 r k w
  rw [hA] at k1
  refine run_call1 k1 ?_
  have ld1 := ldId r1 hid
  have f1' : Fr (vbS vb) A A1 := f1.mono fun _ q => q.elim
  by_cases q : right n r k w
  rotate_left
  · have e : putC n v r k w id = 1 := by unfold putC; rw [if_pos (.inl q)]
    simp only [RT, Nat.reduceLT, Nat.reduceBEq, Nat.reduceEqDiff, Nat.reduceAdd, Int.reduceEq, Int.reduceLT, Int.reduceLE, Int.reduceGT, Int.reduceGE, decide_eq_false q]
    exact ⟨f1', by rw [e], by unfold putV; rw [e, if_neg (by omega)]; exact h1⟩
  by_cases qz : id = z32
  · have e : putC n v r k w id = 1 := by unfold putC; rw [if_pos (.inr qz)]
    simp only [RT, Nat.reduceLT, Nat.reduceBEq, Nat.reduceEqDiff, Nat.reduceAdd, Int.reduceEq, Int.reduceLT, Int.reduceLE, Int.reduceGT, Int.reduceGE, decide_eq_true q, ld1, bldZ, eqZ hid z32_len, decide_eq_true qz]
    exact ⟨f1', by rw [e], by unfold putV; rw [e, if_neg (by omega)]; exact h1⟩
  obtain ⟨i, rfl⟩ := Int.eq_ofNat_of_zero_le q.1
  obtain ⟨w, rfl⟩ := Int.eq_ofNat_of_zero_le q.2.2.2.1
  obtain ⟨j, hj, rfl⟩ : ∃ j : Nat, j < 2 ∧ k = j := by rcases q.2.2.1 with rfl | rfl; exact ⟨0, by omega, rfl⟩; exact ⟨1, by omega, rfl⟩
  have hi : i < 12 := by have := q.2.1; omega
  have hw : w < n := by have := q.2.2.2.2; omega
  have hrow := rowIx h1 hi hj
  have hl := fun w => h1.len i j w
  have ld := ldV hrow hl hw
  have e0 : putC n v i j w id = if v i j w ≠ z32 then 5 else 0 := by
    unfold putC; rw [if_neg (by rintro (z | z); exact z q; exact qz z)]; rfl
  by_cases qc : v i j w ≠ z32
  · rw [if_pos qc] at e0
    simp only [RT, Nat.reduceLT, Nat.reduceBEq, Nat.reduceEqDiff, Nat.reduceAdd, Int.reduceEq, Int.reduceLT, Int.reduceLE, Int.reduceGT, Int.reduceGE, decide_eq_true q, ld1, bldZ, eqZ hid z32_len, decide_eq_false qz, faCo cp, ixVr hi, ixVk hj, ldS h1 hi hj, ixVw hw, faVo _ _, ld, decide_eq_true qc]
    exact ⟨f1', by rw [e0], by unfold putV; rw [e0, if_neg (by omega)]; exact h1⟩
  · rw [if_neg qc] at e0
    have hj24 : i * 2 + j < 24 := by omega
    have hat := (atV hl hw).le
    rw [voteC_len (hl w)] at hat
    have hbl : (.bool true :: bc id : List V).length = 33 := by simp [bc_len, hid]
    obtain ⟨A2, s1, s2, s3, s4, s5⟩ := store_sole (P := Try.prog) (t := 96) (o := w * 33) (x := .agg (.bool true :: bc id)) (h1.sole _ hj24) hrow rfl (by rw [hbl]; exact sz96) (by rw [hbl]; exact hat) (by simp only [List.all_cons, bc_one]; rfl)
    rw [rowV_upd hl hw hid qz] at s3
    simp only [RT, Nat.reduceLT, Nat.reduceBEq, Nat.reduceEqDiff, Nat.reduceAdd, Int.reduceEq, Int.reduceLT, Int.reduceLE, Int.reduceGT, Int.reduceGE, decide_eq_true q, ld1, bldZ, eqZ hid z32_len, decide_eq_false qz, faCo cp, ixVr hi, ixVk hj, ldS h1 hi hj, ixVw hw, faVo _ _, ld, decide_eq_false qc]
    rw [pl_23_5, run_plan_id (by rfl)]
    simp only [RT, Nat.reduceLT, Nat.reduceBEq, Nat.reduceEqDiff, Nat.reduceAdd, Int.reduceEq, Int.reduceLT, Int.reduceLE, Int.reduceGT, Int.reduceGE, ld1, faCo cp, ixVr hi, ixVk hj, ldS h1 hi hj, ixVw hw, bldVo hid, s1]
    have hne : ∀ a, a < 24 → a ≠ i * 2 + j → vb a ≠ vb (i * 2 + j) := fun a ha hne z => hne (h.inj _ _ ha hj24 z)
    refine ⟨f1'.trans s2 fun z q => .inl (by subst q; exact ⟨_, hj24, rfl⟩), by rw [e0], ?_⟩
    have ev : putV n v i j w id = setV v i j w id := by unfold putV; rw [e0, if_pos rfl]; rfl
    rw [ev]
    have hbox : cp ≠ vb (i * 2 + j) := fun z => by have := h1.box; rw [z, hrow] at this; simp at this
    refine { box := s2.row _ _ h1.box (fun z => hbox (by injection z)), row := fun a ha => ?_, sole := fun a ha => ?_, inj := h.inj, ok := h.ok, len := fun a b c => ?_ }
    · by_cases z : a = i * 2 + j
      · subst z
        have e : setV v i j w id i j = fun c => if c = w then id else v i j c := by funext c; simp [setV]
        rw [show (i * 2 + j) / 2 = i by omega, show (i * 2 + j) % 2 = j by omega]
        show A2.blk[vb (i * 2 + j)]? = some ⟨rowV n (setV v i j w id i j), _⟩
        rw [e]; exact s3
      · have e : setV v i j w id (a / 2) (a % 2) = v (a / 2) (a % 2) := by funext c; unfold setV; rw [if_neg (by omega)]
        show A2.blk[vb a]? = some ⟨rowV n (setV v i j w id (a / 2) (a % 2)), _⟩
        rw [e]
        exact s2.row _ _ (h1.row a ha) (fun y => hne a ha z (by injection y))
    · by_cases z : a = i * 2 + j
      · subst z; exact s5
      · exact (h1.sole a ha).fr s2 fun y => by cases y
    · unfold setV; split
      · exact hid
      · exact h.len a b c
end
end Go.Sv.Try
namespace Go.Sv.Try
open Go Go.Proofs
set_option linter.unusedVariables false
set_option linter.unusedSimpArgs false
def castP (f : Nat → Bts) (w : Nat) : List (Nat × Bts) := ((List.range w).map fun c => (c, f c)).filter fun p => p.2 ≠ z32
theorem castP_succ (f : Nat → Bts) (w : Nat) : castP f (w + 1) = castP f w ++ if f w ≠ z32 then [(w, f w)] else [] := by
  unfold castP
  rw [List.range_succ, List.map_append, List.filter_append]
  congr 1
  by_cases q : f w = z32 <;> simp [q]
theorem castP_get {f : Nat → Bts} {w : Nat} (h : f w ≠ z32) : ∀ n, w < n → (castP f n)[(castP f w).length]? = some (w, f w)
  | 0, hn => by omega
  | n + 1, hn => by
    rw [castP_succ]
    rcases Nat.lt_or_ge w n with q | q
    · have := castP_get h n q
      rw [List.getElem?_append_left (List.getElem?_eq_some_iff.1 this).1]; exact this
    · have : w = n := by omega
      subst this
      rw [List.getElem?_append_right (Nat.le_refl _), Nat.sub_self, if_pos h]; rfl
section
variable {A A' : AS} {cp n : Nat} {v : Vt} {vb : Nat → Nat}
theorem cast_spec {r k : Int} : ∃ w A', EvF Try.prog HH 36 [.ptr cp 0, .int .i64 r, .int .i64 k] A w A' ∧ Fr S0 A A' ∧ ∃ x1 x2 x3, w = .fn 44 [] [.ptr x1 0, .ptr x2 0, .ptr x3 0] ∧ A'.blk[x1]? = some ⟨[.ptr cp 0], .var⟩ ∧ A'.blk[x2]? = some ⟨[.int .i64 r], .var⟩ ∧ A'.blk[x3]? = some ⟨[.int .i64 k], .var⟩ := by
  refine run_fn2 rfl Try.func36 (by unfold Try.f36; rfl) Try.ntmps36 (by unfold Try.f36; rfl) (by simp) ?_
  simp only [RT, Nat.reduceLT, Nat.reduceBEq, Nat.reduceEqDiff, Nat.reduceAdd, Int.reduceEq, Int.reduceLT, Int.reduceLE, Int.reduceGT, Int.reduceGE]
  obtain ⟨A1, e1, f1, r1, n1⟩ := new_var A [.ptr cp 0]
  rw [← e1]
  obtain ⟨A2, e2, f2, r2, n2⟩ := new_var A1 [.int .i64 r]
  rw [← e2]
  obtain ⟨A3, e3, f3, r3, n3⟩ := new_var A2 [.int .i64 k]
  rw [← e3]
  exact ⟨(f1.then0 f2).then0 f3, _, _, _, rfl, f3.row0 (f2.row0 r1), f3.row0 r2, r3⟩
def argC (A A1 : AS) (args : List V) (p : Nat × Bts) : Prop := args = [.int .i64 (p.1 : Int), .agg (bc p.2)]
theorem newVo {A : AS} {x : Bts} (hx : x.length = 32) : ∃ A', evStore Try.prog 96 (.ptr A.blk.length 0) (.agg (voteC x)) (A.push ⟨voteC z32, .var⟩) = some A' ∧ Fr S0 A A' ∧ A'.blk[A.blk.length]? = some ⟨voteC x, .var⟩ := by
  obtain ⟨A2, s1, s2, s3, s4⟩ := new_set (P := Try.prog) A (z := voteC z32) (t := 96) (x := .agg (voteC x)) (cs := voteC x) rfl (by rw [voteC_len hx]; exact sz96) (by rw [voteC_len hx]; rfl) (voteC_one _)
  exact ⟨A2, s1, s2, s3⟩
theorem zcVo : (zeroT Try.prog 96).bind V.cells = some (voteC z32) := by kernel_rfl
theorem ldVo {A : AS} {b : Nat} {k : BK} {x : Bts} (h : A.blk[b]? = some ⟨voteC x, k⟩) (hx : x.length = 32) : evLoad Try.prog 4 (.ptr b 0) A = some (.bool (decide (x ≠ z32))) ∧ evLoad Try.prog 39 (.ptr b 1) A = some (.agg (bc x)) :=
  ⟨At.load1 h (o := 0) ⟨[], bc x, rfl, rfl⟩ ag4, At.load h (o := 1) ⟨[.bool (decide (x ≠ z32))], [], by simp [voteC], rfl⟩ ag39 sz39 (by rw [bc_len, hx])⟩
set_option maxHeartbeats 8000000 in
theorem cast_goes {S : Loc → Prop} {x1 x2 x3 : Nat} {r k : Int} (hw : WF A) (h : IsCnt A cp n v vb) (b1 : A.blk[x1]? = some ⟨[.ptr cp 0], .var⟩) (b2 : A.blk[x2]? = some ⟨[.int .i64 r], .var⟩) (b3 : A.blk[x3]? = some ⟨[.int .i64 k], .var⟩) :
    GoesH Try.prog HH 44 [] [.ptr x1 0, .ptr x2 0, .ptr x3 0] A S S0 (fun b => ∃ j, j < 24 ∧ b = vb j) (fun _ => True) argC (castI n v r k) := by
  intro lo J D hstep hJ0
  refine run_fn2 rfl Try.func44 (by unfold Try.f44; rfl) Try.ntmps44 (by unfold Try.f44; rfl) (by simp) ?_
  have ld1 : evLoad Try.prog 59 (.ptr x1 0) A = some (.ptr cp 0) := load_one ag59 b1
  have ld2 : evLoad Try.prog 3 (.ptr x2 0) A = some (.int .i64 r) := load_one ag3 b2
  have ld3 : evLoad Try.prog 3 (.ptr x3 0) A = some (.int .i64 k) := load_one ag3 b3
  simp only [RT, Nat.reduceLT, Nat.reduceBEq, Nat.reduceEqDiff, Nat.reduceAdd, Int.reduceEq, Int.reduceLT, Int.reduceLE, Int.reduceGT, Int.reduceGE, ld1, ld2, ld3]
  obtain ⟨_, _, k1, hA, rfl⟩ := right_spec h r k 0
  rw [hA] at k1
  refine run_call1 k1 ?_
  by_cases q : right n r k 0
  rotate_left
  · simp only [RT, Nat.reduceLT, Nat.reduceBEq, Nat.reduceEqDiff, Nat.reduceAdd, Int.reduceEq, Int.reduceLT, Int.reduceLE, Int.reduceGT, Int.reduceGE, decide_eq_false q]
    refine ⟨.refl _ _, .inl ⟨A, ?_, .refl _ _⟩⟩
    unfold castI; rw [if_neg q]; exact hJ0
  obtain ⟨i, rfl⟩ := Int.eq_ofNat_of_zero_le q.1
  obtain ⟨j, hj, rfl⟩ : ∃ j : Nat, j < 2 ∧ k = j := by rcases q.2.2.1 with rfl | rfl; exact ⟨0, by omega, rfl⟩; exact ⟨1, by omega, rfl⟩
  have hi : i < 12 := by have := q.2.1; omega
  have hrow := rowIx h hi hj
  have hl := fun w => h.len i j w
  have hxs : castI n v i j = castP (v i j) n := by unfold castI; rw [if_pos q]; rfl
  rw [hxs] at hstep ⊢
  have hln : ∀ B, evLen Try.prog 89 (.sl (vb (i * 2 + j)) 0 n 33) B = some (.int .i64 n) := fun B => by unfold evLen; rw [Try.underlying89]
  simp only [RT, Nat.reduceLT, Nat.reduceBEq, Nat.reduceEqDiff, Nat.reduceAdd, Int.reduceEq, Int.reduceLT, Int.reduceLE, Int.reduceGT, Int.reduceGE, decide_eq_true q]
  rw [pl_44_1, run_plan_id (by rfl)]
  simp only [RT, Nat.reduceLT, Nat.reduceBEq, Nat.reduceEqDiff, Nat.reduceAdd, Int.reduceEq, Int.reduceLT, Int.reduceLE, Int.reduceGT, Int.reduceGE, ld1, ld2, ld3, faCo cp, ixVr hi, ixVk hj, ldS h hi hj, hln]
  refine run_loop_j (fun z e B => Fr S A B ∧ e.get 0 = .yield lo ∧ e.get 19 = .sl (vb (i * 2 + j)) 0 n 33 ∧ e.get 20 = .int .i64 n ∧ B.blk[vb (i * 2 + j)]? = some ⟨rowV n (v i j), .arr (vb (i * 2 + j)) 0⟩ ∧ ∃ w : Nat, z = n - w ∧ w ≤ n ∧ e.get 21 = .int .i64 w ∧ ∃ A2, J (castP (v i j) w).length A2 ∧ Fr S0 A2 B)
    (fun z e B => Fr S A B ∧ (Is z (.exit 0) ∨ Is z .ret) ∧ ((∃ A2, J (castP (v i j) n).length A2 ∧ Fr S0 A2 B) ∨ ∃ a A2, a < (castP (v i j) n).length ∧ D a A2 ∧ Fr S0 A2 B))
    ⟨_, .refl _ _, rfl, rfl, rfl, hrow, 0, rfl, by omega, rfl, A, by simpa [castP] using hJ0, .refl _ _⟩ ?_ ?_
  rotate_left
  · rintro z e B hz ⟨hf, rfl | rfl, hd⟩
    · simp only [RT, Nat.reduceLT, Nat.reduceBEq, Nat.reduceEqDiff, Nat.reduceAdd, Int.reduceEq, Int.reduceLT, Int.reduceLE, Int.reduceGT, Int.reduceGE]
      exact ⟨hf, by simpa using hd⟩
    · simp only [RT, Nat.reduceLT, Nat.reduceBEq, Nat.reduceEqDiff, Nat.reduceAdd, Int.reduceEq, Int.reduceLT, Int.reduceLE, Int.reduceGT, Int.reduceGE]
      exact ⟨hf, by simpa using hd⟩
  rintro z e B ⟨hf, h0, h19, h20, hB, w, rfl, hwn, h21, A2, hJ, h2⟩
  simp only [RT, Nat.reduceLT, Nat.reduceBEq, Nat.reduceEqDiff, Nat.reduceAdd, Int.reduceEq, Int.reduceLT, Int.reduceLE, Int.reduceGT, Int.reduceGE, h20, h21]
  refine condK_of (fun g => ?_) (fun g => ?_)
  rotate_left
  · simp only [RT, Nat.reduceLT, Nat.reduceBEq, Nat.reduceEqDiff, Nat.reduceAdd, Int.reduceEq, Int.reduceLT, Int.reduceLE, Int.reduceGT, Int.reduceGE]
    have : w = n := by omega
    subst this
    exact ⟨hf, .inl rfl, .inl ⟨A2, hJ, h2⟩⟩
  have hwlt : w < n := by omega
  obtain ⟨g1, g2, g3⟩ := ldV hB hl hwlt
  obtain ⟨C, s1, s2, s3⟩ := newVo (A := B) (hl w)
  have ldc := ldVo s3 (hl w)
  simp only [RT, Nat.reduceLT, Nat.reduceBEq, Nat.reduceEqDiff, Nat.reduceAdd, Int.reduceEq, Int.reduceLT, Int.reduceLE, Int.reduceGT, Int.reduceGE, h19, h21, ixVw hwlt, g1, zcVo, s1, faVo _ _, ldc]
  have hsucc := castP_succ (v i j) w
  by_cases qz : v i j w ≠ z32
  rotate_left
  · rw [if_neg qz, List.append_nil] at hsucc
    simp only [RT, Nat.reduceLT, Nat.reduceBEq, Nat.reduceEqDiff, Nat.reduceAdd, Int.reduceEq, Int.reduceLT, Int.reduceLE, Int.reduceGT, Int.reduceGE, decide_eq_false qz, h21]
    exact ⟨n - (w + 1), by omega, hf.then0 s2, h0, h19, h20, s2.row0 hB, w + 1, rfl, by omega, by rw [wrapS (by have := h.ok; unfold okN at this; omega)], A2, by rw [hsucc]; exact hJ, h2.then0 s2⟩
  rw [if_pos qz] at hsucc
  obtain ⟨bo, E, z1, z2, z3, z4⟩ := hstep _ (w, v i j w) A2 C _ (castP_get qz n hwlt) hJ (h2.then0 s2) (hf.then0 s2) rfl
  simp only [RT, Nat.reduceLT, Nat.reduceBEq, Nat.reduceEqDiff, Nat.reduceAdd, Int.reduceEq, Int.reduceLT, Int.reduceLE, Int.reduceGT, Int.reduceGE, decide_eq_true qz, h0, faVo _ _, ldc]
  refine ⟨_, E, z1, ?_⟩
  simp only [RT, Nat.reduceLT, Nat.reduceBEq, Nat.reduceEqDiff, Nat.reduceAdd, Int.reduceEq, Int.reduceLT, Int.reduceLE, Int.reduceGT, Int.reduceGE]
  cases bo with
  | true =>
    obtain ⟨z5, z6⟩ := z3 rfl
    simp only [RT, Nat.reduceLT, Nat.reduceBEq, Nat.reduceEqDiff, Nat.reduceAdd, Int.reduceEq, Int.reduceLT, Int.reduceLE, Int.reduceGT, Int.reduceGE, h21]
    have hrE := z6 (vb (i * 2 + j)) ⟨_, by omega, rfl⟩
    rw [s2.row0 hB] at hrE
    exact ⟨n - (w + 1), by omega, (hf.then0 s2).thn z2, h0, h19, h20, hrE, w + 1, rfl, by omega, by rw [wrapS (by have := h.ok; unfold okN at this; omega)], E, by rw [hsucc, List.length_append]; exact z5, .refl _ _⟩
  | false =>
    simp only [RT, Nat.reduceLT, Nat.reduceBEq, Nat.reduceEqDiff, Nat.reduceAdd, Int.reduceEq, Int.reduceLT, Int.reduceLE, Int.reduceGT, Int.reduceGE]
    have hlt : (castP (v i j) w).length < (castP (v i j) n).length := (List.getElem?_eq_some_iff.1 (castP_get qz n hwlt)).1
    exact ⟨(hf.then0 s2).thn z2, .inr rfl, .inr ⟨_, E, hlt, z4 rfl, .refl _ _⟩⟩
end
end Go.Sv.Try
namespace Go.Sv.Try
open Go Go.Proofs
set_option linter.unusedVariables false
set_option linter.unusedSimpArgs false
section
variable {A A' : AS} {cp n : Nat} {v : Vt} {vb : Nat → Nat}
theorem castI_mem {r k : Int} {p : Nat × Bts} (h : p ∈ castI n v r k) : p.2 = v r.toNat k.toNat p.1 ∧ p.1 < n ∧ p.2 ≠ z32 := by
  unfold castI at h
  split at h
  · have := castL_ne h; exact ⟨this.2.2, this.2.1, this.1⟩
  · simp at h
theorem castI_len (n : Nat) (v : Vt) (r k : Int) : (castI n v r k).length ≤ n := by
  unfold castI
  split
  · unfold castL
    refine Nat.le_trans (List.length_filter_le _ _) ?_
    simp
  · simp
theorem forL_le (l : List (Nat × Bts)) (id : Bts) : forL l id ≤ l.length := List.countP_le_length
theorem forL_take {l : List (Nat × Bts)} {i : Nat} {p : Nat × Bts} (h : l[i]? = some p) (id : Bts) : forL (l.take (i + 1)) id = forL (l.take i) id + if p.2 = id then 1 else 0 := by
  rw [take_snoc h]
  unfold forL
  rw [List.countP_append]
  congr 1
  by_cases q : p.2 = id <;> simp [q]
theorem IsCnt.keep {S : Loc → Prop} {B : AS} (h : IsCnt A cp n v vb) (hf : Fr S A B) (hs : ∀ j, j < 24 → ¬ S (.row (vb j))) {b : Nat} (hb : ∃ j, j < 24 ∧ b = vb j) : B.blk[b]? = A.blk[b]? := by
  obtain ⟨j, hj, rfl⟩ := hb
  rw [h.row j hj]; exact hf.row _ _ (h.row j hj) (hs j hj)
theorem IsCnt.lt (h : IsCnt A cp n v vb) {j : Nat} (hj : j < 24) : vb j < A.blk.length := row_lt (h.row j hj)
theorem IsCnt.nevar (h : IsCnt A cp n v vb) {j : Nat} (hj : j < 24) {b : Nat} {cs : List V} (hb : A.blk[b]? = some ⟨cs, .var⟩) : vb j ≠ b := fun q => by have := h.row j hj; rw [q, hb] at this; simp at this
theorem IsCnt.small (h : IsCnt A cp n v vb) : n ≤ 7 ∧ 1 ≤ n := by have := h.ok; unfold okN at this; omega
theorem IsCnt.nw (h : IsCnt A cp n v vb) {c : Nat → Prop} (hc : ∀ b, c b → ∃ cs, A.blk[b]? = some ⟨cs, .var⟩) {j : Nat} (hj : j < 24) : ¬ nwS c A.blk.length (.row (vb j)) := by
  have := h.lt hj
  rintro (q | q)
  · obtain ⟨cs, hb⟩ := hc _ q
    exact h.nevar hj hb rfl
  · omega
set_option maxRecDepth 10000 in
set_option maxHeartbeats 8000000 in
theorem among_spec {x1 x2 x3 : Nat} {r k : Int} {id : Bts} (hw : WF A) (h : IsCnt A cp n v vb) (b1 : A.blk[x1]? = some ⟨[.ptr cp 0], .var⟩) (b2 : A.blk[x2]? = some ⟨[.int .i64 r], .var⟩) (b3 : A.blk[x3]? = some ⟨[.int .i64 k], .var⟩) (hid : id.length = 32) :
    ∃ w A', EvF Try.prog HH 45 [.fn 44 [] [.ptr x1 0, .ptr x2 0, .ptr x3 0], .agg (bc id)] A w A' ∧ Fr S0 A A' ∧ w = .int .i64 (forI n v r k id) := by
  refine run_fn2 rfl Try.func45 (by unfold Try.f45; rfl) Try.ntmps45 (by unfold Try.f45; rfl) (by simp) ?_
  simp only [RT, Nat.reduceLT, Nat.reduceBEq, Nat.reduceEqDiff, Nat.reduceAdd, Int.reduceEq, Int.reduceLT, Int.reduceLE, Int.reduceGT, Int.reduceGE, zc3]
  obtain ⟨A1, e1, f1, r1, n1⟩ := new_var A (bc id)
  rw [← e1]
  obtain ⟨A2, e2, f2, r2, n2⟩ := new_var A1 [.int .i64 0]
  rw [← e2]
  obtain ⟨A3, s1, s2, s3, s4⟩ := store_one (P := Try.prog) (t := 3) (x := .int .i64 0) r2 rfl sz3 rfl
  simp only [RT, Nat.reduceLT, Nat.reduceBEq, Nat.reduceEqDiff, Nat.reduceAdd, Int.reduceEq, Int.reduceLT, Int.reduceLE, Int.reduceGT, Int.reduceGE, s1]
  have f3 : Fr S0 A A3 := (f1.then0 f2).row_ s2 f1.len
  have w3 := f3.wf hw
  have h3 := h.fr0 f3
  have q3 : A3.blk[A.blk.length]? = some ⟨bc id, .var⟩ := s2.rowNe (f2.row0 r1) (by omega)
  have ne : A.blk.length ≠ A1.blk.length := by omega
  have hsm := h.small
  have hcl := castI_len n v r k
  refine run_goesH (S := nwS (· = A1.blk.length) A3.blk.length) (T := S0) (K := fun b => ∃ j, j < 24 ∧ b = vb j) (Fin := fun _ => True) (AR := argC) (xs := castI n v r k)
    (fun i B => B.blk[A1.blk.length]? = some ⟨[.int .i64 (forL ((castI n v r k).take i) id)], .var⟩ ∧ B.blk[A.blk.length]? = some ⟨bc id, .var⟩) (fun _ _ => False)
    rfl (fun q => q) (fun q => q) ?_ ⟨s3, q3⟩ ?_ (fun _ _ _ q => q.elim)
    Try.func45 Try.ntmps45 (by simp) ?_ ?_ (fun _ _ _ q => q.elim)
  · intro A0 hf0 hblk
    exact cast_goes (S := orLoop (nwS (· = A1.blk.length) A3.blk.length) A3.loops.length) (hf0.wf w3) (h3.fr0 hf0) (hf0.row0 (f3.row0 b1)) (hf0.row0 (f3.row0 b2)) (hf0.row0 (f3.row0 b3))
  · rintro i B C ⟨b1, b2⟩ hf
    exact ⟨hf.loop_row b1, hf.loop_row b2⟩
  · rintro i ⟨w, x⟩ B C args hi ⟨c1, c2⟩ hBC hf rfl
    refine ⟨_, rfl, ?_⟩
    have hx : x.length = 32 := by
      have e : x = v r.toNat k.toNat w := (castI_mem (List.mem_of_getElem? hi)).1
      rw [e]; exact h.len _ _ _
    obtain ⟨D, t1, t2, t3⟩ := newId (A := C) hx
    simp only [RT, Nat.reduceLT, Nat.reduceBEq, Nat.reduceEqDiff, Nat.reduceAdd, Int.reduceEq, Int.reduceLT, Int.reduceLE, Int.reduceGT, Int.reduceGE, zcI, t1]
    refine ⟨rfl, t2.toNw, fun E hE => ?_⟩
    have g1 := hE.loop_row (t2.row0 (hBC.row0 c1))
    have g2 := hE.loop_row (t2.row0 (hBC.row0 c2))
    have g3 := hE.loop_row t3
    have hfE : Fr (orLoop (nwS (· = A1.blk.length) A3.blk.length) A3.loops.length) A3 E := (hf.then0 t2).trans hE fun z q => .inl (.inr q)
    have hnr : ∀ j, j < 24 → ¬ orLoop (nwS (· = A1.blk.length) A3.blk.length) A3.loops.length (.row (vb j)) := fun j hj q => q.elim (h3.nw (fun b q => by subst q; exact ⟨_, s3⟩) hj) (fun q => by cases q)
    have hft := forL_take hi id
    have hfl := forL_le ((castI n v r k).take i) id
    rw [List.length_take] at hfl
    have ldn : evLoad Try.prog 3 (.ptr A1.blk.length 0) E = some (.int .i64 (forL ((castI n v r k).take i) id)) := load_one ag3 g1
    obtain ⟨G, u1, u2, u3, u4⟩ := store_one (P := Try.prog) (t := 3) (x := .int .i64 ((forL ((castI n v r k).take i) id + 1 : Nat) : Int)) g1 rfl sz3 rfl
    simp only [RT, Nat.reduceLT, Nat.reduceBEq, Nat.reduceEqDiff, Nat.reduceAdd, Int.reduceEq, Int.reduceLT, Int.reduceLE, Int.reduceGT, Int.reduceGE, ldId g2 hid, ldId g3 hx, eqZ hid hx]
    by_cases q : id = x
    · rw [if_pos q.symm] at hft
      simp only [RT, Nat.reduceLT, Nat.reduceBEq, Nat.reduceEqDiff, Nat.reduceAdd, Int.reduceEq, Int.reduceLT, Int.reduceLE, Int.reduceGT, Int.reduceGE, decide_eq_true q, ldn, wrapS (show forL ((castI n v r k).take i) id < 9223372036854775807 by omega), u1]
      refine ⟨u2.mono fun z q => by subst q; exact .inl rfl, .inl ⟨rfl, ⟨by rw [hft]; exact u3, u2.rowNe g2 ne⟩, fun b hb => ?_⟩⟩
      rw [h3.keep ((hfE.trans u2) fun z q => .inl (by subst q; exact .inl (.inl rfl))) hnr hb, h3.keep hf hnr hb]
    · rw [if_neg (fun z => q z.symm)] at hft
      simp only [RT, Nat.reduceLT, Nat.reduceBEq, Nat.reduceEqDiff, Nat.reduceAdd, Int.reduceEq, Int.reduceLT, Int.reduceLE, Int.reduceGT, Int.reduceGE, decide_eq_false q]
      refine ⟨.refl _ _, .inl ⟨rfl, ⟨by rw [hft]; exact g1, g2⟩, fun b hb => ?_⟩⟩
      rw [h3.keep hfE hnr hb, h3.keep hf hnr hb]
  · rintro B C ⟨c1, c2⟩ hBC hfin hf
    have hBC : Fr (· = .loop A3.loops.length) B C := hBC.mono fun z q => q.elim (fun q => q.elim) (fun q => q)
    have g1 := hBC.loop_row c1
    rw [List.take_length] at g1
    have ldn : evLoad Try.prog 3 (.ptr A1.blk.length 0) C = some (.int .i64 (forL (castI n v r k) id)) := load_one ag3 g1
    simp only [RT, Nat.reduceLT, Nat.reduceBEq, Nat.reduceEqDiff, Nat.reduceAdd, Int.reduceEq, Int.reduceLT, Int.reduceLE, Int.reduceGT, Int.reduceGE, ldn]
    exact ⟨f3.trans hf fun z q => .inr (nwS_new f3 (fun b q => by subst q; exact f1.len) q), rfl⟩
theorem for_spec {r k : Int} {id : Bts} (hw : WF A) (h : IsCnt A cp n v vb) (hid : id.length = 32) : ∃ w A', EvF Try.prog HH 37 [.ptr cp 0, .int .i64 r, .int .i64 k, .agg (bc id)] A w A' ∧ Fr S0 A A' ∧ w = .int .i64 (forI n v r k id) := by
  refine run_fn2 rfl Try.func37 (by unfold Try.f37; rfl) Try.ntmps37 (by unfold Try.f37; rfl) (by simp) ?_
  simp only [RT, Nat.reduceLT, Nat.reduceBEq, Nat.reduceEqDiff, Nat.reduceAdd, Int.reduceEq, Int.reduceLT, Int.reduceLE, Int.reduceGT, Int.reduceGE]
  obtain ⟨A1, e1, f1, r1, n1⟩ := new_var A (bc id)
  rw [← e1]
  simp only [RT, Nat.reduceLT, Nat.reduceBEq, Nat.reduceEqDiff, Nat.reduceAdd, Int.reduceEq, Int.reduceLT, Int.reduceLE, Int.reduceGT, Int.reduceGE, pl_37_1, rc_nil, ldId r1 hid]
  obtain ⟨_, A2, k1, k2, x1, x2, x3, rfl, k3, k4, k5⟩ := cast_spec (A := A1) (cp := cp) (r := r) (k := k)
  refine run_call1 k1 ?_
  have f2 := f1.then0 k2
  obtain ⟨_, A3, m1, m2, rfl⟩ := among_spec (id := id) (f2.wf hw) (h.fr0 f2) k3 k4 k5 hid
  simp only [RT, Nat.reduceLT, Nat.reduceBEq, Nat.reduceEqDiff, Nat.reduceAdd, Int.reduceEq, Int.reduceLT, Int.reduceLE, Int.reduceGT, Int.reduceGE]
  refine ⟨rc_load (ha := rfl) rfl (ldId (k2.row0 r1) hid) rfl rc_nil, ?_⟩
  refine run_call1 m1 ?_
  simp only [RT, Nat.reduceLT, Nat.reduceBEq, Nat.reduceEqDiff, Nat.reduceAdd, Int.reduceEq, Int.reduceLT, Int.reduceLE, Int.reduceGT, Int.reduceGE, rc_nil]
  exact f2.then0 m2
set_option maxRecDepth 10000 in
set_option maxHeartbeats 8000000 in
theorem all_spec {r k : Int} (hw : WF A) (h : IsCnt A cp n v vb) : ∃ w A', EvF Try.prog HH 49 [.ptr cp 0, .int .i64 r, .int .i64 k] A w A' ∧ Fr S0 A A' ∧ w = .int .i64 (allI n v r k) := by
  refine run_fn2 rfl Try.func49 (by unfold Try.f49; rfl) Try.ntmps49 (by unfold Try.f49; rfl) (by simp) ?_
  simp only [RT, Nat.reduceLT, Nat.reduceBEq, Nat.reduceEqDiff, Nat.reduceAdd, Int.reduceEq, Int.reduceLT, Int.reduceLE, Int.reduceGT, Int.reduceGE, zc3]
  obtain ⟨A2, e2, f2, r2, n2⟩ := new_var A [.int .i64 0]
  rw [← e2]
  obtain ⟨A3, s1, s2, s3, s4⟩ := store_one (P := Try.prog) (t := 3) (x := .int .i64 0) r2 rfl sz3 rfl
  simp only [RT, Nat.reduceLT, Nat.reduceBEq, Nat.reduceEqDiff, Nat.reduceAdd, Int.reduceEq, Int.reduceLT, Int.reduceLE, Int.reduceGT, Int.reduceGE, s1]
  have f3 : Fr S0 A A3 := f2.row_ s2 (Nat.le_refl _)
  obtain ⟨_, A4, k1, k2, x1, x2, x3, rfl, k3, k4, k5⟩ := cast_spec (A := A3) (cp := cp) (r := r) (k := k)
  refine run_call1 k1 ?_
  simp only [RT, Nat.reduceLT, Nat.reduceBEq, Nat.reduceEqDiff, Nat.reduceAdd, Int.reduceEq, Int.reduceLT, Int.reduceLE, Int.reduceGT, Int.reduceGE]
  have f4 := f3.then0 k2
  have w4 := f4.wf hw
  have h4 := h.fr0 f4
  have c4 := k2.row0 s3
  have hsm := h.small
  have hcl := castI_len n v r k
  refine run_goesH (S := nwS (· = A.blk.length) A4.blk.length) (T := S0) (K := fun b => ∃ j, j < 24 ∧ b = vb j) (Fin := fun _ => True) (AR := argC) (xs := castI n v r k)
    (fun i B => i ≤ (castI n v r k).length → B.blk[A.blk.length]? = some ⟨[.int .i64 (i : Int)], .var⟩) (fun _ _ => False)
    rfl (fun q => q) (fun q => q) ?_ (fun _ => c4) ?_ (fun _ _ _ q => q.elim)
    Try.func49 Try.ntmps49 (by simp) ?_ ?_ (fun _ _ _ q => q.elim)
  · intro A0 hf0 hblk
    exact cast_goes (S := orLoop (nwS (· = A.blk.length) A4.blk.length) A4.loops.length) (hf0.wf w4) (h4.fr0 hf0) (hf0.row0 k3) (hf0.row0 k4) (hf0.row0 k5)
  · rintro i B C b1 hf hi
    exact hf.loop_row (b1 hi)
  · rintro i ⟨w, x⟩ B C args hi c1 hBC hf rfl
    refine ⟨_, rfl, ?_⟩
    simp only [RT, Nat.reduceLT, Nat.reduceBEq, Nat.reduceEqDiff, Nat.reduceAdd, Int.reduceEq, Int.reduceLT, Int.reduceLE, Int.reduceGT, Int.reduceGE]
    refine ⟨rfl, .refl _ _, fun E hE => ?_⟩
    have hil := (List.getElem?_eq_some_iff.1 hi).1
    have g1 := hE.loop_row (hBC.row0 (c1 (by omega)))
    have hfE : Fr (orLoop (nwS (· = A.blk.length) A4.blk.length) A4.loops.length) A4 E := hf.trans hE fun z q => .inl (.inr q)
    have hnr : ∀ j, j < 24 → ¬ orLoop (nwS (· = A.blk.length) A4.blk.length) A4.loops.length (.row (vb j)) := fun j hj q => q.elim (h4.nw (fun b q => by subst q; exact ⟨_, c4⟩) hj) (fun q => by cases q)
    have ldn : evLoad Try.prog 3 (.ptr A.blk.length 0) E = some (.int .i64 (i : Int)) := load_one ag3 g1
    obtain ⟨G, u1, u2, u3, u4⟩ := store_one (P := Try.prog) (t := 3) (x := .int .i64 ((i + 1 : Nat) : Int)) g1 rfl sz3 rfl
    simp only [RT, Nat.reduceLT, Nat.reduceBEq, Nat.reduceEqDiff, Nat.reduceAdd, Int.reduceEq, Int.reduceLT, Int.reduceLE, Int.reduceGT, Int.reduceGE, ldn, wrapS (show i < 9223372036854775807 by omega), u1]
    refine ⟨u2.mono fun z q => by subst q; exact .inl rfl, .inl ⟨rfl, fun _ => u3, fun b hb => ?_⟩⟩
    rw [h4.keep ((hfE.trans u2) fun z q => .inl (by subst q; exact .inl (.inl rfl))) hnr hb, h4.keep hf hnr hb]
  · rintro B C c1 hBC hfin hf
    have hBC : Fr (· = .loop A4.loops.length) B C := hBC.mono fun z q => q.elim (fun q => q.elim) (fun q => q)
    have g1 := hBC.loop_row (c1 (Nat.le_refl _))
    have ldn : evLoad Try.prog 3 (.ptr A.blk.length 0) C = some (.int .i64 ((castI n v r k).length : Int)) := load_one ag3 g1
    simp only [RT, Nat.reduceLT, Nat.reduceBEq, Nat.reduceEqDiff, Nat.reduceAdd, Int.reduceEq, Int.reduceLT, Int.reduceLE, Int.reduceGT, Int.reduceGE, ldn]
    exact ⟨f4.trans hf fun z q => .inr (nwS_new f4 (fun b q => by subst q; exact Nat.le_refl _) q), rfl⟩
end
end Go.Sv.Try
namespace Go.Sv.Try
open Go Go.Proofs
set_option linter.unusedVariables false
set_option linter.unusedSimpArgs false
theorem find_at {α : Type} {q : α → Bool} : ∀ {l : List α} {i : Nat} {x : α}, l[i]? = some x → q x = true → (∀ (j : Nat) (y : α), j < i → l[j]? = some y → q y = false) → l.find? q = some x
  | [], i, x, h, _, _ => by simp at h
  | y :: l, 0, x, h, hq, _ => by simp at h; subst h; simp [List.find?, hq]
  | y :: l, i + 1, x, h, hq, hb => by
    have h0 := hb 0 y (by omega) rfl
    simp only [List.find?, h0]
    exact find_at (by simpa using h) hq fun j z hj hz => hb (j + 1) z (by omega) (by simpa using hz)
theorem find_no {α : Type} {q : α → Bool} {l : List α} (h : ∀ (j : Nat) (y : α), l[j]? = some y → q y = false) : l.find? q = none := by
  rw [List.find?_eq_none]
  intro x hx
  obtain ⟨j, hj⟩ := List.getElem?_of_mem hx
  simp [h j x hj]
section
variable {A A' : AS} {cp n : Nat} {v : Vt} {vb : Nat → Nat}
theorem IsCnt.frNw {c : Nat → Prop} {l : Nat} {B : AS} (h : IsCnt A cp n v vb) (hf : Fr (orLoop (nwS c A.blk.length) l) A B) (hc : ∀ b, c b → b ≠ cp ∧ ∃ cs, A.blk[b]? = some ⟨cs, .var⟩) : IsCnt B cp n v vb := by
  refine h.fr hf ?_ fun j hj => ⟨?_, ?_⟩
  · rintro (q | q)
    · have := row_lt h.box
      rcases q with q | q
      · exact (hc _ q).1 rfl
      · omega
    · cases q
  · rintro (q | q)
    · exact h.nw (fun b q => (hc b q).2) hj q
    · cases q
  · rintro (q | q)
    · have := h.lt hj; have : A.blk.length ≤ vb j := q; omega
    · cases q
theorem sureI_len (h : IsCnt A cp n v vb) {r k : Int} {id : Bts} (hs : sureI n v r k = some id) : id.length = 32 := by
  unfold sureI at hs
  rw [Option.map_eq_some_iff] at hs
  obtain ⟨p, h1, rfl⟩ := hs
  rw [(castI_mem (List.mem_of_find?_eq_some h1)).1]; exact h.len _ _ _
set_option maxRecDepth 10000 in
set_option maxHeartbeats 8000000 in
theorem sureC_spec {r k : Int} (hw : WF A) (h : IsCnt A cp n v vb) :
    ∃ w A', EvF Try.prog HH 25 [.ptr cp 0, .int .i64 r, .int .i64 k] A w A' ∧ Fr S0 A A' ∧ w = .tup [.agg (bc ((sureI n v r k).getD z32)), .bool (sureI n v r k).isSome] := by
  refine run_fn2 rfl Try.func25 (by unfold Try.f25; rfl) Try.ntmps25 (by unfold Try.f25; rfl) (by simp) ?_
  simp only [RT, Nat.reduceLT, Nat.reduceBEq, Nat.reduceEqDiff, Nat.reduceAdd, Int.reduceEq, Int.reduceLT, Int.reduceLE, Int.reduceGT, Int.reduceGE, zcI, zc4]
  obtain ⟨A1, e1, f1, r1, n1⟩ := new_var A [.ptr cp 0]
  rw [← e1]
  obtain ⟨A2, e2, f2, r2, n2⟩ := new_var A1 [.int .i64 r]
  rw [← e2]
  obtain ⟨A3, e3, f3, r3, n3⟩ := new_var A2 [.int .i64 k]
  rw [← e3]
  obtain ⟨A4, e4, f4, r4, n4⟩ := new_var A3 (bc z32)
  rw [← e4]
  obtain ⟨A5, e5, f5, r5, n5⟩ := new_var A4 [.bool false]
  rw [← e5]
  have p1 := f5.row0 (f4.row0 (f3.row0 (f2.row0 r1)))
  have p2 := f5.row0 (f4.row0 (f3.row0 r2))
  have p3 := f5.row0 (f4.row0 r3)
  have p4 := f5.row0 r4
  have ldp : ∀ {B : AS}, B.blk[A.blk.length]? = some ⟨[.ptr cp 0], .var⟩ → evLoad Try.prog 59 (.ptr A.blk.length 0) B = some (.ptr cp 0) := fun q => load_one ag59 q
  have ldr : ∀ {B : AS}, B.blk[A1.blk.length]? = some ⟨[.int .i64 r], .var⟩ → evLoad Try.prog 3 (.ptr A1.blk.length 0) B = some (.int .i64 r) := fun q => load_one ag3 q
  have ldk : ∀ {B : AS}, B.blk[A2.blk.length]? = some ⟨[.int .i64 k], .var⟩ → evLoad Try.prog 3 (.ptr A2.blk.length 0) B = some (.int .i64 k) := fun q => load_one ag3 q
  simp only [RT, Nat.reduceLT, Nat.reduceBEq, Nat.reduceEqDiff, Nat.reduceAdd, Int.reduceEq, Int.reduceLT, Int.reduceLE, Int.reduceGT, Int.reduceGE, ldp p1, ldr p2, ldk p3]
  obtain ⟨_, A6, k1, k2, x1, x2, x3, rfl, k3, k4, k5⟩ := cast_spec (A := A5) (cp := cp) (r := r) (k := k)
  refine run_call1 k1 ?_
  simp only [RT, Nat.reduceLT, Nat.reduceBEq, Nat.reduceEqDiff, Nat.reduceAdd, Int.reduceEq, Int.reduceLT, Int.reduceLE, Int.reduceGT, Int.reduceGE]
  have f16 : Fr S0 A A5 := (((f1.then0 f2).then0 f3).then0 f4).then0 f5
  have f6 := f16.then0 k2
  have w6 := f6.wf hw
  have h6 := h.fr0 f6
  have hlcp := row_lt h.box
  obtain ⟨c, hc⟩ : ∃ c : Nat → Prop, c = fun b => b = A3.blk.length ∨ b = A4.blk.length := ⟨_, rfl⟩
  have hcv : ∀ b, c b → b ≠ cp ∧ ∃ cs, A6.blk[b]? = some ⟨cs, .var⟩ := by
    intro b q
    rw [hc] at q
    rcases q with rfl | rfl
    · exact ⟨by omega, _, k2.row0 p4⟩
    · exact ⟨by omega, _, k2.row0 r5⟩
  have hcn : ∀ b, b < A3.blk.length → ¬ c b := fun b hb q => by rw [hc] at q; omega
  have l6 := f6.len
  have l56 := k2.len
  have hnr : ∀ j, j < 24 → ¬ orLoop (nwS c A6.blk.length) A6.loops.length (.row (vb j)) := fun j hj q => q.elim (h6.nw (fun b q => (hcv b q).2) hj) (fun q => by cases q)
  have keepB : ∀ {B : AS} {b : Nat} {K : Blk}, Fr (orLoop (nwS c A6.blk.length) A6.loops.length) A6 B → b < A3.blk.length → A6.blk[b]? = some K → B.blk[b]? = some K := fun hf hb hk => hf.row _ _ hk (by
    rintro (q | q)
    · rcases q with q | q
      · exact hcn _ hb q
      · omega
    · cases q)
  refine run_goesH (S := nwS c A6.blk.length) (T := S0) (K := fun b => ∃ j, j < 24 ∧ b = vb j) (Fin := fun _ => True) (AR := argC) (xs := castI n v r k)
    (fun i B => B.blk[A3.blk.length]? = some ⟨bc z32, .var⟩ ∧ B.blk[A4.blk.length]? = some ⟨[.bool false], .var⟩ ∧ ∀ j p, j < i → (castI n v r k)[j]? = some p → decide (need n ≤ forI n v r k p.2) = false)
    (fun z B => Is z .ret ∧ ∃ id, sureI n v r k = some id ∧ B.blk[A3.blk.length]? = some ⟨bc id, .var⟩ ∧ B.blk[A4.blk.length]? = some ⟨[.bool true], .var⟩)
    rfl (fun q => q) (fun q => q) ?_ ⟨k2.row0 p4, k2.row0 r5, fun j p hj => by omega⟩ ?_ ?_
    Try.func25 Try.ntmps25 (by simp) ?_ ?_ ?_
  · intro A0 hf0 hblk
    exact cast_goes (S := orLoop (nwS c A6.blk.length) A6.loops.length) (hf0.wf w6) (h6.fr0 hf0) (hf0.row0 k3) (hf0.row0 k4) (hf0.row0 k5)
  · rintro i B C ⟨b1, b2, b3⟩ hf
    exact ⟨hf.loop_row b1, hf.loop_row b2, b3⟩
  · rintro z B C ⟨b0, id, b1, b2, b3⟩ hf
    exact ⟨b0, id, b1, hf.loop_row b2, hf.loop_row b3⟩
  · rintro i ⟨w, x⟩ B C args hi ⟨c1, c2, c3⟩ hBC hf rfl
    refine ⟨_, rfl, ?_⟩
    have hx : x.length = 32 := by
      have e : x = v r.toNat k.toNat w := (castI_mem (List.mem_of_getElem? hi)).1
      rw [e]; exact h.len _ _ _
    obtain ⟨D, t1, t2, t3⟩ := newId (A := C) hx
    simp only [RT, Nat.reduceLT, Nat.reduceBEq, Nat.reduceEqDiff, Nat.reduceAdd, Int.reduceEq, Int.reduceLT, Int.reduceLE, Int.reduceGT, Int.reduceGE, zcI, t1]
    refine ⟨rfl, t2.toNw, fun E hE => ?_⟩
    have hfE : Fr (orLoop (nwS c A6.blk.length) A6.loops.length) A6 E := (hf.then0 t2).trans hE fun z q => .inl (.inr q)
    have g1 := hE.loop_row (t2.row0 (hBC.row0 c1))
    have g2 := hE.loop_row (t2.row0 (hBC.row0 c2))
    have g3 := hE.loop_row t3
    have hE6 := h6.frNw hfE hcv
    have y1 := keepB hfE (by omega) (k2.row0 p1)
    have y2 := keepB hfE (by omega) (k2.row0 p2)
    have y3 := keepB hfE (by omega) (k2.row0 p3)
    obtain ⟨_, G, m1, m2, rfl⟩ := for_spec (r := r) (k := k) (id := x) (hfE.wf w6) hE6 hx
    obtain ⟨_, _, j1, rfl, rfl⟩ := need_spec (A := G) h.ok
    simp only [RT, Nat.reduceLT, Nat.reduceBEq, Nat.reduceEqDiff, Nat.reduceAdd, Int.reduceEq, Int.reduceLT, Int.reduceLE, Int.reduceGT, Int.reduceGE, pl_25_3, ldp y1, ldr y2, ldk y3, ldId g3 hx, (faCo cp).1, ldC hE6, rc_nil]
    refine run_call1 m1 ?_
    simp only [RT, Nat.reduceLT, Nat.reduceBEq, Nat.reduceEqDiff, Nat.reduceAdd, Int.reduceEq, Int.reduceLT, Int.reduceLE, Int.reduceGT, Int.reduceGE]
    refine ⟨rc_load (ha := rfl) rfl (ldp (m2.row0 y1)) rfl <| rc_load (ha := rfl) rfl (ldC (hE6.fr0 m2)) rfl rc_nil, ?_⟩
    refine run_call1 j1 ?_
    have hle : (((forI n v r k x : Nat) : Int) ≥ (need n : Int)) ↔ need n ≤ forI n v r k x := by omega
    by_cases q : need n ≤ forI n v r k x
    · have hfind : sureI n v r k = some x := by
        unfold sureI
        rw [find_at hi (by simpa using q) (fun j y hj hy => c3 j y hj hy)]; rfl
      have gG := ldId (m2.row0 g3) hx
      obtain ⟨H1, u1, u2, u3⟩ := setId (m2.row0 g1) z32_len hx
      have ne34 : A3.blk.length ≠ A4.blk.length := by omega
      obtain ⟨H2, u5, u6, u7, u8⟩ := store_one (P := Try.prog) (t := 4) (x := .bool true) (u2.rowNe (m2.row0 g2) (fun q => ne34 q.symm)) rfl sz4 rfl
      simp only [RT, Nat.reduceLT, Nat.reduceBEq, Nat.reduceEqDiff, Nat.reduceAdd, Int.reduceEq, Int.reduceLT, Int.reduceLE, Int.reduceGT, Int.reduceGE, decide_eq_true (hle.2 q), rc_nil, gG, u1, u5]
      refine ⟨((m2.toNw.trans u2 fun z q => .inl (by subst q; exact .inl (by rw [hc]; exact .inl rfl))).trans u6 fun z q => .inl (by subst q; exact .inl (by rw [hc]; exact .inr rfl))), .inr ⟨by simp, rfl, x, hfind, u6.rowNe u3 ne34, u7⟩⟩
    · simp only [RT, Nat.reduceLT, Nat.reduceBEq, Nat.reduceEqDiff, Nat.reduceAdd, Int.reduceEq, Int.reduceLT, Int.reduceLE, Int.reduceGT, Int.reduceGE, decide_eq_false (fun z => q (hle.1 z)), rc_nil]
      refine ⟨m2.toNw, .inl ⟨rfl, ⟨m2.row0 g1, m2.row0 g2, fun j p hj hp => ?_⟩, fun b hb => ?_⟩⟩
      · rcases Nat.lt_or_ge j i with z | z
        · exact c3 j p z hp
        · have : j = i := by omega
          subst this
          rw [hi] at hp; cases hp
          exact decide_eq_false q
      · rw [h6.keep (hfE.then0 m2) hnr hb, h6.keep hf hnr hb]
  · rintro B C ⟨c1, c2, c3⟩ hBC hfin hf
    have hBC : Fr (· = .loop A6.loops.length) B C := hBC.mono fun z q => q.elim (fun q => q.elim) (fun q => q)
    have g1 := hBC.loop_row c1
    have g2 := hBC.loop_row c2
    have hno : sureI n v r k = none := by
      unfold sureI
      rw [find_no fun j y hy => c3 j y (List.getElem?_eq_some_iff.1 hy).1 hy]; rfl
    obtain ⟨H1, u1, u2, u3⟩ := setId g1 z32_len z32_len
    have ne34 : A3.blk.length ≠ A4.blk.length := by omega
    obtain ⟨H2, u5, u6, u7, u8⟩ := store_one (P := Try.prog) (t := 4) (x := .bool false) (u2.rowNe g2 (fun q => ne34 q.symm)) rfl sz4 rfl
    have ld7 : evLoad Try.prog 4 (.ptr A4.blk.length 0) H2 = some (.bool false) := load_one ag4 u7
    simp only [RT, Nat.reduceLT, Nat.reduceBEq, Nat.reduceEqDiff, Nat.reduceAdd, Int.reduceEq, Int.reduceLT, Int.reduceLE, Int.reduceGT, Int.reduceGE, bldZ, u1, u5, ldId (u6.rowNe u3 ne34) z32_len, ld7]
    refine ⟨((f6.trans hf fun z q => .inr (nwS_new f6 (fun b q => by rw [hc] at q; omega) q)).row_ u2 (by omega)).row_ u6 (by omega), by rw [hno]; rfl⟩
  · rintro z C hz ⟨rfl, id, hid, g1, g2⟩ hf
    have hl := sureI_len h hid
    have ld7 : evLoad Try.prog 4 (.ptr A4.blk.length 0) C = some (.bool true) := load_one ag4 g2
    simp only [RT, Nat.reduceLT, Nat.reduceBEq, Nat.reduceEqDiff, Nat.reduceAdd, Int.reduceEq, Int.reduceLT, Int.reduceLE, Int.reduceGT, Int.reduceGE, ldId g1 hl, ld7]
    exact ⟨f6.trans hf fun z q => .inr (nwS_new f6 (fun b q => by rw [hc] at q; omega) q), by rw [hid]; rfl⟩
end
end Go.Sv.Try
namespace Go.Sv.Try
open Go Go.Proofs
set_option linter.unusedVariables false
set_option linter.unusedSimpArgs false
theorem evSubI {a b : Int} (h1 : -9223372036854775808 ≤ a - b) (h2 : a - b ≤ 9223372036854775807) : IntKind.i64.wrap (a - b) = a - b := wrapI h1 h2
theorem aheadW_succ {n : Nat} {v : Vt} {r k w left : Nat} : aheadW n v r (k + 1) w left = if voted v r w then (if left - 1 = 0 then true else if left - 1 > n - 1 - w then false else aheadW n v r k (w + 1) (left - 1)) else aheadW n v r k (w + 1) left := rfl
section
variable {A A' : AS} {cp n : Nat} {v : Vt} {vb : Nat → Nat}
set_option maxRecDepth 10000 in
set_option maxHeartbeats 16000000 in
theorem ahead_spec {now : Int} (h : IsCnt A cp n v vb) (hn : -1 ≤ now) :
    ∃ w A', EvF Try.prog HH 47 [.ptr cp 0, .int .i64 now] A w A' ∧ A' = A ∧ w = .tup [.int .i64 (((aheadI n v now).getD 0 : Nat) : Int), .bool (aheadI n v now).isSome] := by
  refine run_fn2 rfl Try.func47 (by unfold Try.f47; rfl) Try.ntmps47 (by unfold Try.f47; rfl) (by simp) ?_
  simp only [RT, Nat.reduceLT, Nat.reduceBEq, Nat.reduceEqDiff, Nat.reduceAdd, Int.reduceEq, Int.reduceLT, Int.reduceLE, Int.reduceGT, Int.reduceGE]
  have hsm := h.small
  have hld := ldC h
  have hfa := faCo cp
  refine run_loop_j (fun z e B => Is B A ∧ e.get 0 = .ptr cp 0 ∧ e.get 1 = .int .i64 now ∧ ∃ r : Nat, z = r ∧ r ≤ 12 ∧ e.get 6 = .int .i64 ((r : Int) - 1) ∧ aheadI n v now = aheadR n v now r)
    (fun z e B => Is B A ∧ (Is z (.exit 0) ∧ aheadI n v now = none ∨ Is z .ret ∧ e.get 4 = .int .i64 (((aheadI n v now).getD 0 : Nat) : Int) ∧ e.get 5 = .bool (aheadI n v now).isSome))
    ⟨_, rfl, rfl, rfl, 12, rfl, by omega, rfl, rfl⟩ ?_ ?_
  rotate_left
  · rintro z e B hz ⟨hB, ⟨rfl, hno⟩ | ⟨rfl, h4, h5⟩⟩ <;> obtain rfl : A = B := hB.symm
    · simp only [RT, Nat.reduceLT, Nat.reduceBEq, Nat.reduceEqDiff, Nat.reduceAdd, Int.reduceEq, Int.reduceLT, Int.reduceLE, Int.reduceGT, Int.reduceGE]
      rw [hno]; rfl
    · simp only [RT, Nat.reduceLT, Nat.reduceBEq, Nat.reduceEqDiff, Nat.reduceAdd, Int.reduceEq, Int.reduceLT, Int.reduceLE, Int.reduceGT, Int.reduceGE, h4, h5]
  rintro z e B ⟨hB, h0, h1, r, hz, hr, h6, ha⟩
  obtain rfl : A = B := hB.symm
  obtain rfl : r = z := hz.symm
  simp only [RT, Nat.reduceLT, Nat.reduceBEq, Nat.reduceEqDiff, Nat.reduceAdd, Int.reduceEq, Int.reduceLT, Int.reduceLE, Int.reduceGT, Int.reduceGE, h6, h1]
  have out : ¬ ((r : Int) - 1 > now ∧ (r : Int) - 1 ≥ 0) → aheadI n v now = none := fun q => by
    rw [ha]
    cases r with
    | zero => rfl
    | succ r => unfold aheadR; rw [if_neg (by omega)]
  by_cases q1 : (r : Int) - 1 > now
  rotate_left
  · simp only [RT, Nat.reduceLT, Nat.reduceBEq, Nat.reduceEqDiff, Nat.reduceAdd, Int.reduceEq, Int.reduceLT, Int.reduceLE, Int.reduceGT, Int.reduceGE, decide_eq_false q1]
    exact ⟨rfl, .inl ⟨rfl, out (fun q => q1 q.1)⟩⟩
  by_cases q2 : (r : Int) - 1 ≥ 0
  rotate_left
  · simp only [RT, Nat.reduceLT, Nat.reduceBEq, Nat.reduceEqDiff, Nat.reduceAdd, Int.reduceEq, Int.reduceLT, Int.reduceLE, Int.reduceGT, Int.reduceGE, decide_eq_true q1, h6, decide_eq_false q2]
    exact ⟨rfl, .inl ⟨rfl, out (fun q => q2 q.2)⟩⟩
  obtain ⟨r, rfl⟩ : ∃ r' : Nat, r = r' + 1 := ⟨r - 1, by omega⟩
  have er : ((r + 1 : Nat) : Int) - 1 = r := by omega
  rw [er] at h6 q1 q2
  rw [er]
  have hi : r < 12 := by omega
  have har : aheadI n v now = if aheadW n v r n 0 (flts n + 1) = true then some r else aheadR n v now r := by
    rw [ha, show aheadR n v now (r + 1) = if (r : Int) > now then (if aheadW n v r n 0 (flts n + 1) then some r else aheadR n v now r) else none from rfl, if_pos q1]
  simp only [RT, Nat.reduceLT, Nat.reduceBEq, Nat.reduceEqDiff, Nat.reduceAdd, Int.reduceEq, Int.reduceLT, Int.reduceLE, Int.reduceGT, Int.reduceGE, decide_eq_true q1, h6, decide_eq_true q2, h0, hfa, hld]
  obtain ⟨_, _, k1, hA, rfl⟩ := faults_spec (A := A) (n := n) (by omega) (by omega)
  rw [hA] at k1
  refine run_call1 k1 ?_
  rw [flts_ok h.ok]
  have hfl : flts n ≤ 2 := by unfold flts; omega
  simp only [RT, Nat.reduceLT, Nat.reduceBEq, Nat.reduceEqDiff, Nat.reduceAdd, Int.reduceEq, Int.reduceLT, Int.reduceLE, Int.reduceGT, Int.reduceGE, wrapS (show flts n < 9223372036854775807 by omega), h0, hfa, hld]
  have hr0 := rowIx h hi (j := 0) (by omega)
  have hr1 := rowIx h hi (j := 1) (by omega)
  have ix0 : evIndexAddr Try.prog 90 (.ptr cp (1 + r * 2)) (.int .i64 0) = some (.ptr cp (1 + r * 2 + 0)) := ixVk (b := cp) (i := r) (j := 0) (by omega)
  have ix1 : evIndexAddr Try.prog 90 (.ptr cp (1 + r * 2)) (.int .i64 1) = some (.ptr cp (1 + r * 2 + 1)) := ixVk (b := cp) (i := r) (j := 1) (by omega)
  have ls0 := ldS h hi (j := 0) (by omega)
  have ls1 := ldS h hi (j := 1) (by omega)
  refine run_loop_j (fun z e B => Is B A ∧ e.get 0 = .ptr cp 0 ∧ e.get 1 = .int .i64 now ∧ e.get 6 = .int .i64 r ∧ e.get 27 = .int .i64 n ∧ ∃ (w left : Nat), z = n - w ∧ w ≤ n ∧ e.get 28 = .int .i64 w ∧ 1 ≤ left ∧ left ≤ 3 ∧ e.get 7 = .int .i64 left ∧ aheadW n v r n 0 (flts n + 1) = aheadW n v r (n - w) w left)
    (fun z e B => Is B A ∧ e.get 0 = .ptr cp 0 ∧ e.get 1 = .int .i64 now ∧ e.get 6 = .int .i64 r ∧ ((Is z (.exit 2) ∨ Is z (.exit 1)) ∧ aheadW n v r n 0 (flts n + 1) = false ∨ Is z .ret ∧ aheadW n v r n 0 (flts n + 1) = true ∧ e.get 4 = .int .i64 r ∧ e.get 5 = .bool true))
    ⟨_, rfl, h0, h1, h6, rfl, 0, flts n + 1, rfl, by omega, rfl, by omega, by omega, rfl, rfl⟩ ?_ ?_
  rotate_left
  · rintro z e B hz ⟨hB, h0, h1, h6, ⟨rfl | rfl, hno⟩ | ⟨rfl, hy, h4, h5⟩⟩ <;> obtain rfl : A = B := hB.symm
    · rw [if_neg (by rw [hno]; simp)] at har
      simp only [RT, Nat.reduceLT, Nat.reduceBEq, Nat.reduceEqDiff, Nat.reduceAdd, Int.reduceEq, Int.reduceLT, Int.reduceLE, Int.reduceGT, Int.reduceGE, h6]
      exact ⟨r, by omega, rfl, h0, h1, r, rfl, by omega, by rw [evSubI (by omega) (by omega)], har⟩
    · rw [if_neg (by rw [hno]; simp)] at har
      simp only [RT, Nat.reduceLT, Nat.reduceBEq, Nat.reduceEqDiff, Nat.reduceAdd, Int.reduceEq, Int.reduceLT, Int.reduceLE, Int.reduceGT, Int.reduceGE, h6]
      exact ⟨r, by omega, rfl, h0, h1, r, rfl, by omega, by rw [evSubI (by omega) (by omega)], har⟩
    · rw [if_pos hy] at har
      simp only [RT, Nat.reduceLT, Nat.reduceBEq, Nat.reduceEqDiff, Nat.reduceAdd, Int.reduceEq, Int.reduceLT, Int.reduceLE, Int.reduceGT, Int.reduceGE]
      rw [har]
      exact ⟨rfl, .inr ⟨rfl, h4, h5⟩⟩
  rintro z e B ⟨hB, h0, h1, h6, h27, w, left, rfl, hwn, h28, hl1, hl3, h7, hW⟩
  obtain rfl : A = B := hB.symm
  simp only [RT, Nat.reduceLT, Nat.reduceBEq, Nat.reduceEqDiff, Nat.reduceAdd, Int.reduceEq, Int.reduceLT, Int.reduceLE, Int.reduceGT, Int.reduceGE, h27, h28]
  refine condK_of (fun g => ?_) (fun g => ?_)
  rotate_left
  · have e : w = n := by omega
    subst e
    rw [Nat.sub_self] at hW
    simp only [RT, Nat.reduceLT, Nat.reduceBEq, Nat.reduceEqDiff, Nat.reduceAdd, Int.reduceEq, Int.reduceLT, Int.reduceLE, Int.reduceGT, Int.reduceGE]
    exact ⟨rfl, h0, h1, h6, .inl ⟨.inl rfl, hW⟩⟩
  have hw : w < n := by omega
  obtain ⟨d, hd⟩ : ∃ d, n - w = d + 1 := ⟨n - w - 1, by omega⟩
  have hdn : n - (w + 1) = d := by omega
  have hW2 := hW
  rw [hd, aheadW_succ] at hW2
  have lv0 := ldV hr0 (fun w => h.len r 0 w) hw
  have lv1 := ldV hr1 (fun w => h.len r 1 w) hw
  have fv := faVo (vb (r * 2 + 0)) (w * 33)
  have fv1 := faVo (vb (r * 2 + 1)) (w * 33)
  simp only [RT, Nat.reduceLT, Nat.reduceBEq, Nat.reduceEqDiff, Nat.reduceAdd, Int.reduceEq, Int.reduceLT, Int.reduceLE, Int.reduceGT, Int.reduceGE]
  by_cases qv : voted v r w
  rotate_left
  · have z0 : v r 0 w = z32 := Decidable.not_not.1 fun q => qv (.inl q)
    have z1 : v r 1 w = z32 := Decidable.not_not.1 fun q => qv (.inr q)
    rw [if_neg qv, ← hdn] at hW2
    simp only [RT, Nat.reduceLT, Nat.reduceBEq, Nat.reduceEqDiff, Nat.reduceAdd, Int.reduceEq, Int.reduceLT, Int.reduceLE, Int.reduceGT, Int.reduceGE, h0, h6, h28, hfa, ixVr hi, ix0, ix1, ls0, ls1, ixVw hw, fv, fv1, lv0, lv1, decide_eq_false (show ¬ v r 0 w ≠ z32 from fun q => q z0), decide_eq_false (show ¬ v r 1 w ≠ z32 from fun q => q z1)]
    exact ⟨n - (w + 1), by omega, rfl, h1, h27, w + 1, left, rfl, by omega, by rw [wrapS (by omega)], hl1, hl3, h7, hW2⟩
  rw [if_pos qv] at hW2
  refine contQ_cut2 (fun z e B => Is z .normal ∧ Is B A ∧ e.get 0 = .ptr cp 0 ∧ e.get 1 = .int .i64 now ∧ e.get 6 = .int .i64 r ∧ e.get 27 = .int .i64 n ∧ e.get 28 = .int .i64 w ∧ e.get 7 = .int .i64 left ∧ e.get 8 = .int .i64 w) ?_ ?_
  · by_cases z0 : v r 0 w = z32
    · have z1 : v r 1 w ≠ z32 := fun q => qv.elim (fun y => y z0) (fun y => y q)
      simp only [RT, Nat.reduceLT, Nat.reduceBEq, Nat.reduceEqDiff, Nat.reduceAdd, Int.reduceEq, Int.reduceLT, Int.reduceLE, Int.reduceGT, Int.reduceGE, h0, h6, h28, hfa, ixVr hi, ix0, ix1, ls0, ls1, ixVw hw, fv, fv1, lv0, lv1, decide_eq_false (show ¬ v r 0 w ≠ z32 from fun q => q z0), decide_eq_true z1]
      and_intros <;> first | rfl | assumption
    · simp only [RT, Nat.reduceLT, Nat.reduceBEq, Nat.reduceEqDiff, Nat.reduceAdd, Int.reduceEq, Int.reduceLT, Int.reduceLE, Int.reduceGT, Int.reduceGE, h0, h6, h28, hfa, ixVr hi, ix0, ix1, ls0, ls1, ixVw hw, fv, fv1, lv0, lv1, decide_eq_true z0]
      and_intros <;> first | rfl | assumption
  · clear h0 h1 h6 h27 h28 h7
    rintro z e B ⟨rfl, hB, h0, h1, h6, h27, h28, h7, h8⟩
    obtain rfl : A = B := hB.symm
    simp only [RT, Nat.reduceLT, Nat.reduceBEq, Nat.reduceEqDiff, Nat.reduceAdd, Int.reduceEq, Int.reduceLT, Int.reduceLE, Int.reduceGT, Int.reduceGE, h7, evSubI (show (-9223372036854775808 : Int) ≤ left - 1 by omega) (by omega)]
    by_cases y1 : left - 1 = 0
    · rw [if_pos y1] at hW2
      simp only [RT, Nat.reduceLT, Nat.reduceBEq, Nat.reduceEqDiff, Nat.reduceAdd, Int.reduceEq, Int.reduceLT, Int.reduceLE, Int.reduceGT, Int.reduceGE, decide_eq_true (show ((left : Int) - 1 = 0) by omega), h6]
      exact ⟨rfl, h0, h1, .inr ⟨rfl, hW2⟩⟩
    · rw [if_neg y1] at hW2
      simp only [RT, Nat.reduceLT, Nat.reduceBEq, Nat.reduceEqDiff, Nat.reduceAdd, Int.reduceEq, Int.reduceLT, Int.reduceLE, Int.reduceGT, Int.reduceGE, decide_eq_false (show ¬ ((left : Int) - 1 = 0) by omega), h0, hfa, hld, h8, evSubI (a := n) (b := 1) (by omega) (by omega), evSubI (a := (n : Int) - 1) (b := w) (by omega) (by omega)]
      by_cases y2 : left - 1 > n - 1 - w
      · rw [if_pos y2] at hW2
        simp only [RT, Nat.reduceLT, Nat.reduceBEq, Nat.reduceEqDiff, Nat.reduceAdd, Int.reduceEq, Int.reduceLT, Int.reduceLE, Int.reduceGT, Int.reduceGE, decide_eq_true (show ((left : Int) - 1 > (n : Int) - 1 - w) by omega)]
        exact ⟨rfl, h0, h1, h6, .inl ⟨.inr rfl, hW2⟩⟩
      · rw [if_neg y2, ← hdn] at hW2
        simp only [RT, Nat.reduceLT, Nat.reduceBEq, Nat.reduceEqDiff, Nat.reduceAdd, Int.reduceEq, Int.reduceLT, Int.reduceLE, Int.reduceGT, Int.reduceGE, decide_eq_false (show ¬ ((left : Int) - 1 > (n : Int) - 1 - w) by omega), h28]
        exact ⟨n - (w + 1), by omega, rfl, h0, h1, h6, h27, w + 1, left - 1, rfl, by omega, by rw [wrapS (by omega)], by omega, by omega, by rw [show ((left - 1 : Nat) : Int) = (left : Int) - 1 by omega], hW2⟩
end
end Go.Sv.Try
namespace Go.Sv.Try
open Go Go.Proofs
set_option linter.unusedVariables false
set_option linter.unusedSimpArgs false
theorem bldCnt (n : Int) : evBuild Try.prog 93 [(0, .int .i64 n)] = some (.agg (.int .i64 n :: List.replicate 24 .snil)) := by kernel_rfl
theorem mslV {n : Nat} (h : okN n) : msl Try.prog 89 (some (.int .i64 (n : Int))) (some (.int .i64 (n : Int))) = some (.newSl (rowV n fun _ => z32) n 33) := by
  rcases h with rfl | rfl | rfl <;> kernel_rfl
def cntM (n : Nat) (vb : Nat → Nat) (m : Nat) : List (List V) := [[.int .i64 n], reps 24 fun a => [if a < m then .sl (vb a) 0 n 33 else .snil]]
theorem cntM_lens {n : Nat} {vb : Nat → Nat} {m : Nat} : (cntM n vb m).map List.length = [1, 24] := by
  have := reps_len (n := 24) (k := 1) (f := fun a => [if a < m then V.sl (vb a) 0 n 33 else .snil]) (fun _ _ => rfl)
  simp only [cntM, List.map_cons, List.map_nil, this, List.length_singleton]
structure MkC (A0 A : AS) (cp n : Nat) (vb : Nat → Nat) (m : Nat) : Prop where
  fr : Fr S0 A0 A
  cn : A0.blk.length ≤ cp
  box : A.blk[cp]? = some ⟨(cntM n vb m).flatten, .var⟩
  row : ∀ a, a < m → A.blk[vb a]? = some ⟨rowV n fun _ => z32, .arr (vb a) 0⟩ ∧ Sole A (vb a) (vb a) ∧ A0.blk.length ≤ vb a
  inj : ∀ a b, a < m → b < m → vb a = vb b → a = b
theorem MkC.step {A0 A : AS} {cp n : Nat} {vb : Nat → Nat} {m : Nat} (h : MkC A0 A cp n vb m) (hw : WF A0) (hm : m < 24) :
    ∃ A', evStore Try.prog 89 (.ptr cp (1 + m)) (.sl A.blk.length 0 n 33) (A.push ⟨rowV n fun _ => z32, .arr A.blk.length 0⟩) = some A' ∧ MkC A0 A' cp n (fun a => if a = m then A.blk.length else vb a) (m + 1) := by
  have f1 := Fr.pushArr A (rowV n fun _ => z32)
  have wA := h.fr.wf hw
  have r1 := push_row A ⟨rowV n fun _ => z32, .arr A.blk.length 0⟩
  have so1 := Sole.new (cs := rowV n fun _ => z32) wA
  obtain ⟨B, hB⟩ : ∃ B, B = A.push ⟨rowV n fun _ => z32, .arr A.blk.length 0⟩ := ⟨_, rfl⟩
  rw [← hB] at f1 r1 so1 ⊢
  have b1 := f1.row0 h.box
  have h1 : ∀ i, i < 24 → ([if i < m then V.sl (vb i) 0 n 33 else .snil] : List V).length = 1 := fun _ _ => rfl
  have hat := At.part (L := cntM n vb m) (i := 1) rfl
  rw [cntM_lens] at hat
  have hat : At (cntM n vb m).flatten 1 (reps 24 fun a => [if a < m then .sl (vb a) 0 n 33 else .snil]) := hat
  have hle := hat.le
  rw [reps_len (k := 1) h1] at hle
  obtain ⟨C, s1, s2, s3, s4⟩ := store_var (P := Try.prog) (t := 89) (o := 1 + m) (x := .sl A.blk.length 0 n 33) b1 rfl sz89 (by show 1 + m + 1 ≤ _; omega) rfl
  rw [putAt_nest hat (by rw [reps_len (k := 1) h1]; simp; omega)] at s3
  have e1 := putAt_rep (k := 1) h1 hm (c := [.sl A.blk.length 0 n 33]) rfl
  rw [Nat.mul_one] at e1
  rw [e1] at s3
  have e2 : (reps 24 fun j => if j = m then [V.sl A.blk.length 0 n 33] else [if j < m then V.sl (vb j) 0 n 33 else .snil]) = reps 24 fun a => [if a < m + 1 then V.sl (if a = m then A.blk.length else vb a) 0 n 33 else .snil] := reps_congr fun a _ => by
    by_cases q : a = m
    · subst q; simp
    · rw [if_neg q, if_neg q]
      by_cases w : a < m
      · rw [if_pos w, if_pos (by omega)]
      · rw [if_neg w, if_neg (by omega)]
  rw [e2] at s3
  have e3 := putAt_part (L := cntM n vb m) (i := 1) (c := reps 24 fun a => [if a < m then .sl (vb a) 0 n 33 else .snil]) (c' := reps 24 fun a => [if a < m + 1 then V.sl (if a = m then A.blk.length else vb a) 0 n 33 else .snil]) rfl (by rw [reps_len (k := 1) h1, reps_len (k := 1) (fun _ _ => rfl)])
  rw [cntM_lens] at e3
  have e3 : putAt (cntM n vb m).flatten 1 (reps 24 fun a => [if a < m + 1 then V.sl (if a = m then A.blk.length else vb a) 0 n 33 else .snil]) = (cntM n (fun a => if a = m then A.blk.length else vb a) (m + 1)).flatten := e3
  rw [e3] at s3
  have hcp : cp < A.blk.length := row_lt h.box
  have hlen := h.fr.len
  refine ⟨C, s1, (h.fr.then0 f1).row_ s2 h.cn, h.cn, s3, fun a ha => ?_, fun a b ha hb q => ?_⟩
  · by_cases z : a = m
    · subst z
      rw [if_pos rfl]
      exact ⟨s2.rowNe r1 (by omega), so1.fr s2 (fun q => by cases q), hlen⟩
    · rw [if_neg z]
      obtain ⟨y1, y2, y3⟩ := h.row a (by omega)
      have hne : vb a ≠ cp := fun q => by rw [q, h.box] at y1; simp at y1
      exact ⟨s2.rowNe (f1.row0 y1) hne, (y2.fr f1 (fun q => q)).fr s2 (fun q => by cases q), y3⟩
  · have q : (if a = m then A.blk.length else vb a) = (if b = m then A.blk.length else vb b) := q
    have lt : ∀ a, a < m → vb a < A.blk.length := fun a ha => row_lt (h.row a ha).1
    by_cases z : a = m <;> by_cases y : b = m
    · omega
    · rw [if_pos z, if_neg y] at q
      have := lt b (by omega); omega
    · rw [if_neg z, if_pos y] at q
      have := lt a (by omega); omega
    · rw [if_neg z, if_neg y] at q
      exact h.inj a b (by omega) (by omega) q
theorem MkC.done {A0 A : AS} {cp n : Nat} {vb : Nat → Nat} (h : MkC A0 A cp n vb 24) (hn : okN n) : IsCnt A cp n v0 vb where
  box := by
    have := h.box
    rw [this]
    show some (⟨(cntM n vb 24).flatten, .var⟩ : Blk) = some ⟨(cntL n vb).flatten, .var⟩
    have e : cntM n vb 24 = cntL n vb := by
      unfold cntM cntL
      rw [reps_congr (g := fun j => [V.sl (vb j) 0 n 33]) fun a ha => by rw [if_pos ha]]
    rw [e]
  row := fun j hj => (h.row j hj).1
  sole := fun j hj => (h.row j hj).2.1
  inj := fun i j hi hj q => h.inj i j hi hj q
  ok := hn
  len := fun _ _ _ => rfl
set_option maxRecDepth 10000 in
set_option maxHeartbeats 16000000 in
theorem cntNew_spec {A : AS} {n : Int} (hw : WF A) (h0 : -9223372036854775808 ≤ n) (h1 : n ≤ 9223372036854775807) :
    ∃ w A', EvF Try.prog HH 22 [.int .i64 n] A w A' ∧ Fr S0 A A' ∧ (fltsI n < 0 ∧ w = .tup [.pnil, .int .i64 1] ∨ ∃ (m : Nat) (cp : Nat) (vb : Nat → Nat), n = m ∧ okN m ∧ w = .tup [.ptr cp 0, .int .i64 0] ∧ IsCnt A' cp m v0 vb ∧ A.blk.length ≤ cp ∧ ∀ j, j < 24 → A.blk.length ≤ vb j) := by
  refine run_fn2 rfl Try.func22 (by unfold Try.f22; rfl) Try.ntmps22 (by unfold Try.f22; rfl) (by simp) ?_
  simp only [RT, Nat.reduceLT, Nat.reduceBEq, Nat.reduceEqDiff, Nat.reduceAdd, Int.reduceEq, Int.reduceLT, Int.reduceLE, Int.reduceGT, Int.reduceGE]
  obtain ⟨_, _, k1, hA, rfl⟩ := faults_spec (A := A) h0 h1
  rw [hA] at k1
  refine run_call1 k1 ?_
  by_cases q : fltsI n < 0
  · simp only [RT, Nat.reduceLT, Nat.reduceBEq, Nat.reduceEqDiff, Nat.reduceAdd, Int.reduceEq, Int.reduceLT, Int.reduceLE, Int.reduceGT, Int.reduceGE, decide_eq_true q]
    exact ⟨.refl _ _, .inl q⟩
  obtain ⟨n, rfl, hn⟩ := flts_good q
  simp only [RT, Nat.reduceLT, Nat.reduceBEq, Nat.reduceEqDiff, Nat.reduceAdd, Int.reduceEq, Int.reduceLT, Int.reduceLE, Int.reduceGT, Int.reduceGE, decide_eq_false q, bldCnt]
  obtain ⟨A1, e1, f1, r1, n1⟩ := new_var A (.int .i64 n :: List.replicate 24 .snil)
  rw [← e1]
  obtain ⟨cp, hcp⟩ : ∃ b, b = A.blk.length := ⟨_, rfl⟩
  rw [← hcp] at r1 ⊢
  have M0 : MkC A A1 cp n (fun _ => 0) 0 := ⟨f1, by omega, r1, fun _ ha => by omega, fun _ _ ha => by omega⟩
  have hfa := faCo cp
  refine run_loop_j (fun z e B => e.get 0 = .int .i64 n ∧ e.get 4 = .ptr cp 0 ∧ ∃ (i : Nat) (vb : Nat → Nat), z = 12 - i ∧ i ≤ 12 ∧ e.get 13 = .int .i64 i ∧ MkC A B cp n vb (i * 2))
    (fun z e B => Is z (.exit 0) ∧ e.get 4 = .ptr cp 0 ∧ ∃ vb, MkC A B cp n vb 24)
    ⟨_, rfl, rfl, 0, _, rfl, by omega, rfl, M0⟩ ?_ ?_
  rotate_left
  · rintro z e B hz ⟨rfl, h4, vb, hM⟩
    simp only [RT, Nat.reduceLT, Nat.reduceBEq, Nat.reduceEqDiff, Nat.reduceAdd, Int.reduceEq, Int.reduceLT, Int.reduceLE, Int.reduceGT, Int.reduceGE, h4]
    exact ⟨hM.fr, .inr ⟨n, cp, vb, rfl, hn, rfl, hM.done hn, by omega, fun j hj => by have := (hM.row j hj).2.2; omega⟩⟩
  rintro z e B ⟨h0, h4, i, vb, rfl, hi, h13, hM⟩
  simp only [RT, Nat.reduceLT, Nat.reduceBEq, Nat.reduceEqDiff, Nat.reduceAdd, Int.reduceEq, Int.reduceLT, Int.reduceLE, Int.reduceGT, Int.reduceGE, h13]
  refine condK_of (fun g => ?_) (fun g => ?_)
  rotate_left
  · have : i = 12 := by omega
    subst this
    simp only [RT, Nat.reduceLT, Nat.reduceBEq, Nat.reduceEqDiff, Nat.reduceAdd, Int.reduceEq, Int.reduceLT, Int.reduceLE, Int.reduceGT, Int.reduceGE]
    exact ⟨rfl, h4, vb, hM⟩
  have hi12 : i < 12 := by omega
  simp only [RT, Nat.reduceLT, Nat.reduceBEq, Nat.reduceEqDiff, Nat.reduceAdd, Int.reduceEq, Int.reduceLT, Int.reduceLE, Int.reduceGT, Int.reduceGE, h13]
  refine run_loop_j (fun z e B => e.get 0 = .int .i64 n ∧ e.get 4 = .ptr cp 0 ∧ e.get 5 = .int .i64 i ∧ e.get 13 = .int .i64 i ∧ ∃ (j : Nat) (vb : Nat → Nat), z = 2 - j ∧ j ≤ 2 ∧ e.get 16 = .int .i64 j ∧ MkC A B cp n vb (i * 2 + j))
    (fun z e B => Is z (.exit 2) ∧ e.get 0 = .int .i64 n ∧ e.get 4 = .ptr cp 0 ∧ e.get 13 = .int .i64 i ∧ ∃ vb, MkC A B cp n vb (i * 2 + 2))
    ⟨_, h0, h4, rfl, h13, 0, vb, rfl, by omega, rfl, hM⟩ ?_ ?_
  rotate_left
  · rintro z e B hz ⟨rfl, h0, h4, h13, vb, hM⟩
    simp only [RT, Nat.reduceLT, Nat.reduceBEq, Nat.reduceEqDiff, Nat.reduceAdd, Int.reduceEq, Int.reduceLT, Int.reduceLE, Int.reduceGT, Int.reduceGE, h13]
    exact ⟨12 - (i + 1), by omega, h0, h4, i + 1, vb, rfl, by omega, by rw [wrapS (by omega)], by rw [show (i + 1) * 2 = i * 2 + 2 by omega]; exact hM⟩
  rintro z e B ⟨h0, h4, h5, h13, j, vb, rfl, hj, h16, hM⟩
  simp only [RT, Nat.reduceLT, Nat.reduceBEq, Nat.reduceEqDiff, Nat.reduceAdd, Int.reduceEq, Int.reduceLT, Int.reduceLE, Int.reduceGT, Int.reduceGE, h16]
  refine condK_of (fun g => ?_) (fun g => ?_)
  rotate_left
  · have : j = 2 := by omega
    subst this
    simp only [RT, Nat.reduceLT, Nat.reduceBEq, Nat.reduceEqDiff, Nat.reduceAdd, Int.reduceEq, Int.reduceLT, Int.reduceLE, Int.reduceGT, Int.reduceGE]
    exact ⟨rfl, h0, h4, h13, vb, hM⟩
  have hj2 : j < 2 := by omega
  obtain ⟨C, s1, s2⟩ := hM.step hw (show i * 2 + j < 24 by omega)
  rw [← Nat.add_assoc] at s1
  simp only [RT, Nat.reduceLT, Nat.reduceBEq, Nat.reduceEqDiff, Nat.reduceAdd, Int.reduceEq, Int.reduceLT, Int.reduceLE, Int.reduceGT, Int.reduceGE, h16]
  rw [pl_22_10, run_plan_id (by rfl)]
  simp only [RT, Nat.reduceLT, Nat.reduceBEq, Nat.reduceEqDiff, Nat.reduceAdd, Int.reduceEq, Int.reduceLT, Int.reduceLE, Int.reduceGT, Int.reduceGE, h0, h4, h5, mslV hn, hfa, ixVr hi12, ixVk hj2, s1, h16]
  exact ⟨2 - (j + 1), by omega, h13, j + 1, _, rfl, by omega, by rw [wrapS (by omega)], s2⟩
end Go.Sv.Try
namespace Go.Sv.Try
open Go Go.Proofs
set_option linter.unusedVariables false
set_option linter.unusedSimpArgs false
structure IsRd (A : AS) (rp : Nat) (r : Rd) (cp : Nat) (vb : Nat → Nat) (fk fa : Option Nat) : Prop where
  box : ∃ kv av, A.blk[rp]? = some ⟨encR r kv av cp, .var⟩ ∧ Lst eId Hp.emp A kv r.known fk ∧ Lst eAct Hp.emp A av r.acts fa
  cnt : IsCnt A cp r.n r.v vb
  ok : Rok r
  rc : rp ≠ cp
  ne1 : ∀ f, fk = some f → fa ≠ some f
  ne2 : ∀ j, j < 24 → fk ≠ some (vb j) ∧ fa ≠ some (vb j)
def rdS (A : AS) (rp : Nat) (vb : Nat → Nat) (fk fa : Option Nat) : Loc → Prop := fun x => x = .row rp ∨ vbS vb x ∨ inFamO A fk x ∨ inFamO A fa x
theorem IsRd.fr {A A' : AS} {rp cp : Nat} {r : Rd} {vb : Nat → Nat} {fk fa : Option Nat} {S : Loc → Prop} (h : IsRd A rp r cp vb fk fa) (hf : Fr S A A') (h1 : ¬ S (.row rp)) (h2 : ¬ S (.row cp)) (h3 : ∀ j, j < 24 → ¬ S (.row (vb j)) ∧ ¬ S (.fam (vb j))) (h4 : Off fk A S) (h5 : Off fa A S) : IsRd A' rp r cp vb fk fa := by
  obtain ⟨kv, av, b1, b2, b3⟩ := h.box
  exact { h with box := ⟨kv, av, hf.row _ _ b1 h1, b2.fr hf h4, b3.fr hf h5⟩, cnt := h.cnt.fr hf h2 h3 }
theorem IsRd.fr0 {A A' : AS} {rp cp : Nat} {r : Rd} {vb : Nat → Nat} {fk fa : Option Nat} (h : IsRd A rp r cp vb fk fa) (hf : Fr S0 A A') : IsRd A' rp r cp vb fk fa := h.fr hf (fun q => q) (fun q => q) (fun _ _ => ⟨fun q => q, fun q => q⟩) .s0 .s0
theorem rdS_back {A B : AS} {S : Loc → Prop} {rp : Nat} {vb : Nat → Nat} {fk fa fk' fa' : Option Nat} (hf : Fr S A B) (g1 : Gr A fk fk') (g2 : Gr A fa fa') (hw : WF A) (hw' : WF B) {x : Loc} (h : rdS B rp vb fk' fa' x) : rdS A rp vb fk fa x ∨ x.newTo A := by
  have key : ∀ {fo fo' : Option Nat}, Gr A fo fo' → inFamO B fo' x → inFamO A fo x ∨ x.newTo A := by
    intro fo fo' g q
    rcases g with rfl | ⟨rfl, f, rfl, hfl⟩
    · exact inFamO_back hf q
    · rcases inFamO_back hf q with q | q
      · right
        cases x with
        | row b => obtain ⟨k, base, z1, z2⟩ := q; have := hw b k _ base z1 z2; omega
        | fam g => show A.blk.length ≤ g; rw [show g = f from q]; exact hfl
        | map r => exact q.elim
        | loop r => exact q.elim
        | it r => exact q.elim
      · exact .inr q
  rcases h with h | h | h | h
  · exact .inl (.inl h)
  · exact .inl (.inr (.inl h))
  · exact (key g1 h).imp (fun q => .inr (.inr (.inl q))) id
  · exact (key g2 h).imp (fun q => .inr (.inr (.inr q))) id
def RStep (A : AS) (rp cp : Nat) (vb : Nat → Nat) (fk fa : Option Nat) (A' : AS) (r' : Rd) : Prop := ∃ fk' fa', Fr (rdS A rp vb fk fa) A A' ∧ Gr A fk fk' ∧ Gr A fa fa' ∧ IsRd A' rp r' cp vb fk' fa'
section
variable {A A' B : AS} {rp cp : Nat} {r r' : Rd} {vb : Nat → Nat} {fk fa fk' fa' : Option Nat} {kv av : V}
theorem RStep.rfl' (h : IsRd A rp r cp vb fk fa) : RStep A rp cp vb fk fa A r := ⟨fk, fa, .refl _ _, .inl rfl, .inl rfl, h⟩
theorem RStep.of0 (h : IsRd A rp r cp vb fk fa) (hf : Fr S0 A B) : RStep A rp cp vb fk fa B r := ⟨fk, fa, hf.mono fun _ q => q.elim, .inl rfl, .inl rfl, h.fr0 hf⟩
theorem RStep.next (hw : WF A) (hf : Fr (rdS A rp vb fk fa) A B) (g1 : Gr A fk fk') (g2 : Gr A fa fa') (k : RStep B rp cp vb fk' fa' A' r') : RStep A rp cp vb fk fa A' r' := by
  obtain ⟨fk2, fa2, k1, k2, k3, k4⟩ := k
  exact ⟨fk2, fa2, hf.trans k1 fun x q => rdS_back hf g1 g2 hw (hf.wf hw) q, g1.trans k2 hf.len, g2.trans k3 hf.len, k4⟩
theorem RStep.next0 (hw : WF A) (hf : Fr S0 A B) (k : RStep B rp cp vb fk fa A' r') : RStep A rp cp vb fk fa A' r' := k.next hw (hf.mono fun _ q => q.elim) (.inl rfl) (.inl rfl)
theorem RStep.then0 {C : AS} (h : RStep A rp cp vb fk fa B r) (hf : Fr S0 B C) : RStep A rp cp vb fk fa C r := by
  obtain ⟨fk', fa', h1, h2, h3, h4⟩ := h
  exact ⟨fk', fa', h1.then0 hf, h2, h3, h4.fr0 hf⟩
theorem IsRd.upd (h : IsRd A rp r cp vb fk fa) (hb : A.blk[rp]? = some ⟨encR r kv av cp, .var⟩) (hk : Lst eId Hp.emp A kv r.known fk) (ha : Lst eAct Hp.emp A av r.acts fa) (hf : Fr (· = .row rp) A B) (hB : B.blk[rp]? = some ⟨encR r' kv av cp, .var⟩)
    (e1 : r'.known = r.known) (e2 : r'.acts = r.acts) (e3 : r'.n = r.n) (e4 : r'.v = r.v) (hok : Rok r') : IsRd B rp r' cp vb fk fa := by
  refine { box := ⟨kv, av, hB, by rw [e1]; exact hk.fr hf (.box hb), by rw [e2]; exact ha.fr hf (.box hb)⟩, cnt := ?_, ok := hok, rc := h.rc, ne1 := h.ne1, ne2 := h.ne2 }
  rw [e3, e4]
  exact h.cnt.fr hf (fun q => h.rc (by injection q with q; exact q.symm)) fun j hj => ⟨fun q => h.cnt.nevar hj hb (by injection q), fun q => by cases q⟩
theorem RStep.upd (hf : Fr (· = .row rp) A B) (h : IsRd B rp r' cp vb fk fa) : RStep A rp cp vb fk fa B r' := ⟨fk, fa, hf.mono fun _ q => .inl q, .inl rfl, .inl rfl, h⟩
theorem bslAc {a : Act} (h : a.id.length = 32) : bsl Try.prog 35 1 (some [(0, .agg (actC a))]) = some (.newSl (actC a) 1 36) := bsl_one Try.underlying35 sz42 zc42 rfl (actC_len h) (by decide)
theorem ldAc {b : Nat} {k : BK} {a : Act} (hb : A.blk[b]? = some ⟨actC a, k⟩) (h : a.id.length = 32) : evLoad Try.prog 42 (.ptr b 0) A = some (.agg (actC a)) := At.load hb (At.all _) ag42 sz42 (actC_len h)
set_option maxRecDepth 10000 in
set_option maxHeartbeats 8000000 in
theorem do_spec (hw : WF A) (h : IsRd A rp r cp vb fk fa) {a : Act} (hid : a.id.length = 32) (hl : r.acts.length ≤ 100000000) : ∃ w A', EvF Try.prog HH 43 [.ptr rp 0, .agg (actC a)] A w A' ∧ RStep A rp cp vb fk fa A' (r.do_ a) := by
  refine run_fn2 rfl Try.func43 (by unfold Try.f43; rfl) Try.ntmps43 (by unfold Try.f43; rfl) (by simp) ?_
  simp only [RT, Nat.reduceLT, Nat.reduceBEq, Nat.reduceEqDiff, Nat.reduceAdd, Int.reduceEq, Int.reduceLT, Int.reduceLE, Int.reduceGT, Int.reduceGE]
  obtain ⟨A1, e1, f1, r1, n1⟩ := new_var A (actC a)
  rw [← e1]
  have h1 := h.fr0 f1
  have w1 := f1.wf hw
  obtain ⟨kv, av, b1, b2, b3⟩ := h1.box
  have ld := ldR b1 h1.ok
  obtain ⟨v4, A2, fa', p1, p2, p3, p4⟩ := b3.push (P := Try.prog) (t := 35) (tx := 35) (n := 36) rfl sl35 Try.underlying35 w1 (y := a) (cs' := actC a) ⟨rfl, hid⟩ (by omega) (by omega)
  have b4 := p3.row _ _ b1 (inFamO_var b1)
  have k4 : Lst eId Hp.emp A2 kv r.known fk := b2.fr p3 (by
    cases fa with
    | none => exact fun _ q => q.elim
    | some g => exact Off.fam fun q => h.ne1 g q rfl)
  obtain ⟨A3, s1, s2, s3⟩ := stAc b4 h1.ok p2.one (r.acts ++ [a])
  rw [pl_43_1, run_plan_id (by rfl)]
  simp only [RT, Nat.reduceLT, Nat.reduceBEq, Nat.reduceEqDiff, Nat.reduceAdd, Int.reduceEq, Int.reduceLT, Int.reduceLE, Int.reduceGT, Int.reduceGE, (faR rp), ld, ldAc r1 hid, bslAc hid, p1, s1]
  have hc3 : IsCnt A3 cp r.n r.v vb := by
    refine (h1.cnt.fr p3 (inFamO_var h1.cnt.box) fun j hj => ⟨?_, ?_⟩).fr s2 (fun q => h.rc (by injection q with q; exact q.symm)) fun j hj => ⟨fun q => h1.cnt.nevar hj b1 (by injection q), fun q => by cases q⟩
    · intro q
      cases fa with
      | none => exact q.elim
      | some g =>
        obtain ⟨k, base, z1, z2⟩ := q
        rw [h1.cnt.row j hj] at z1; cases z1; cases z2
        exact (h.ne2 j hj).2 rfl
    · intro q
      cases fa with
      | none => exact q.elim
      | some g => exact (h.ne2 j hj).2 (by rw [show vb j = g from q])
  refine RStep.next0 hw f1 ⟨fk, fa', (p3.mono (S' := rdS A1 rp vb fk fa) fun z q => .inr (.inr (.inr q))).trans s2 fun z q => .inl (.inl q), .inl rfl, p4, ?_⟩
  refine { box := ⟨kv, v4, s3, k4.fr s2 (.box b4), p2.fr s2 (.box b4)⟩, cnt := hc3, ok := { h.ok with }, rc := h.rc, ne1 := fun f q z => ?_, ne2 := fun j hj => ⟨(h.ne2 j hj).1, fun q => ?_⟩ }
  · rcases p4.or z with y | y
    · exact h.ne1 f q y
    · have := b2.famLt f q; omega
  · rcases p4.or q with y | y
    · exact (h.ne2 j hj).2 y
    · have := h1.cnt.lt hj; omega
set_option maxRecDepth 10000 in
set_option maxHeartbeats 8000000 in
theorem has_spec (hw : WF A) (h : IsRd A rp r cp vb fk fa) {id : Bts} (hid : id.length = 32) (hl : r.known.length ≤ 100000000) : ∃ w A', EvF Try.prog HH 40 [.ptr rp 0, .agg (bc id)] A w A' ∧ Fr S0 A A' ∧ w = .bool (decide (id ∈ r.known)) := by
  refine run_fn2 rfl Try.func40 (by unfold Try.f40; rfl) Try.ntmps40 (by unfold Try.f40; rfl) (by simp) ?_
  simp only [RT, Nat.reduceLT, Nat.reduceBEq, Nat.reduceEqDiff, Nat.reduceAdd, Int.reduceEq, Int.reduceLT, Int.reduceLE, Int.reduceGT, Int.reduceGE]
  obtain ⟨A1, e1, f1, r1, n1⟩ := new_var A (bc id)
  rw [← e1]
  have h1 := h.fr0 f1
  obtain ⟨kv, av, b1, b2, b3⟩ := h1.box
  have ld := ldR b1 h1.ok
  have hln := fun B => b2.len (P := Try.prog) Try.underlying26 B
  simp only [RT, Nat.reduceLT, Nat.reduceBEq, Nat.reduceEqDiff, Nat.reduceAdd, Int.reduceEq, Int.reduceLT, Int.reduceLE, Int.reduceGT, Int.reduceGE, (faR rp), ld, hln]
  refine run_loop_j (fun z e B => Fr S0 A1 B ∧ e.get 3 = .ptr A.blk.length 0 ∧ e.get 10 = kv ∧ e.get 11 = .int .i64 r.known.length ∧ ∃ i : Nat, z = r.known.length - i ∧ i ≤ r.known.length ∧ e.get 12 = .int .i64 i ∧ ¬ id ∈ r.known.take i)
    (fun z e B => Fr S0 A1 B ∧ (Is z (.exit 0) ∧ ¬ id ∈ r.known ∨ Is z .ret ∧ id ∈ r.known ∧ e.get 4 = .bool true))
    ⟨_, .refl _ _, rfl, rfl, rfl, 0, rfl, by omega, rfl, by simp⟩ ?_ ?_
  rotate_left
  · rintro z e B hz ⟨hf, ⟨rfl, hn⟩ | ⟨rfl, hy, h4⟩⟩
    · simp only [RT, Nat.reduceLT, Nat.reduceBEq, Nat.reduceEqDiff, Nat.reduceAdd, Int.reduceEq, Int.reduceLT, Int.reduceLE, Int.reduceGT, Int.reduceGE]
      exact ⟨f1.then0 hf, by rw [decide_eq_false hn]⟩
    · simp only [RT, Nat.reduceLT, Nat.reduceBEq, Nat.reduceEqDiff, Nat.reduceAdd, Int.reduceEq, Int.reduceLT, Int.reduceLE, Int.reduceGT, Int.reduceGE, h4]
      exact ⟨f1.then0 hf, by rw [decide_eq_true hy]⟩
  rintro z e B ⟨hf, h3, h10, h11, i, rfl, hi, h12, hno⟩
  simp only [RT, Nat.reduceLT, Nat.reduceBEq, Nat.reduceEqDiff, Nat.reduceAdd, Int.reduceEq, Int.reduceLT, Int.reduceLE, Int.reduceGT, Int.reduceGE, h11, h12]
  refine condK_of (fun g => ?_) (fun g => ?_)
  rotate_left
  · simp only [RT, Nat.reduceLT, Nat.reduceBEq, Nat.reduceEqDiff, Nat.reduceAdd, Int.reduceEq, Int.reduceLT, Int.reduceLE, Int.reduceGT, Int.reduceGE]
    have : i = r.known.length := by omega
    subst this
    rw [List.take_length] at hno
    exact ⟨hf, .inl ⟨rfl, hno⟩⟩
  obtain ⟨x, hx⟩ := get_lt (l := r.known) (i := i) (by omega)
  obtain ⟨b, o, c, g3, g4, g5⟩ := (b2.fr0 hf).at (P := Try.prog) (k := .i64) (Hp.on_emp B) Try.underlying26 sz39 ag39 hx
  obtain ⟨rfl, hxl⟩ := eId_W.1 g5
  obtain ⟨C, t1, t2, t3⟩ := newId (A := B) hxl
  simp only [RT, Nat.reduceLT, Nat.reduceBEq, Nat.reduceEqDiff, Nat.reduceAdd, Int.reduceEq, Int.reduceLT, Int.reduceLE, Int.reduceGT, Int.reduceGE, h10, h12, g3, g4, zcI, t1, ldId t3 hxl, h3, ldId (t2.row0 (hf.row0 r1)) hid, eqZ hxl hid]
  by_cases q : x = id
  · simp only [RT, Nat.reduceLT, Nat.reduceBEq, Nat.reduceEqDiff, Nat.reduceAdd, Int.reduceEq, Int.reduceLT, Int.reduceLE, Int.reduceGT, Int.reduceGE, decide_eq_true q]
    exact ⟨hf.then0 t2, .inr ⟨rfl, by rw [← q]; exact List.mem_of_getElem? hx⟩⟩
  · simp only [RT, Nat.reduceLT, Nat.reduceBEq, Nat.reduceEqDiff, Nat.reduceAdd, Int.reduceEq, Int.reduceLT, Int.reduceLE, Int.reduceGT, Int.reduceGE, decide_eq_false q, h12]
    refine ⟨r.known.length - (i + 1), by omega, hf.then0 t2, h3, h10, h11, i + 1, rfl, by omega, by rw [wrapS (by omega)], fun y => ?_⟩
    rw [take_snoc hx] at y
    rcases List.mem_append.1 y with y | y
    · exact hno y
    · simp at y; exact q y.symm
set_option maxRecDepth 10000 in
set_option maxHeartbeats 8000000 in
theorem sure_spec (hw : WF A) (h : IsRd A rp r cp vb fk fa) (R K : Int) : ∃ w A', EvF Try.prog HH 46 [.ptr rp 0, .int .i64 R, .int .i64 K] A w A' ∧ Fr S0 A A' ∧ ∃ x, x.length = 32 ∧ w = .tup [.agg (bc x), .bool (r.sure R K).isSome] ∧ ∀ id, r.sure R K = some id → x = id := by
  refine run_fn2 rfl Try.func46 (by unfold Try.f46; rfl) Try.ntmps46 (by unfold Try.f46; rfl) (by simp) ?_
  simp only [RT, Nat.reduceLT, Nat.reduceBEq, Nat.reduceEqDiff, Nat.reduceAdd, Int.reduceEq, Int.reduceLT, Int.reduceLE, Int.reduceGT, Int.reduceGE, zcI]
  obtain ⟨A1, e1, f1, r1, n1⟩ := new_var A (bc z32)
  rw [← e1]
  have h1 := h.fr0 f1
  obtain ⟨kv, av, b1, b2, b3⟩ := h1.box
  have ld := ldR b1 h1.ok
  simp only [RT, Nat.reduceLT, Nat.reduceBEq, Nat.reduceEqDiff, Nat.reduceAdd, Int.reduceEq, Int.reduceLT, Int.reduceLE, Int.reduceGT, Int.reduceGE, (faR rp), ld]
  obtain ⟨_, A2, k1, k2, rfl⟩ := sureC_spec (r := R) (k := K) (f1.wf hw) h1.cnt
  refine run_call1 k1 ?_
  obtain ⟨x, hx⟩ : ∃ x, x = (sureI r.n r.v R K).getD z32 := ⟨_, rfl⟩
  have hxl : x.length = 32 := by
    rw [hx]
    cases q : sureI r.n r.v R K with
    | none => rfl
    | some y => exact sureI_len h1.cnt q
  rw [← hx]
  obtain ⟨A3, t1, t2, t3⟩ := newId (A := A2) hxl
  have r3 := t2.row0 (k2.row0 r1)
  have f3 := (f1.then0 k2).then0 t2
  simp only [RT, Nat.reduceLT, Nat.reduceBEq, Nat.reduceEqDiff, Nat.reduceAdd, Int.reduceEq, Int.reduceLT, Int.reduceLE, Int.reduceGT, Int.reduceGE, zcI, t1]
  obtain ⟨_, A4, m1, rfl, m2⟩ := nil_spec (A := A3)
  have ne : A.blk.length ≠ A2.blk.length := by have := k2.len; omega
  cases hs : sureI r.n r.v R K with
  | none =>
    have e : r.sure R K = none := by unfold Rd.sure; rw [hs]
    obtain ⟨A5, s1, s2, s3⟩ := setId r3 z32_len hxl
    simp only [RT, Nat.reduceLT, Nat.reduceBEq, Nat.reduceEqDiff, Nat.reduceAdd, Int.reduceEq, Int.reduceLT, Int.reduceLE, Int.reduceGT, Int.reduceGE, pl_46_2, ldId t3 hxl, rc_nil, Option.isSome_none, s1]
    refine ⟨rc_load (ha := rfl) rfl (ldId t3 hxl) rfl <| rc_skip rfl rfl rfl rfl rc_nil, rc_skip rfl rfl rfl rfl rc_nil, ?_⟩
    simp only [RT, Nat.reduceLT, Nat.reduceBEq, Nat.reduceEqDiff, Nat.reduceAdd, Int.reduceEq, Int.reduceLT, Int.reduceLE, Int.reduceGT, Int.reduceGE, ldId s3 hxl]
    exact ⟨f3.row_ s2 (Nat.le_refl _), x, hxl, by rw [e]; rfl, fun id hid => by rw [e] at hid; cases hid⟩
  | some y =>
    have hxy : x = y := by rw [hx, hs]; rfl
    have hyl := sureI_len h1.cnt hs
    simp only [RT, Nat.reduceLT, Nat.reduceBEq, Nat.reduceEqDiff, Nat.reduceAdd, Int.reduceEq, Int.reduceLT, Int.reduceLE, Int.reduceGT, Int.reduceGE, pl_46_2, ldId t3 hxl, rc_nil, Option.isSome_some]
    refine run_call1 m1 ?_
    have r4 := m2.row0 r3
    have t4 := m2.row0 t3
    obtain ⟨A5, s1, s2, s3⟩ := setId r4 z32_len hxl
    simp only [RT, Nat.reduceLT, Nat.reduceBEq, Nat.reduceEqDiff, Nat.reduceAdd, Int.reduceEq, Int.reduceLT, Int.reduceLE, Int.reduceGT, Int.reduceGE]
    refine ⟨rc_load (ha := rfl) rfl (ldId t4 hxl) rfl <| rc_gload rfl rfl rfl rfl rfl (ldId t4 hxl) rfl rc_nil, ?_⟩
    simp only [RT, Nat.reduceLT, Nat.reduceBEq, Nat.reduceEqDiff, Nat.reduceAdd, Int.reduceEq, Int.reduceLT, Int.reduceLE, Int.reduceGT, Int.reduceGE, eqZ hxl n32_len, rc_nil, s1]
    refine ⟨rc_gload rfl rfl rfl rfl rfl (ldId (s2.rowNe t4 (fun q => ne q.symm)) hxl) rfl rc_nil, ?_⟩
    simp only [RT, Nat.reduceLT, Nat.reduceBEq, Nat.reduceEqDiff, Nat.reduceAdd, Int.reduceEq, Int.reduceLT, Int.reduceLE, Int.reduceGT, Int.reduceGE, ldId s3 hxl]
    refine ⟨(f3.then0 m2).row_ s2 (Nat.le_refl _), x, hxl, ?_, ?_⟩
    · unfold Rd.sure; rw [hs]; subst hxy
      by_cases q : x = n32
      · simp [q]
      · simp [q]
    · intro id hid
      unfold Rd.sure at hid; rw [hs] at hid
      simp only [] at hid
      split at hid
      · simp at hid
      · cases hid; exact hxy
end
end Go.Sv.Try
