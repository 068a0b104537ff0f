/- Rounds of agreement, without the program: what somebody does, as values. -/
import Derived.Test.YtajbkniodcbcjaaSv4
namespace Go.Sv
set_option linter.unusedVariables false
set_option linter.unusedSimpArgs false
def z32 : Bts := List.replicate 32 0
def n32 : Bts := List.replicate 31 0 ++ [1]
theorem z32_ne : z32 ≠ n32 := by decide
theorem z32_len : z32.length = 32 := by decide
theorem n32_len : n32.length = 32 := by decide
structure Act where
  kind : Int
  round : Int
  num : Int
  valid : Int
  id : Bts
  deriving DecidableEq
structure Ofr where
  there : Bool
  valid : Int
  id : Bts
  deriving DecidableEq
abbrev Vt := Nat → Nat → Nat → Bts
def v0 : Vt := fun _ _ _ => z32
def off0 : Ofr := ⟨false, 0, z32⟩
def fltsI (n : Int) : Int := if n ≠ 1 ∧ n ≠ 4 ∧ n ≠ 7 then -1 else n.tdiv 3
def okN (n : Nat) : Prop := n = 1 ∨ n = 4 ∨ n = 7
instance (n : Nat) : Decidable (okN n) := by unfold okN; infer_instance
def flts (n : Nat) : Nat := n / 3
def need (n : Nat) : Nat := 2 * (n / 3) + 1
theorem flts_ok {n : Nat} (h : okN n) : fltsI n = flts n := by rcases h with rfl | rfl | rfl <;> decide
theorem flts_bad {n : Int} (h : fltsI n < 0) : ¬ (n = 1 ∨ n = 4 ∨ n = 7) := by
  intro q; rcases q with rfl | rfl | rfl <;> revert h <;> decide
theorem flts_good {n : Int} (h : ¬ fltsI n < 0) : ∃ m : Nat, n = m ∧ okN m := by
  unfold fltsI at h
  split at h
  · omega
  · exact ⟨n.toNat, by omega, by unfold okN; omega⟩
def right (n : Nat) (r k w : Int) : Prop := 0 ≤ r ∧ r < 12 ∧ (k = 0 ∨ k = 1) ∧ 0 ≤ w ∧ w < n
instance (n : Nat) (r k w : Int) : Decidable (right n r k w) := by unfold right; infer_instance
def putC (n : Nat) (v : Vt) (r k w : Int) (id : Bts) : Int := if ¬ right n r k w ∨ id = z32 then 1 else if v r.toNat k.toNat w.toNat ≠ z32 then 5 else 0
def setV (v : Vt) (r k w : Nat) (id : Bts) : Vt := fun a b c => if a = r ∧ b = k ∧ c = w then id else v a b c
def putV (n : Nat) (v : Vt) (r k w : Int) (id : Bts) : Vt := if putC n v r k w id = 0 then setV v r.toNat k.toNat w.toNat id else v
def getV (n : Nat) (v : Vt) (r k w : Int) : Bts := if right n r k w then v r.toNat k.toNat w.toNat else z32
def castL (n : Nat) (v : Vt) (r k : Nat) : List (Nat × Bts) := ((List.range n).map fun w => (w, v r k w)).filter fun p => p.2 ≠ z32
def castI (n : Nat) (v : Vt) (r k : Int) : List (Nat × Bts) := if right n r k 0 then castL n v r.toNat k.toNat else []
def forL (l : List (Nat × Bts)) (id : Bts) : Nat := l.countP fun p => p.2 = id
def forI (n : Nat) (v : Vt) (r k : Int) (id : Bts) : Nat := forL (castI n v r k) id
def allI (n : Nat) (v : Vt) (r k : Int) : Nat := (castI n v r k).length
def sureI (n : Nat) (v : Vt) (r k : Int) : Option Bts := ((castI n v r k).find? fun p => need n ≤ forI n v r k p.2).map (·.2)
def voted (v : Vt) (r w : Nat) : Prop := v r 0 w ≠ z32 ∨ v r 1 w ≠ z32
instance (v : Vt) (r w : Nat) : Decidable (voted v r w) := by unfold voted; infer_instance
def aheadW (n : Nat) (v : Vt) (r : Nat) : (fuel w left : Nat) → Bool
  | 0, _, _ => false
  | k + 1, w, left =>
    if voted v r w then (if left - 1 = 0 then true else if left - 1 > n - 1 - w then false else aheadW n v r k (w + 1) (left - 1)) else aheadW n v r k (w + 1) left
def aheadR (n : Nat) (v : Vt) (now : Int) : Nat → Option Nat
  | 0 => none
  | r + 1 => if (r : Int) > now then (if aheadW n v r n 0 (flts n + 1) then some r else aheadR n v now r) else none
def aheadI (n : Nat) (v : Vt) (now : Int) : Option Nat := aheadR n v now 12
structure Rd where
  n : Nat
  me : Nat
  height : Int
  now : Int
  step : Int
  locked : Int
  valid : Int
  lock : Bts
  best : Bts
  fresh : Bts
  offers : Nat → Ofr
  known : List Bts
  v : Vt
  timed : Nat → Nat → Bool
  acts : List Act
def rd0 (n me : Nat) (height : Int) : Rd := ⟨n, me, height, -1, 3, 0, 0, z32, z32, z32, fun _ => off0, [], v0, fun _ _ => false, []⟩
def proposer (n h r : Int) : Int :=
  if n < 1 ∨ h < 0 ∨ r < 0 then 0 else if h.tmod n ≥ n - r.tmod n then h.tmod n - (n - r.tmod n) else h.tmod n + r.tmod n
def Rd.do_ (r : Rd) (a : Act) : Rd := { r with acts := r.acts ++ [a] }
def set2 {α : Type} (f : Nat → Nat → α) (a b : Nat) (x : α) : Nat → Nat → α := fun i j => if i = a ∧ j = b then x else f i j
def set1 {α : Type} (f : Nat → α) (a : Nat) (x : α) : Nat → α := fun i => if i = a then x else f i
def Rd.timer (r : Rd) (step : Nat) : Rd :=
  if r.timed r.now.toNat step = true then r else ({ r with timed := set2 r.timed r.now.toNat step true } : Rd).do_ ⟨3, r.now, step, 0, z32⟩
def Rd.vote (r : Rd) (kind : Nat) (id : Bts) : Rd :=
  let r1 := if putC r.n r.v r.now kind r.me id = 0 then ({ r with v := putV r.n r.v r.now kind r.me id } : Rd).do_ ⟨2, r.now, kind, 0, id⟩ else r
  { r1 with step := 1 + kind }
def Rd.begin (r : Rd) (round : Int) : Rd :=
  if 12 ≤ round then { r with step := 3 } else
  let r1 : Rd := { r with now := round, step := 0 }
  if proposer r.n r.height round ≠ r.me then r1.timer 0 else
  let id := if r.valid > 0 then r.best else r.fresh
  if (r.offers round.toNat).there = true then r1
  else if id = z32 ∨ r.valid > 0 ∧ ¬ id ∈ r.known then r1.timer 0
  else ({ r1 with offers := set1 r1.offers round.toNat ⟨true, r.valid, id⟩ } : Rd).do_ ⟨1, round, 0, r.valid, id⟩
def Rd.sure (r : Rd) (round : Int) (kind : Int) : Option Bts := match sureI r.n r.v round kind with
  | some id => if id = n32 then none else some id
  | none => none
def Rd.agreed (r : Rd) : Option (Nat × Bts) := (List.range 12).findSome? fun (k : Nat) => match r.sure (k : Int) 1 with
  | some id => if id ∈ r.known then some (k, id) else none
  | none => none
def Rd.rest (r : Rd) : Rd × Bool :=
  let last : Rd × Bool :=
    if r.step = 1 ∧ need r.n ≤ forI r.n r.v r.now 0 n32 then (r.vote 1 n32, true) else
    let r1 := if r.step = 1 ∧ need r.n ≤ allI r.n r.v r.now 0 then r.timer 1 else r
    (if need r.n ≤ allI r.n r.v r.now 1 then r1.timer 2 else r1, false)
  match r.sure r.now 0 with
  | some id => if id ∈ r.known ∧ r.step ≥ 1 ∧ r.valid ≠ r.now + 1 then
      let r1 : Rd := { r with valid := r.now + 1, best := id }
      (if r.step = 1 then ({ r1 with locked := r.now + 1, lock := id } : Rd).vote 1 id else r1, true)
    else last
  | none => last
def Rd.choice (r : Rd) (o : Ofr) : Option Bts :=
  if o.valid = 0 ∧ (r.locked = 0 ∨ r.lock = o.id) then some o.id
  else if o.valid > 0 ∧ o.valid ≤ r.now then
    (if r.sure (o.valid - 1) 0 ≠ some o.id then none else if r.locked ≤ o.valid ∨ r.lock = o.id then some o.id else some n32)
  else some n32
def Rd.rule (r : Rd) : Rd × Bool :=
  if r.now < 0 ∨ r.step = 3 then (r, false) else
  match r.agreed with
  | some (k, id) => (({ r with step := 3 } : Rd).do_ ⟨4, k, 0, 0, id⟩, true)
  | none =>
    match aheadI r.n r.v r.now with
    | some k => (r.begin k, true)
    | none =>
      if r.step = 0 ∧ (r.offers r.now.toNat).there = true ∧ (r.offers r.now.toNat).id ∈ r.known then
        (match r.choice (r.offers r.now.toNat) with
        | some id => (r.vote 0 id, true)
        | none => r.rest)
      else r.rest
def Rd.rules : Nat → Rd → Rd
  | 0, r => r
  | k + 1, r => if r.rule.2 = true then Rd.rules k r.rule.1 else r.rule.1
def Rd.settle (r : Rd) : Rd × List Act := ({ Rd.rules 1000 r with acts := [] }, (Rd.rules 1000 r).acts)
def Rd.Begin (r : Rd) (fresh : Bts) : Rd × List Act :=
  if r.now ≥ 0 then r.settle else (({ r with fresh := if fresh = z32 then r.fresh else fresh } : Rd).begin 0).settle
def Rd.Recall (r : Rd) (a : Act) : Rd :=
  if a.round < 0 ∨ a.round ≥ 12 ∨ a.id = z32 then r
  else if a.kind = 1 then (if (r.offers a.round.toNat).there = false ∧ a.valid ≥ 0 ∧ a.valid ≤ a.round then { r with offers := set1 r.offers a.round.toNat ⟨true, a.valid, a.id⟩ } else r)
  else if a.kind = 2 then
    (if putC r.n r.v a.round a.num r.me a.id ≠ 0 then r else
      let r1 : Rd := { r with v := putV r.n r.v a.round a.num r.me a.id }
      if a.round < r.now then r1 else
      let r2 : Rd := { r1 with now := a.round, step := 1 + a.num }
      if a.num = 1 ∧ a.id ≠ n32 then { r2 with locked := a.round + 1, lock := a.id, valid := a.round + 1, best := a.id } else r2)
  else r
def Rd.Remember (r : Rd) (id : Bts) : Rd := if id ≠ z32 ∧ ¬ id ∈ r.known ∧ r.known.length < 32 then { r with known := r.known ++ [id] } else r
def Rd.Know (r : Rd) (id : Bts) : Rd × List Act := (r.Remember id).settle
def Rd.Offered (r : Rd) (round valid : Int) (id : Bts) : Rd × List Act :=
  (if 0 ≤ round ∧ round < 12 ∧ 0 ≤ valid ∧ valid ≤ round ∧ id ≠ z32 ∧ id ≠ n32 ∧ (r.offers round.toNat).there = false then ({ r with offers := set1 r.offers round.toNat ⟨true, valid, id⟩ } : Rd) else r).settle
def Rd.Voted (r : Rd) (round kind who : Int) (id : Bts) : Rd × List Act :=
  (if who ≠ r.me then ({ r with v := putV r.n r.v round kind who id } : Rd) else r).settle
def Rd.Timeout (r : Rd) (round step : Int) : Rd × List Act :=
  (if round = r.now ∧ r.step ≠ 3 then
    (if step = 0 ∧ r.step = 0 then r.vote 0 n32 else if step = 1 ∧ r.step = 1 then r.vote 1 n32 else if step = 2 then r.begin (round + 1) else r)
  else r).settle
structure RIn where
  kind : Int
  round : Int
  num : Int
  who : Int
  valid : Int
  id : Bts
def Rd.give (r : Rd) (i : RIn) : Rd × List Act :=
  if i.kind = 0 then r.Begin i.id else if i.kind = 1 then r.Know i.id else if i.kind = 2 then r.Offered i.round i.valid i.id
  else if i.kind = 3 then r.Voted i.round i.num i.who i.id else if i.kind = 4 then r.Timeout i.round i.num
  else if i.kind = 5 then ({ r with fresh := i.id }, []) else if i.kind = 7 then (r.Remember i.id, [])
  else if i.kind = 6 then (r.Recall ⟨i.who, i.round, i.num, i.valid, i.id⟩, []) else (r, [])
end Go.Sv
namespace Go.Sv
set_option linter.unusedVariables false
set_option linter.unusedSimpArgs false
def sureN (n : Nat) (v : Vt) (r k : Int) : Option Bts := match sureI n v r k with
  | some id => if id = n32 then none else some id
  | none => none
theorem Rd.sure_eq (r : Rd) (a k : Int) : r.sure a k = sureN r.n r.v a k := rfl
structure Led where
  v : Vt
  off : Nat → Bool
  tim : Nat → Nat → Bool
  lk : Int × Bts
  top : Int
  done : Bool
def Led.after (me : Nat) (s : Led) (a : Act) : Led :=
  if a.kind = 1 then { s with off := set1 s.off a.round.toNat true }
  else if a.kind = 2 then { s with v := setV s.v a.round.toNat a.num.toNat me a.id, top := a.round, lk := if a.num = 1 ∧ a.id ≠ n32 then (a.round + 1, a.id) else s.lk }
  else if a.kind = 3 then { s with tim := set2 s.tim a.round.toNat a.num.toNat true }
  else { s with done := true }
inductive Led.ok (n me : Nat) (known : List Bts) (s : Led) : Act → Prop where
  | send (R val : Int) (id : Bts) (h : s.done = false) (h1 : 0 ≤ R) (h2 : R < 12) (h3 : s.off R.toNat = false) : Led.ok n me known s ⟨1, R, 0, val, id⟩
  | vote (R K : Int) (id : Bts) (h : s.done = false) (h1 : putC n s.v R K me id = 0) (h2 : s.top ≤ R)
      (h3 : id = n32 ∨ (K = 1 ∧ sureN n s.v R 0 = some id) ∨ (K = 0 ∧ s.lk.1 ≤ R ∧ (s.lk.1 = 0 ∨ s.lk.2 = id ∨ ∃ k : Int, s.lk.1 - 1 ≤ k ∧ k < R ∧ 0 ≤ k ∧ sureN n s.v k 0 = some id))) : Led.ok n me known s ⟨2, R, K, 0, id⟩
  | tim (R K : Int) (h : s.done = false) (h1 : 0 ≤ R) (h2 : R < 12) (h3 : 0 ≤ K) (h4 : K < 3) (h5 : s.tim R.toNat K.toNat = false) : Led.ok n me known s ⟨3, R, K, 0, z32⟩
  | done (R : Int) (id : Bts) (h : s.done = false) (h1 : sureN n s.v R 1 = some id) (h2 : id ∈ known) : Led.ok n me known s ⟨4, R, 0, 0, id⟩
def Led.good (n me : Nat) (known : List Bts) : Led → List Act → Prop
  | _, [] => True
  | s, a :: l => s.ok n me known a ∧ Led.good n me known (s.after me a) l
theorem Led.good_app {n me : Nat} {known : List Bts} : ∀ {s : Led} {l l' : List Act}, Led.good n me known s (l ++ l') ↔ Led.good n me known s l ∧ Led.good n me known (l.foldl (Led.after me) s) l'
  | s, [], l' => by simp [Led.good]
  | s, a :: l, l' => by simp only [List.cons_append, Led.good, List.foldl_cons]; rw [Led.good_app, and_assoc]
structure Mt (s : Led) (r : Rd) : Prop where
  v : s.v = r.v
  off : ∀ i, s.off i = (r.offers i).there
  tim : s.tim = r.timed
  lk : s.lk = (r.locked, r.lock)
  top : s.top ≤ r.now
  done : s.done = true → r.step = 3 ∧ 0 ≤ r.now
  nokn : z32 ∉ r.known
  okn : okN r.n
  me : r.me < r.n
  now : -1 ≤ r.now ∧ r.now < 12
  neg : r.now < 0 → r.step = 3
  later : ∀ (R K : Nat), r.now < R → r.v R K r.me = z32
  s0 : r.step = 0 → ∀ K, r.v r.now.toNat K r.me = z32
  s1 : r.step = 1 → r.v r.now.toNat 1 r.me = z32
  lockle : r.locked ≤ r.now + 1
  lock0 : r.step = 0 → r.locked ≤ r.now
  lockp : 0 ≤ r.locked
def MA (s : Led) (r : Rd) : Prop := Led.good r.n r.me r.known s r.acts ∧ Mt (r.acts.foldl (Led.after r.me) s) r
theorem castL_ne {n : Nat} {v : Vt} {r k : Nat} {p : Nat × Bts} (h : p ∈ castL n v r k) : p.2 ≠ z32 ∧ p.1 < n ∧ p.2 = v r k p.1 := by
  unfold castL at h
  rw [List.mem_filter, List.mem_map] at h
  obtain ⟨⟨w, h1, rfl⟩, h2⟩ := h
  exact ⟨by simpa using h2, List.mem_range.1 h1, rfl⟩
theorem sureI_some {n : Nat} {v : Vt} {r k : Int} {id : Bts} (h : sureI n v r k = some id) : right n r k 0 ∧ id ≠ z32 ∧ need n ≤ forI n v r k id := by
  unfold sureI at h
  rw [Option.map_eq_some_iff] at h
  obtain ⟨p, h1, rfl⟩ := h
  have h2 := List.find?_some h1
  have h3 := List.mem_of_find?_eq_some h1
  unfold castI at h3
  split at h3
  · rename_i q
    exact ⟨q, (castL_ne h3).1, by simpa using h2⟩
  · simp at h3
theorem sureN_some {n : Nat} {v : Vt} {r k : Int} {id : Bts} (h : sureN n v r k = some id) : sureI n v r k = some id ∧ id ≠ n32 := by
  unfold sureN at h
  split at h
  · rename_i x hx
    split at h
    · simp at h
    · cases h; exact ⟨hx, ‹_›⟩
  · simp at h
theorem aheadR_some {n : Nat} {v : Vt} {now : Int} : ∀ {r k : Nat}, aheadR n v now r = some k → now < k ∧ k < r
  | 0, k, h => by simp [aheadR] at h
  | r + 1, k, h => by
    unfold aheadR at h
    split at h
    · split at h
      · cases h; omega
      · have := aheadR_some h; omega
    · simp at h
section
variable {s : Led} {r : Rd}
theorem MA.snoc {a : Act} {r' : Rd} (h : MA s r) (hn : r'.n = r.n) (hm : r'.me = r.me) (hk : r'.known = r.known) (ha : r'.acts = r.acts ++ [a])
    (ho : (r.acts.foldl (Led.after r.me) s).ok r.n r.me r.known a) (hM : Mt ((r.acts.foldl (Led.after r.me) s).after r.me a) r') : MA s r' := by
  unfold MA
  rw [hn, hm, hk, ha, Led.good_app, List.foldl_append]
  exact ⟨⟨h.1, ho, trivial⟩, hM⟩
theorem MA.same {r' : Rd} (h : MA s r) (hn : r'.n = r.n) (hm : r'.me = r.me) (hk : r'.known = r.known) (ha : r'.acts = r.acts) (hM : Mt (r.acts.foldl (Led.after r.me) s) r') : MA s r' := by
  unfold MA
  rw [hn, hm, hk, ha]
  exact ⟨h.1, hM⟩
theorem MA.nodone (h : MA s r) (hs : r.step ≠ 3 ∨ r.now < 0) : (r.acts.foldl (Led.after r.me) s).done = false := by
  cases q : (r.acts.foldl (Led.after r.me) s).done with
  | false => rfl
  | true => have := h.2.done q; omega
theorem after_send (me : Nat) (s : Led) (R val : Int) (id : Bts) : s.after me ⟨1, R, 0, val, id⟩ = { s with off := set1 s.off R.toNat true } := by simp [Led.after]
theorem after_vote (me : Nat) (s : Led) (R K : Int) (id : Bts) : s.after me ⟨2, R, K, 0, id⟩ = { s with v := setV s.v R.toNat K.toNat me id, top := R, lk := if K = 1 ∧ id ≠ n32 then (R + 1, id) else s.lk } := by simp [Led.after]
theorem after_tim (me : Nat) (s : Led) (R K : Int) : s.after me ⟨3, R, K, 0, z32⟩ = { s with tim := set2 s.tim R.toNat K.toNat true } := by simp [Led.after]
theorem after_done (me : Nat) (s : Led) (R : Int) (id : Bts) : s.after me ⟨4, R, 0, 0, id⟩ = { s with done := true } := by simp [Led.after]
theorem MA.timer (h : MA s r) {k : Nat} (hk : k < 3) (h3 : r.step ≠ 3) (h0 : 0 ≤ r.now) : MA s (r.timer k) ∧ (r.timer k).step = r.step ∧ (r.timer k).now = r.now := by
  unfold Rd.timer
  split
  · exact ⟨h, rfl, rfl⟩
  · rename_i q
    refine ⟨h.snoc rfl rfl rfl rfl (.tim _ _ (h.nodone (.inl h3)) h0 h.2.now.2 (by omega) (by omega) ?_) ?_, rfl, rfl⟩
    · rw [h.2.tim]; simpa using q
    · rw [after_tim]
      have m := h.2
      exact { m with tim := by simp only [m.tim]; rfl }
theorem MA.vote (h : MA s r) {k : Nat} (hk : k < 2) (hs : r.step = k) (h0 : 0 ≤ r.now) {id : Bts} (hid : id ≠ z32)
    (h3 : id = n32 ∨ (k = 1 ∧ sureN r.n r.v r.now 0 = some id) ∨ (k = 0 ∧ (r.locked = 0 ∨ r.lock = id ∨ ∃ j : Int, r.locked - 1 ≤ j ∧ j < r.now ∧ 0 ≤ j ∧ sureN r.n r.v j 0 = some id))) :
    MA s (({ r with locked := if k = 1 ∧ id ≠ n32 then r.now + 1 else r.locked, lock := if k = 1 ∧ id ≠ n32 then id else r.lock } : Rd).vote k id) := by
  have m := h.2
  have hv : r.v r.now.toNat k r.me = z32 := by
    match k, hk with
    | 0, _ => exact m.s0 hs 0
    | 1, _ => exact m.s1 hs
  have hp : putC r.n r.v r.now k r.me id = 0 := by
    unfold putC
    rw [if_neg, if_neg]
    · rw [Int.toNat_natCast, Int.toNat_natCast, hv]; simp
    · rintro (q | q)
      · refine q ⟨h0, m.now.2, ?_, by omega, by have := m.me; omega⟩
        omega
      · exact hid q
  have nd := h.nodone (.inl (fun q => by rw [hs] at q; omega))
  unfold Rd.vote
  simp only []
  rw [if_pos hp]
  refine MA.snoc (a := ⟨2, r.now, k, 0, id⟩) h rfl rfl rfl rfl (.vote _ _ _ nd (by rw [m.v]; exact hp) m.top ?_) ?_
  · rw [m.v, m.lk]
    rcases h3 with q | ⟨q1, q2⟩ | ⟨q1, q2⟩
    · exact .inl q
    · exact .inr (.inl ⟨by omega, q2⟩)
    · exact .inr (.inr ⟨by omega, m.lock0 (by omega), q2⟩)
  · rw [after_vote]
    have hpv : putV r.n r.v r.now k r.me id = setV r.v r.now.toNat k r.me id := by unfold putV; rw [if_pos hp, Int.toNat_natCast, Int.toNat_natCast]
    have hk' : ((k : Int) = 1 ∧ id ≠ n32) ↔ (k = 1 ∧ id ≠ n32) := ⟨fun q => ⟨by omega, q.2⟩, fun q => ⟨by omega, q.2⟩⟩
    refine { m with v := ?_, lk := ?_, top := by show r.now ≤ r.now; omega, done := ?_, neg := ?_, later := ?_, s0 := ?_, s1 := ?_, lockle := ?_, lock0 := ?_, lockp := ?_ }
    · show setV _ _ _ _ _ = putV _ _ _ _ _ _
      rw [hpv, m.v, Int.toNat_natCast]
    · show (if _ then _ else _) = (_, _)
      simp only [hk']
      split
      · rfl
      · exact m.lk
    · intro q
      have : (r.acts.foldl (Led.after r.me) s).done = true := q
      rw [nd] at this; simp at this
    · intro q; have q : r.now < 0 := q; omega
    · intro R K q
      show putV _ _ _ _ _ _ R K r.me = z32
      have q : r.now < (R : Int) := q
      rw [hpv]; unfold setV
      rw [if_neg (by omega)]
      exact m.later R K q
    · intro q
      have q : (1 : Int) + k = 0 := q
      omega
    · intro q
      have q : (1 : Int) + k = 1 := q
      show putV _ _ _ _ _ _ r.now.toNat 1 r.me = z32
      have hk0 : k = 0 := by omega
      rw [hpv]; unfold setV
      rw [if_neg (by omega)]
      exact m.s0 (by omega) 1
    · have q : (if k = 1 ∧ id ≠ n32 then r.now + 1 else r.locked) ≤ r.now + 1 := by
        split
        · exact Int.le_refl _
        · exact m.lockle
      exact q
    · intro q
      have q : (1 : Int) + k = 0 := q
      omega
    · have q : 0 ≤ (if k = 1 ∧ id ≠ n32 then r.now + 1 else r.locked) := by
        have := m.lockp
        split
        · exact Int.le_trans h0 (by exact Int.le_add_one (Int.le_refl _))
        · exact this
      exact q
theorem MA.vote0 (h : MA s r) {k : Nat} (hk : k < 2) (hs : r.step = k) (h0 : 0 ≤ r.now) {id : Bts} (hid : id ≠ z32)
    (h3 : id = n32 ∨ (k = 0 ∧ (r.locked = 0 ∨ r.lock = id ∨ ∃ j : Int, r.locked - 1 ≤ j ∧ j < r.now ∧ 0 ≤ j ∧ sureN r.n r.v j 0 = some id))) : MA s (r.vote k id) := by
  have := h.vote hk hs h0 hid (h3.imp (fun q => q) .inr)
  have e : ¬ (k = 1 ∧ id ≠ n32) := by rcases h3 with q | q <;> simp [q] <;> omega
  rw [if_neg e, if_neg e] at this
  exact this
theorem MA.begin (h : MA s r) {R : Int} (hR : r.now < R) (hs : r.step ≠ 3 ∨ r.now < 0) (hR0 : 0 ≤ R) (h12 : R ≥ 12 → 0 ≤ r.now) : MA s (r.begin R) := by
  have m := h.2
  have nd := h.nodone hs
  unfold Rd.begin
  split
  · rename_i q
    refine h.same rfl rfl rfl rfl { m with done := fun q => by rw [nd] at q; simp at q, neg := fun _ => rfl, s0 := fun q => by simp at q, s1 := fun q => by simp at q, lock0 := fun q => by simp at q }
  · rename_i q
    have m1 : Mt (r.acts.foldl (Led.after r.me) s) { r with now := R, step := 0 } :=
      { m with top := Int.le_trans m.top (by show r.now ≤ R; omega), done := fun q => by rw [nd] at q; simp at q, now := ⟨by show -1 ≤ R; omega, by show R < 12; omega⟩, neg := fun q => by have q : R < 0 := q; omega
               later := fun a K w => m.later a K (by have w : R < (a : Int) := w; omega), s0 := fun _ K => by show r.v R.toNat K r.me = z32; exact m.later _ K (by omega), s1 := fun q => by simp at q
               lockle := by show r.locked ≤ R + 1; have := m.lockle; omega, lock0 := fun _ => by show r.locked ≤ R; have := m.lockle; omega }
    have h1 : MA s { r with now := R, step := 0 } := h.same rfl rfl rfl rfl m1
    simp only []
    generalize (if r.valid > 0 then r.best else r.fresh) = id
    split
    · exact (h1.timer (k := 0) (by omega) (by simp) hR0).1
    split
    · exact h1
    rename_i w
    split
    · exact (h1.timer (k := 0) (by omega) (by simp) hR0).1
    · refine h1.snoc rfl rfl rfl rfl (.send R _ _ nd hR0 (by omega) (by rw [m1.off]; simpa using w)) ?_
      rw [after_send]
      refine { m1 with off := fun i => ?_ }
      show set1 _ _ _ i = (set1 r.offers _ _ i).there
      unfold set1
      split
      · rfl
      · exact m1.off i
theorem choice_ok {o : Ofr} {id : Bts} (h : r.choice o = some id) : id = n32 ∨ (id = o.id ∧ (r.locked = 0 ∨ r.lock = id ∨ ∃ j : Int, r.locked - 1 ≤ j ∧ j < r.now ∧ 0 ≤ j ∧ sureN r.n r.v j 0 = some id)) := by
  unfold Rd.choice at h
  split at h
  · rename_i q
    cases h
    exact .inr ⟨rfl, q.2.imp (fun w => w) .inl⟩
  split at h
  · rename_i q
    split at h
    · simp at h
    · rename_i w
      split at h
      · rename_i z
        cases h
        refine .inr ⟨rfl, ?_⟩
        rcases z with z | z
        · refine .inr (.inr ⟨o.valid - 1, by omega, by omega, by omega, ?_⟩)
          rw [← Rd.sure_eq]; exact Decidable.not_not.1 w
        · exact .inr (.inl z)
      · cases h; exact .inl rfl
  · cases h; exact .inl rfl
theorem MA.rest (h : MA s r) (h3 : r.step ≠ 3) (h0 : 0 ≤ r.now) : MA s r.rest.1 := by
  have last : MA s (if r.step = 1 ∧ need r.n ≤ forI r.n r.v r.now 0 n32 then (r.vote 1 n32, true) else
    (if need r.n ≤ allI r.n r.v r.now 1 then (if r.step = 1 ∧ need r.n ≤ allI r.n r.v r.now 0 then r.timer 1 else r).timer 2 else (if r.step = 1 ∧ need r.n ≤ allI r.n r.v r.now 0 then r.timer 1 else r), false) : Rd × Bool).1 := by
    split
    · rename_i q
      exact h.vote0 (k := 1) (by omega) q.1 h0 (fun q => z32_ne q.symm) (.inl rfl)
    · have h1 : MA s (if r.step = 1 ∧ need r.n ≤ allI r.n r.v r.now 0 then r.timer 1 else r) ∧ (if r.step = 1 ∧ need r.n ≤ allI r.n r.v r.now 0 then r.timer 1 else r).step = r.step ∧ (if r.step = 1 ∧ need r.n ≤ allI r.n r.v r.now 0 then r.timer 1 else r).now = r.now := by
        split
        · exact h.timer (by omega) h3 h0
        · exact ⟨h, rfl, rfl⟩
      show MA s (if _ then _ else _)
      split
      · exact (h1.1.timer (k := 2) (by omega) (by rw [h1.2.1]; exact h3) (by rw [h1.2.2]; exact h0)).1
      · exact h1.1
  unfold Rd.rest
  simp only []
  split
  · rename_i id hid
    rw [Rd.sure_eq] at hid
    split
    · rename_i q
      have h1 : MA s { r with valid := r.now + 1, best := id } := h.same rfl rfl rfl rfl { h.2 with }
      show MA s (if _ then _ else _)
      split
      · rename_i w
        have hn := (sureN_some hid).2
        have := h1.vote (k := 1) (by omega) w h0 (id := id) (sureI_some (sureN_some hid).1).2.1 (.inr (.inl ⟨rfl, hid⟩))
        rw [if_pos ⟨rfl, hn⟩, if_pos ⟨rfl, hn⟩] at this
        exact this
      · exact h1
    · exact last
  · exact last
theorem agreed_some {k : Nat} {id : Bts} (h : r.agreed = some (k, id)) : sureN r.n r.v k 1 = some id ∧ id ∈ r.known ∧ k < 12 := by
  unfold Rd.agreed at h
  obtain ⟨j, h1, h2⟩ := List.exists_of_findSome?_eq_some h
  rw [Rd.sure_eq] at h2
  split at h2
  · rename_i x hx
    split at h2
    · cases h2; exact ⟨hx, ‹_›, List.mem_range.1 h1⟩
    · simp at h2
  · simp at h2
theorem MA.rule (h : MA s r) : MA s r.rule.1 := by
  unfold Rd.rule
  split
  · exact h
  rename_i q
  have h3 : r.step ≠ 3 := by omega
  have h0 : 0 ≤ r.now := by omega
  have m := h.2
  split
  · rename_i k id hk
    obtain ⟨k1, k2, k3⟩ := agreed_some hk
    refine h.snoc rfl rfl rfl rfl (.done _ _ (h.nodone (.inl h3)) (by rw [m.v]; exact k1) k2) ?_
    rw [after_done]
    exact { m with done := fun _ => ⟨rfl, h0⟩, neg := fun _ => rfl, s0 := fun q => by simp [Rd.do_] at q, s1 := fun q => by simp [Rd.do_] at q, lock0 := fun q => by simp [Rd.do_] at q }
  · split
    · rename_i k hk
      have := aheadR_some hk
      exact h.begin this.1 (.inl h3) (by omega) (fun _ => h0)
    · split
      · rename_i w
        split
        · rename_i id hid
          rcases choice_ok hid with e | ⟨e, e2⟩
          · exact h.vote0 (k := 0) (by omega) w.1 h0 (fun z => z32_ne (by rw [← z, e])) (.inl e)
          · exact h.vote0 (k := 0) (by omega) w.1 h0 (fun z => m.nokn (by rw [← z, e]; exact w.2.2)) (.inr ⟨rfl, e2⟩)
        · exact h.rest h3 h0
      · exact h.rest h3 h0
theorem MA.rules : ∀ {k : Nat} {r : Rd}, MA s r → MA s (Rd.rules k r)
  | 0, r, h => h
  | k + 1, r, h => by
    unfold Rd.rules
    split
    · exact MA.rules h.rule
    · exact h.rule
end
end Go.Sv
namespace Go.Sv
set_option linter.unusedVariables false
set_option linter.unusedSimpArgs false
structure Kp (r r' : Rd) : Prop where
  n : r'.n = r.n
  me : r'.me = r.me
  height : r'.height = r.height
  known : r'.known = r.known
theorem Kp.rfl' (r : Rd) : Kp r r := ⟨rfl, rfl, rfl, rfl⟩
theorem Kp.trans {a b c : Rd} (h : Kp a b) (k : Kp b c) : Kp a c := ⟨k.n.trans h.n, k.me.trans h.me, k.height.trans h.height, k.known.trans h.known⟩
theorem kp_timer (r : Rd) (k : Nat) : Kp r (r.timer k) := by unfold Rd.timer; split <;> exact ⟨rfl, rfl, rfl, rfl⟩
theorem kp_vote (r : Rd) (k : Nat) (id : Bts) : Kp r (r.vote k id) := by unfold Rd.vote; simp only []; split <;> exact ⟨rfl, rfl, rfl, rfl⟩
theorem kp_begin (r : Rd) (R : Int) : Kp r (r.begin R) := by
  unfold Rd.begin
  split
  · exact ⟨rfl, rfl, rfl, rfl⟩
  · simp only []
    have h1 : Kp r { r with now := R, step := 0 } := ⟨rfl, rfl, rfl, rfl⟩
    generalize (if r.valid > 0 then r.best else r.fresh) = id
    split
    · exact h1.trans (kp_timer _ _)
    split
    · exact h1
    split
    · exact h1.trans (kp_timer _ _)
    · exact ⟨rfl, rfl, rfl, rfl⟩
theorem kp_rest (r : Rd) : Kp r r.rest.1 := by
  unfold Rd.rest
  simp only []
  have last : Kp r (if r.step = 1 ∧ need r.n ≤ forI r.n r.v r.now 0 n32 then (r.vote 1 n32, true) else
    (if need r.n ≤ allI r.n r.v r.now 1 then (if r.step = 1 ∧ need r.n ≤ allI r.n r.v r.now 0 then r.timer 1 else r).timer 2 else (if r.step = 1 ∧ need r.n ≤ allI r.n r.v r.now 0 then r.timer 1 else r), false) : Rd × Bool).1 := by
    split
    · exact kp_vote _ _ _
    · have h1 : Kp r (if r.step = 1 ∧ need r.n ≤ allI r.n r.v r.now 0 then r.timer 1 else r) := by
        split
        · exact kp_timer _ _
        · exact .rfl' r
      show Kp r (if _ then _ else _)
      split
      · exact h1.trans (kp_timer _ _)
      · exact h1
  split
  · split
    · show Kp r (if _ then _ else _)
      split
      · exact Kp.trans (b := { r with valid := r.now + 1, best := _, locked := r.now + 1, lock := _ }) ⟨rfl, rfl, rfl, rfl⟩ (kp_vote _ _ _)
      · exact ⟨rfl, rfl, rfl, rfl⟩
    · exact last
  · exact last
theorem kp_rule (r : Rd) : Kp r r.rule.1 := by
  unfold Rd.rule
  split
  · exact .rfl' r
  split
  · exact ⟨rfl, rfl, rfl, rfl⟩
  split
  · exact kp_begin _ _
  split
  · split
    · exact kp_vote _ _ _
    · exact kp_rest r
  · exact kp_rest r
theorem kp_rules : ∀ (k : Nat) (r : Rd), Kp r (Rd.rules k r)
  | 0, r => .rfl' r
  | k + 1, r => by
    unfold Rd.rules
    split
    · exact (kp_rule r).trans (kp_rules k _)
    · exact kp_rule r
section
variable {s : Led} {r : Rd}
theorem Mt.ma (h : Mt s r) (ha : r.acts = []) : MA s r := by unfold MA; rw [ha]; exact ⟨trivial, h⟩
structure Told (s : Led) (r : Rd) (x : Rd × List Act) : Prop where
  good : Led.good r.n r.me r.known s x.2
  mt : Mt (x.2.foldl (Led.after r.me) s) x.1
  acts : x.1.acts = []
  kp : Kp r x.1
theorem MA.settle (h : MA s r) : Told s r r.settle := by
  have h1 := h.rules (k := 1000)
  have k := kp_rules 1000 r
  refine ⟨?_, ?_, rfl, ⟨k.n, k.me, k.height, k.known⟩⟩
  · have := h1.1
    rw [k.n, k.me, k.known] at this; exact this
  · have := h1.2
    rw [k.me] at this
    exact { this with }
theorem Told.of {x : Rd × List Act} {r' : Rd} (h : Told s r' x) (k : Kp r r') : Told s r x := by
  refine ⟨?_, ?_, h.acts, k.trans h.kp⟩
  · have := h.good; rw [k.n, k.me, k.known] at this; exact this
  · have := h.mt; rw [k.me] at this; exact this
theorem settle_neg (h : r.now < 0) (ha : r.acts = []) : r.settle.2 = [] ∧ r.settle.1 = r := by
  have e : Rd.rules 1000 r = r := by
    show Rd.rules (999 + 1) r = r
    have : r.rule = (r, false) := by unfold Rd.rule; rw [if_pos (.inl h)]
    unfold Rd.rules; rw [this]; simp
  unfold Rd.settle
  rw [e]
  exact ⟨ha, by rw [← ha]⟩
theorem setV_other {v : Vt} {a b c : Nat} {id : Bts} {x y z : Nat} (h : z ≠ c) : setV v a b c id x y z = v x y z := by unfold setV; rw [if_neg (by omega)]
theorem putV_other {n : Nat} {v : Vt} {a b c : Int} {id : Bts} {x y z : Nat} (h : c ≠ z) : putV n v a b c id x y z = v x y z := by
  unfold putV
  split
  · rename_i q
    refine setV_other fun w => ?_
    unfold putC at q
    split at q
    · simp at q
    · rename_i w2
      have : right n a b c := by
        apply Decidable.not_not.1; intro w3; exact w2 (.inl w3)
      have := this.2.2.2.1
      omega
  · rfl
def giveV (n me : Nat) (v : Vt) (i : RIn) : Vt := if i.kind = 3 ∧ i.who ≠ me then putV n v i.round i.num i.who i.id else v
theorem Mt.v_ (h : Mt s r) {v : Vt} (hv : ∀ R K, v R K r.me = r.v R K r.me) : Mt { s with v := v } { r with v := v } :=
  { h with v := rfl, later := fun R K q => (hv R K).trans (h.later R K q), s0 := fun q K => (hv _ K).trans (h.s0 q K), s1 := fun q => (hv _ 1).trans (h.s1 q) }
theorem remember_known (r : Rd) (id : Bts) : (r.Remember id) = { r with known := (r.Remember id).known } := by unfold Rd.Remember; split <;> rfl
theorem remember_nok (h : z32 ∉ r.known) (id : Bts) : z32 ∉ (r.Remember id).known := by
  unfold Rd.Remember
  split
  · rename_i q
    show z32 ∉ r.known ++ [id]
    simp only [List.mem_append, List.mem_singleton, not_or]
    exact ⟨h, fun w => q.1 w.symm⟩
  · exact h
def giveK (r : Rd) (i : RIn) : List Bts := if i.kind = 1 ∨ i.kind = 7 then (r.Remember i.id).known else r.known
theorem give_ok (h : Mt s r) (ha : r.acts = []) {i : RIn} (hi : i.kind ≠ 6) : ∃ s1 : Led, s1.v = giveV r.n r.me s.v i ∧ (∀ j, s.off j = true → s1.off j = true) ∧ s1.tim = s.tim ∧ s1.lk = s.lk ∧ s1.top = s.top ∧ s1.done = s.done ∧
    Told s1 { r with known := giveK r i } (r.give i) ∧ (r.now < 0 → i.kind ≠ 0 → (r.give i).2 = []) := by
  unfold Rd.give giveV giveK
  by_cases h0 : i.kind = 0
  · rw [if_pos h0, if_neg (show ¬ (i.kind = 3 ∧ i.who ≠ r.me) by intro q; omega), if_neg (show ¬ (i.kind = 1 ∨ i.kind = 7) by omega)]
    refine ⟨s, rfl, fun _ q => q, rfl, rfl, rfl, rfl, ?_, fun _ q => absurd h0 q⟩
    unfold Rd.Begin
    split
    · exact (h.ma ha).settle
    · rename_i q
      have h1 : MA s { r with fresh := if i.id = z32 then r.fresh else i.id } := (h.ma ha).same rfl rfl rfl rfl { (h.ma ha).2 with }
      have := (h1.begin (R := 0) (by show r.now < 0; omega) (.inr (by show r.now < 0; omega)) (by omega) (by omega))
      exact this.settle.of (Kp.trans (b := { r with fresh := if i.id = z32 then r.fresh else i.id }) ⟨rfl, rfl, rfl, rfl⟩ (kp_begin _ _))
  rw [if_neg h0]
  by_cases h1 : i.kind = 1
  · rw [if_pos h1, if_neg (show ¬ (i.kind = 3 ∧ i.who ≠ r.me) by intro q; omega), if_pos (.inl h1)]
    have e := remember_known r i.id
    have hm : Mt s (r.Remember i.id) := by rw [e]; exact { h with nokn := remember_nok h.nokn i.id }
    have hac : (r.Remember i.id).acts = [] := by rw [e]; exact ha
    refine ⟨s, rfl, fun _ q => q, rfl, rfl, rfl, rfl, ?_, fun q _ => ?_⟩
    · rw [← e]; exact (hm.ma hac).settle
    · exact (settle_neg (r := r.Remember i.id) (by rw [e]; exact q) hac).1
  rw [if_neg h1]
  by_cases h2 : i.kind = 2
  · rw [if_pos h2, if_neg (show ¬ (i.kind = 3 ∧ i.who ≠ r.me) by intro q; omega), if_neg (show ¬ (i.kind = 1 ∨ i.kind = 7) by omega)]
    unfold Rd.Offered
    split
    · rename_i q
      have hm : Mt { s with off := set1 s.off i.round.toNat true } { r with offers := set1 r.offers i.round.toNat ⟨true, i.valid, i.id⟩ } := by
        refine { h with off := fun j => ?_ }
        show set1 s.off i.round.toNat true j = (set1 r.offers i.round.toNat ⟨true, i.valid, i.id⟩ j).there
        unfold set1; split
        · rfl
        · exact h.off j
      refine ⟨{ s with off := set1 s.off i.round.toNat true }, rfl, fun j w => ?_, rfl, rfl, rfl, rfl, (hm.ma ha).settle.of ⟨rfl, rfl, rfl, rfl⟩, fun w _ => (settle_neg (r := { r with offers := set1 r.offers i.round.toNat ⟨true, i.valid, i.id⟩ }) w ha).1⟩
      show set1 s.off i.round.toNat true j = true
      unfold set1; split
      · rfl
      · exact w
    · exact ⟨s, rfl, fun _ q => q, rfl, rfl, rfl, rfl, (h.ma ha).settle, fun w _ => (settle_neg w ha).1⟩
  rw [if_neg h2]
  by_cases h3 : i.kind = 3
  · rw [if_pos h3, if_neg (show ¬ (i.kind = 1 ∨ i.kind = 7) by omega)]
    unfold Rd.Voted
    by_cases hw : i.who ≠ r.me
    · rw [if_pos hw, if_pos ⟨h3, hw⟩]
      have hm : Mt { s with v := putV r.n s.v i.round i.num i.who i.id } { r with v := putV r.n r.v i.round i.num i.who i.id } := by
        rw [h.v]; exact h.v_ fun R K => putV_other hw
      exact ⟨{ s with v := putV r.n s.v i.round i.num i.who i.id }, rfl, fun _ q => q, rfl, rfl, rfl, rfl, (hm.ma ha).settle.of ⟨rfl, rfl, rfl, rfl⟩, fun w _ => (settle_neg (r := { r with v := putV r.n r.v i.round i.num i.who i.id }) w ha).1⟩
    · rw [if_neg hw, if_neg (by intro q; exact hw q.2)]
      exact ⟨s, rfl, fun _ q => q, rfl, rfl, rfl, rfl, (h.ma ha).settle, fun w _ => (settle_neg w ha).1⟩
  rw [if_neg h3, if_neg (show ¬ (i.kind = 3 ∧ i.who ≠ r.me) from fun q => h3 q.1)]
  by_cases h4 : i.kind = 4
  · rw [if_pos h4, if_neg (show ¬ (i.kind = 1 ∨ i.kind = 7) by omega)]
    refine ⟨s, rfl, fun _ q => q, rfl, rfl, rfl, rfl, ?_, fun w _ => ?_⟩
    · unfold Rd.Timeout
      have hma := h.ma ha
      split
      · rename_i q
        have hn0 : 0 ≤ r.now := by
          apply Int.not_lt.1; intro w; exact q.2 (h.neg w)
        split
        · rename_i w
          exact (hma.vote0 (k := 0) (by omega) w.2 hn0 (fun z => z32_ne z.symm) (.inl rfl)).settle.of (kp_vote _ _ _)
        split
        · rename_i w
          exact (hma.vote0 (k := 1) (by omega) w.2 hn0 (fun z => z32_ne z.symm) (.inl rfl)).settle.of (kp_vote _ _ _)
        split
        · exact (hma.begin (R := i.round + 1) (by omega) (.inl q.2) (by omega) (fun _ => hn0)).settle.of (kp_begin _ _)
        · exact hma.settle
      · exact hma.settle
    · unfold Rd.Timeout
      rw [if_neg (fun q => q.2 (h.neg w))]
      exact (settle_neg w ha).1
  rw [if_neg h4]
  by_cases h5 : i.kind = 5
  · rw [if_pos h5, if_neg (show ¬ (i.kind = 1 ∨ i.kind = 7) by omega)]
    exact ⟨s, rfl, fun _ q => q, rfl, rfl, rfl, rfl, ⟨trivial, { h with }, ha, ⟨rfl, rfl, rfl, rfl⟩⟩, fun _ _ => rfl⟩
  rw [if_neg h5]
  by_cases h7 : i.kind = 7
  · rw [if_pos h7, if_pos (.inr h7)]
    have e := remember_known r i.id
    refine ⟨s, rfl, fun _ q => q, rfl, rfl, rfl, rfl, ⟨trivial, ?_, ?_, ?_⟩, fun _ _ => rfl⟩
    · show Mt s (r.Remember i.id)
      rw [e]; exact { h with nokn := remember_nok h.nokn i.id }
    · show (r.Remember i.id).acts = []
      rw [e]; exact ha
    · show Kp _ (r.Remember i.id)
      rw [← e]; exact .rfl' _
  rw [if_neg h7, if_neg (show ¬ (i.kind = 1 ∨ i.kind = 7) by omega), if_neg hi]
  exact ⟨s, rfl, fun _ q => q, rfl, rfl, rfl, rfl, ⟨trivial, h, ha, ⟨rfl, rfl, rfl, rfl⟩⟩, fun _ _ => rfl⟩
end
end Go.Sv
namespace Go.Sv
set_option linter.unusedVariables false
set_option linter.unusedSimpArgs false
structure Rc (n me : Nat) (s : Led) (r : Rd) : Prop where
  hn : r.n = n
  hm : r.me = me
  v : ∀ R K, r.v R K me = s.v R K me
  lk : (r.locked, r.lock) = s.lk
  now : r.now = s.top
theorem putC_right0 {n : Nat} {v : Vt} {R K w : Int} {id : Bts} (h : putC n v R K w id = 0) : right n R K w ∧ id ≠ z32 ∧ v R.toNat K.toNat w.toNat = z32 := by
  unfold putC at h
  split at h
  · simp at h
  · rename_i q
    split at h
    · simp at h
    · rename_i q2
      exact ⟨Decidable.not_not.1 fun z => q (.inl z), fun z => q (.inr z), Decidable.not_not.1 q2⟩
theorem putC_zero {n : Nat} {v : Vt} {R K w : Int} {id : Bts} (h1 : right n R K w) (h2 : id ≠ z32) (h3 : v R.toNat K.toNat w.toNat = z32) : putC n v R K w id = 0 := by
  unfold putC
  rw [if_neg (fun q => q.elim (fun z => z h1) h2), if_neg (fun q => q h3)]
theorem Rc.act {n me : Nat} {s : Led} {r : Rd} {kn : List Bts} {a : Act} (h : Rc n me s r) (k : s.ok n me kn a) : Rc n me (s.after me a) (r.Recall a) := by
  cases k with
  | send R val id h1 h2 h3 h4 =>
    rw [after_send]
    unfold Rd.Recall
    split
    · exact { h with }
    · rw [if_pos rfl]
      split
      · exact { h with }
      · exact { h with }
  | tim R K h1 h2 h3 h4 h5 h6 =>
    rw [after_tim]
    unfold Rd.Recall
    rw [if_pos (.inr (.inr rfl))]
    exact { h with }
  | done R id h1 h2 h3 =>
    rw [after_done]
    unfold Rd.Recall
    split
    · exact { h with }
    · rw [if_neg (show ¬ ((4 : Int) = 1) by omega), if_neg (show ¬ ((4 : Int) = 2) by omega)]
      exact { h with }
  | vote R K id h1 h2 h3 h4 =>
    rw [after_vote]
    obtain ⟨q1, q2, q3⟩ := putC_right0 h2
    have hc : putC r.n r.v R K r.me id = 0 := by
      rw [h.hn, h.hm]
      refine putC_zero q1 q2 ?_
      rw [show ((me : Int)).toNat = me from rfl, h.v]; exact q3
    have hv : ∀ A B, (putV r.n r.v R K r.me id) A B me = setV s.v R.toNat K.toNat me id A B me := by
      intro A B
      unfold putV
      rw [if_pos hc, h.hm]
      show setV r.v R.toNat K.toNat me id A B me = _
      unfold setV
      split
      · rfl
      · exact h.v A B
    unfold Rd.Recall
    have c1 : ¬ (R < 0 ∨ R ≥ 12 ∨ id = z32) := by
      have := q1.1; have := q1.2.1
      rintro (z | z | z)
      · omega
      · omega
      · exact q2 z
    rw [if_neg c1, if_neg (show ¬ ((2 : Int) = 1) by omega), if_pos rfl, if_neg (show ¬ (putC r.n r.v R K r.me id ≠ 0) from fun z => z hc)]
    simp only []
    rw [if_neg (show ¬ (R < r.now) by rw [h.now]; omega)]
    split
    · exact { hn := h.hn, hm := h.hm, v := hv, lk := rfl, now := rfl }
    · exact { hn := h.hn, hm := h.hm, v := hv, lk := h.lk, now := rfl }
structure Vo (me : Nat) (w0 : Nat → Nat → Bts) (r : Rd) : Prop where
  hm : r.me = me
  keep : ∀ R K, w0 R K ≠ z32 → r.v R K me ≠ z32
  acts : ∀ a ∈ r.acts, a.kind = 2 → (a.num = 0 ∨ a.num = 1) ∧ 0 ≤ a.round ∧ a.round < 12 ∧ w0 a.round.toNat a.num.toNat = z32
section
variable {me : Nat} {w0 : Nat → Nat → Bts} {r r' : Rd}
theorem Vo.same (h : Vo me w0 r) (h1 : r'.me = r.me) (h2 : r'.v = r.v) (h3 : r'.acts = r.acts) : Vo me w0 r' :=
  ⟨h1.trans h.hm, by rw [h2]; exact h.keep, by rw [h3]; exact h.acts⟩
theorem Vo.snoc (h : Vo me w0 r) {a : Act} (k : a.kind ≠ 2) (h1 : r'.me = r.me) (h2 : r'.v = r.v) (h3 : r'.acts = r.acts ++ [a]) : Vo me w0 r' := by
  refine ⟨h1.trans h.hm, by rw [h2]; exact h.keep, fun b hb hk => ?_⟩
  rw [h3] at hb
  rcases List.mem_append.1 hb with hb | hb
  · exact h.acts b hb hk
  · simp at hb; subst hb; exact absurd hk k
theorem Vo.timer (h : Vo me w0 r) (k : Nat) : Vo me w0 (r.timer k) := by
  unfold Rd.timer; split
  · exact h
  · exact h.snoc (a := ⟨3, r.now, k, 0, z32⟩) (by show ¬ ((3 : Int) = 2); omega) rfl rfl rfl
theorem Vo.vote (h : Vo me w0 r) (k : Nat) (id : Bts) : Vo me w0 (r.vote k id) := by
  unfold Rd.vote; simp only []
  split
  · rename_i hc
    obtain ⟨q1, q2, q3⟩ := putC_right0 hc
    refine ⟨h.hm, fun R K q => ?_, fun b hb hk => ?_⟩
    · show putV r.n r.v r.now k r.me id R K me ≠ z32
      unfold putV; rw [if_pos hc]
      unfold setV; split
      · exact q2
      · exact h.keep R K q
    · have hb : b ∈ r.acts ++ [⟨2, r.now, k, 0, id⟩] := hb
      rcases List.mem_append.1 hb with hb | hb
      · exact h.acts b hb hk
      · simp at hb; subst hb
        refine ⟨q1.2.2.1, q1.1, q1.2.1, ?_⟩
        apply Decidable.byContradiction
        intro z
        refine h.keep _ _ z ?_
        rw [← h.hm]
        exact q3
  · exact h.same rfl rfl rfl
theorem Vo.begin (h : Vo me w0 r) (R : Int) : Vo me w0 (r.begin R) := by
  unfold Rd.begin
  split
  · exact h.same rfl rfl rfl
  · simp only []
    have h1 : Vo me w0 { r with now := R, step := 0 } := h.same rfl rfl rfl
    generalize (if r.valid > 0 then r.best else r.fresh) = id
    split
    · exact h1.timer _
    split
    · exact h1
    split
    · exact h1.timer _
    · exact h1.snoc (a := ⟨1, R, 0, r.valid, id⟩) (by show ¬ ((1 : Int) = 2); omega) rfl rfl rfl
theorem Vo.rest (h : Vo me w0 r) : Vo me w0 r.rest.1 := by
  unfold Rd.rest
  simp only []
  have last : Vo me w0 (if r.step = 1 ∧ need r.n ≤ forI r.n r.v r.now 0 n32 then (r.vote 1 n32, true) else
    (if need r.n ≤ allI r.n r.v r.now 1 then (if r.step = 1 ∧ need r.n ≤ allI r.n r.v r.now 0 then r.timer 1 else r).timer 2 else (if r.step = 1 ∧ need r.n ≤ allI r.n r.v r.now 0 then r.timer 1 else r), false) : Rd × Bool).1 := by
    split
    · exact h.vote _ _
    · have h1 : Vo me w0 (if r.step = 1 ∧ need r.n ≤ allI r.n r.v r.now 0 then r.timer 1 else r) := by
        split
        · exact h.timer _
        · exact h
      show Vo me w0 (if _ then _ else _)
      split
      · exact h1.timer _
      · exact h1
  split
  · rename_i id _
    split
    · show Vo me w0 (if _ then _ else _)
      split
      · exact Vo.vote (r := { r with valid := r.now + 1, best := id, locked := r.now + 1, lock := id }) (h.same rfl rfl rfl) _ _
      · exact h.same rfl rfl rfl
    · exact last
  · exact last
theorem Vo.rule (h : Vo me w0 r) : Vo me w0 r.rule.1 := by
  unfold Rd.rule
  split
  · exact h
  split
  · rename_i k id _
    exact h.snoc (a := ⟨4, k, 0, 0, id⟩) (by show ¬ ((4 : Int) = 2); omega) rfl rfl rfl
  split
  · exact h.begin _
  split
  · split
    · exact h.vote _ _
    · exact h.rest
  · exact h.rest
theorem Vo.rules : ∀ (k : Nat) {r : Rd}, Vo me w0 r → Vo me w0 (Rd.rules k r)
  | 0, r, h => h
  | k + 1, r, h => by
    unfold Rd.rules
    split
    · exact Vo.rules k h.rule
    · exact h.rule
structure VoX (me : Nat) (w0 : Nat → Nat → Bts) (x : Rd × List Act) : Prop where
  st : Vo me w0 x.1
  out : ∀ a ∈ x.2, a.kind = 2 → (a.num = 0 ∨ a.num = 1) ∧ 0 ≤ a.round ∧ a.round < 12 ∧ w0 a.round.toNat a.num.toNat = z32
theorem Vo.settle (h : Vo me w0 r) : VoX me w0 r.settle := by
  have k := h.rules 1000
  exact ⟨⟨k.hm, k.keep, fun a q => by cases q⟩, k.acts⟩
theorem Vo.quiet (h : Vo me w0 r) : VoX me w0 (r, []) := ⟨h, fun a q => by cases q⟩
theorem Vo.give (h : Vo me w0 r) {i : RIn} (h6 : i.kind ≠ 6) : VoX me w0 (r.give i) := by
  have hrem : Vo me w0 (r.Remember i.id) := by
    unfold Rd.Remember; split
    · exact h.same rfl rfl rfl
    · exact h
  unfold Rd.give
  split
  · unfold Rd.Begin
    split
    · exact h.settle
    · exact ((h.same (r' := { r with fresh := if i.id = z32 then r.fresh else i.id }) rfl rfl rfl).begin 0).settle
  split
  · exact hrem.settle
  split
  · unfold Rd.Offered
    refine Vo.settle ?_
    split
    · exact h.same rfl rfl rfl
    · exact h
  split
  · unfold Rd.Voted
    refine Vo.settle ?_
    split
    · rename_i q
      refine ⟨h.hm, fun R K z => ?_, h.acts⟩
      show putV r.n r.v i.round i.num i.who i.id R K me ≠ z32
      rw [putV_other (by rw [← h.hm]; exact q)]
      exact h.keep R K z
    · exact h
  split
  · unfold Rd.Timeout
    refine Vo.settle ?_
    split
    · split
      · exact h.vote _ _
      split
      · exact h.vote _ _
      split
      · exact h.begin _
      · exact h
    · exact h
  split
  · exact (h.same (r' := { r with fresh := i.id }) rfl rfl rfl).quiet
  split
  · exact hrem.quiet
  exact h.quiet
end
end Go.Sv
namespace Go.Sv
set_option linter.unusedVariables false
set_option linter.unusedSimpArgs false
def cnt (n : Nat) (v : Vt) (R K : Nat) (id : Bts) : Nat := (List.range n).countP fun w => decide (v R K w = id)
theorem forL_cnt {n : Nat} {v : Vt} {R K : Nat} {id : Bts} (h : id ≠ z32) : forL (castL n v R K) id = cnt n v R K id := by
  unfold forL castL cnt
  rw [List.countP_filter, List.countP_map]
  congr 1; funext w
  show (decide (v R K w = id) && decide (v R K w ≠ z32)) = decide (v R K w = id)
  by_cases q : v R K w = id
  · rw [q]; simp [h]
  · simp [q]
theorem sureI_cnt {n : Nat} {v : Vt} {r k : Int} {id : Bts} (h : sureI n v r k = some id) : id ≠ z32 ∧ need n ≤ cnt n v r.toNat k.toNat id := by
  obtain ⟨h1, h2, h3⟩ := sureI_some h
  refine ⟨h2, ?_⟩
  rw [← forL_cnt h2]
  unfold forI castI at h3
  rw [if_pos h1] at h3; exact h3
theorem countP_two {α : Type} (p q : α → Bool) : ∀ l : List α, l.countP p + l.countP q ≤ l.length + l.countP fun x => p x && q x
  | [] => by simp
  | x :: l => by
    have := countP_two p q l
    simp only [List.countP_cons, List.length_cons]
    cases p x <;> cases q x <;> simp <;> omega
theorem countP_late (p : Nat → Bool) (g : Nat) (h : ∀ w, w < g → p w = false) : ∀ n, (List.range n).countP p ≤ n - g
  | 0 => by simp
  | n + 1 => by
    have := countP_late p g h n
    rw [List.range_succ, List.countP_append]
    simp only [List.countP_cons, List.countP_nil]
    by_cases q : n < g
    · rw [h n q]; simp; omega
    · split <;> omega
theorem common {n : Nat} (hn : okN n) (p q : Nat → Bool) (hp : need n ≤ (List.range n).countP p) (hq : need n ≤ (List.range n).countP q) : ∃ w, w < n - flts n ∧ p w = true ∧ q w = true := by
  apply Decidable.byContradiction
  intro z
  have h1 := countP_two p q (List.range n)
  have h2 := countP_late (fun x => p x && q x) (n - flts n) (fun w hw => by
    cases hx : (p w && q w) with
    | false => rfl
    | true =>
      rw [Bool.and_eq_true] at hx
      exact absurd ⟨w, hw, hx.1, hx.2⟩ z) n
  rw [List.length_range] at h1
  unfold okN at hn
  unfold need at hp hq
  unfold flts at h2
  omega
def Up (v v' : Vt) : Prop := ∀ R K w, v R K w ≠ z32 → v' R K w = v R K w
theorem cnt_up {n : Nat} {v v' : Vt} (h : Up v v') {R K : Nat} {id : Bts} (hid : id ≠ z32) : cnt n v R K id ≤ cnt n v' R K id := by
  unfold cnt
  apply List.countP_mono_left
  intro w _ q
  have q := of_decide_eq_true q
  exact decide_eq_true (by rw [h R K w (by rw [q]; exact hid), q])
structure Hist (n me : Nat) (s : Led) : Prop where
  h1 : ∀ R, s.v R 1 me ≠ z32 → s.v R 1 me ≠ n32 → need n ≤ cnt n s.v R 0 (s.v R 1 me)
  h2 : ∀ R1 R2, R1 < R2 → s.v R1 1 me ≠ z32 → s.v R1 1 me ≠ n32 → s.v R2 0 me ≠ z32 → s.v R2 0 me ≠ n32 → s.v R2 0 me ≠ s.v R1 1 me → ∃ k, R1 ≤ k ∧ k < R2 ∧ need n ≤ cnt n s.v k 0 (s.v R2 0 me)
  h3 : ∀ R : Nat, s.v R 1 me ≠ z32 → s.v R 1 me ≠ n32 → (R : Int) + 1 ≤ s.lk.1
  h5 : 0 < s.lk.1 → s.v (s.lk.1 - 1).toNat 1 me = s.lk.2 ∧ s.lk.2 ≠ z32 ∧ s.lk.2 ≠ n32
  h6 : 0 ≤ s.lk.1
  h4 : ∀ R K : Nat, s.v R K me ≠ z32 → (R : Int) ≤ s.top
theorem Hist.up {n me : Nat} {s s' : Led} (h : Hist n me s) (hu : Up s.v s'.v) (hm : ∀ R K, s'.v R K me = s.v R K me) (hl : s'.lk = s.lk) (ht : s'.top = s.top) : Hist n me s' := by
  refine ⟨fun R a b => ?_, fun R1 R2 hlt a b c d e => ?_, fun R a b => ?_, fun a => ?_, by rw [hl]; exact h.h6, fun R K a => ?_⟩
  · rw [hm] at a b ⊢
    exact Nat.le_trans (h.h1 R a b) (cnt_up hu a)
  · rw [hm] at a b c d e ⊢
    rw [hm] at e
    obtain ⟨k, x, y, z⟩ := h.h2 R1 R2 hlt a b c d e
    exact ⟨k, x, y, Nat.le_trans z (cnt_up hu c)⟩
  · rw [hm] at a b; rw [hl]; exact h.h3 R a b
  · rw [hl] at a ⊢; rw [hm]; exact h.h5 a
  · rw [hm] at a; rw [ht]; exact h.h4 R K a
theorem Up.set {v : Vt} {R K w : Nat} {id : Bts} (h : v R K w = z32) : Up v (setV v R K w id) := by
  intro a b c q
  unfold setV
  rw [if_neg (by rintro ⟨rfl, rfl, rfl⟩; exact q h)]
theorem setV_at {v : Vt} {R K w : Nat} {id : Bts} : setV v R K w id R K w = id := by unfold setV; rw [if_pos ⟨rfl, rfl, rfl⟩]
theorem setV_not {v : Vt} {R K w : Nat} {id : Bts} {a b : Nat} (h : ¬ (a = R ∧ b = K)) : setV v R K w id a b w = v a b w := by
  unfold setV; rw [if_neg (fun q => h ⟨q.1, q.2.1⟩)]
theorem Hist.after {n me : Nat} {kn : List Bts} {s : Led} {a : Act} (h : Hist n me s) (k : s.ok n me kn a) : Hist n me (s.after me a) := by
  cases k with
  | send R val id _ _ _ _ => rw [after_send]; exact { h with }
  | tim R K _ _ _ _ _ _ => rw [after_tim]; exact { h with }
  | done R id _ _ _ => rw [after_done]; exact { h with }
  | vote R K id hd c1 c2 c3 =>
    rw [after_vote]
    obtain ⟨q1, q2, q3⟩ := putC_right0 c1
    have q3 : s.v R.toNat K.toNat me = z32 := q3
    obtain ⟨R, rfl⟩ := Int.eq_ofNat_of_zero_le q1.1
    have q3 : s.v R K.toNat me = z32 := q3
    have hu : Up s.v (setV s.v R K.toNat me id) := Up.set q3
    have hK : K.toNat = 0 ∧ K = 0 ∨ K.toNat = 1 ∧ K = 1 := by rcases q1.2.2.1 with rfl | rfl; exact .inl ⟨rfl, rfl⟩; exact .inr ⟨rfl, rfl⟩
    show Hist n me { s with v := setV s.v R K.toNat me id, top := R, lk := if K = 1 ∧ id ≠ n32 then ((R : Int) + 1, id) else s.lk }
    have hlk : ∀ x : Nat, s.v x 1 me ≠ z32 → s.v x 1 me ≠ n32 → (x : Int) + 1 ≤ (if K = 1 ∧ id ≠ n32 then ((R : Int) + 1, id) else s.lk).1 := by
      intro x a b
      have y1 := h.h3 x a b
      have y2 := h.h4 x 1 a
      split
      · show (x : Int) + 1 ≤ R + 1; omega
      · exact y1
    refine ⟨fun x a b => ?_, fun x1 x2 hlt a b c d e => ?_, fun x a b => ?_, fun a => ?_, ?_, fun x y a => ?_⟩
    · have a : setV s.v R K.toNat me id x 1 me ≠ z32 := a
      have b : setV s.v R K.toNat me id x 1 me ≠ n32 := b
      show need n ≤ cnt n (setV s.v R K.toNat me id) x 0 (setV s.v R K.toNat me id x 1 me)
      by_cases q : x = R ∧ 1 = K.toNat
      · obtain ⟨rfl, w⟩ := q
        rw [← w] at a b hu ⊢
        rw [setV_at] at a b ⊢
        rcases c3 with c3 | ⟨_, c3⟩ | ⟨c3, _⟩
        · exact absurd c3 b
        · exact Nat.le_trans (sureI_cnt (sureN_some c3).1).2 (cnt_up hu a)
        · omega
      · rw [setV_not q] at a b ⊢
        exact Nat.le_trans (h.h1 x a b) (cnt_up hu a)
    · have a' : setV s.v R K.toNat me id x1 1 me ≠ z32 := a
      have b' : setV s.v R K.toNat me id x1 1 me ≠ n32 := b
      have c' : setV s.v R K.toNat me id x2 0 me ≠ z32 := c
      have d' : setV s.v R K.toNat me id x2 0 me ≠ n32 := d
      have e' : setV s.v R K.toNat me id x2 0 me ≠ setV s.v R K.toNat me id x1 1 me := e
      show ∃ k, x1 ≤ k ∧ k < x2 ∧ need n ≤ cnt n (setV s.v R K.toNat me id) k 0 (setV s.v R K.toNat me id x2 0 me)
      rcases hK with ⟨w, hK⟩ | ⟨w, hK⟩
      · rw [w] at a' b' c' d' e' hu ⊢
        have ne1 : setV s.v R 0 me id x1 1 me = s.v x1 1 me := setV_not (by omega)
        rw [ne1] at a' b' e'
        by_cases q : x2 = R
        · subst q
          rw [setV_at] at c' d' e' ⊢
          have y3 := h.h3 x1 a' b'
          rcases c3 with c3 | ⟨c3, _⟩ | ⟨_, c4, c5⟩
          · exact absurd c3 d'
          · omega
          · rcases c5 with c5 | c5 | ⟨k, c5, c6, c7, c8⟩
            · omega
            · obtain ⟨y4, y5, y6⟩ := h.h5 (by omega)
              refine ⟨(s.lk.1 - 1).toNat, by omega, by omega, ?_⟩
              have := h.h1 (s.lk.1 - 1).toNat (by rw [y4]; exact y5) (by rw [y4]; exact y6)
              rw [y4, c5] at this
              exact Nat.le_trans this (cnt_up hu c')
            · refine ⟨k.toNat, by omega, by omega, ?_⟩
              exact Nat.le_trans (sureI_cnt (sureN_some c8).1).2 (cnt_up hu c')
        · have ne2 : setV s.v R 0 me id x2 0 me = s.v x2 0 me := setV_not (by omega)
          rw [ne2] at c' d' e' ⊢
          obtain ⟨k, z1, z2, z3⟩ := h.h2 x1 x2 hlt a' b' c' d' e'
          exact ⟨k, z1, z2, Nat.le_trans z3 (cnt_up hu c')⟩
      · rw [w] at a' b' c' d' e' hu ⊢
        have ne2 : setV s.v R 1 me id x2 0 me = s.v x2 0 me := setV_not (by omega)
        rw [ne2] at c' d' e' ⊢
        by_cases q : x1 = R
        · subst q
          have := h.h4 x2 0 c'
          omega
        · have ne1 : setV s.v R 1 me id x1 1 me = s.v x1 1 me := setV_not (by omega)
          rw [ne1] at a' b' e'
          obtain ⟨k, z1, z2, z3⟩ := h.h2 x1 x2 hlt a' b' c' d' e'
          exact ⟨k, z1, z2, Nat.le_trans z3 (cnt_up hu c')⟩
    · have a : setV s.v R K.toNat me id x 1 me ≠ z32 := a
      have b : setV s.v R K.toNat me id x 1 me ≠ n32 := b
      show (x : Int) + 1 ≤ (if K = 1 ∧ id ≠ n32 then ((R : Int) + 1, id) else s.lk).1
      by_cases q : x = R ∧ 1 = K.toNat
      · obtain ⟨rfl, w⟩ := q
        rw [← w, setV_at] at b
        rw [if_pos ⟨by omega, b⟩]
        exact Int.le_refl _
      · rw [setV_not q] at a b
        exact hlk x a b
    · have a : 0 < (if K = 1 ∧ id ≠ n32 then ((R : Int) + 1, id) else s.lk).1 := a
      show setV s.v R K.toNat me id ((if K = 1 ∧ id ≠ n32 then ((R : Int) + 1, id) else s.lk).1 - 1).toNat 1 me = (if K = 1 ∧ id ≠ n32 then ((R : Int) + 1, id) else s.lk).2 ∧ (if K = 1 ∧ id ≠ n32 then ((R : Int) + 1, id) else s.lk).2 ≠ z32 ∧ (if K = 1 ∧ id ≠ n32 then ((R : Int) + 1, id) else s.lk).2 ≠ n32
      by_cases q : K = 1 ∧ id ≠ n32
      · rw [if_pos q]
        refine ⟨?_, q2, q.2⟩
        have : ((R : Int) + 1 - 1).toNat = R := by omega
        show setV s.v R K.toNat me id ((R : Int) + 1 - 1).toNat 1 me = id
        rw [this, q.1]
        exact setV_at
      · rw [if_neg q] at a ⊢
        obtain ⟨y4, y5, y6⟩ := h.h5 a
        refine ⟨?_, y5, y6⟩
        rw [setV_not, y4]
        rintro ⟨z1, z2⟩
        rw [z1, z2, q3] at y4
        exact y5 y4.symm
    · show 0 ≤ (if K = 1 ∧ id ≠ n32 then ((R : Int) + 1, id) else s.lk).1
      split
      · show (0 : Int) ≤ R + 1; omega
      · exact h.h6
    · have a : setV s.v R K.toNat me id x y me ≠ z32 := a
      show (x : Int) ≤ R
      by_cases q : x = R ∧ y = K.toNat
      · rw [q.1]; exact Int.le_refl _
      · rw [setV_not q] at a
        have := h.h4 x y a
        omega
theorem Hist.fold {n me : Nat} {kn : List Bts} : ∀ {l : List Act} {s : Led}, Hist n me s → Led.good n me kn s l → Hist n me (l.foldl (Led.after me) s)
  | [], s, h, _ => h
  | a :: l, s, h, g => by
    show Hist n me (l.foldl (Led.after me) (s.after me a))
    exact Hist.fold (h.after g.1) g.2
theorem up_give {n me : Nat} {v : Vt} {i : RIn} : Up v (giveV n me v i) ∧ ∀ R K, giveV n me v i R K me = v R K me := by
  unfold giveV
  split
  · rename_i q
    refine ⟨?_, fun R K => putV_other q.2⟩
    unfold putV
    split
    · rename_i w
      exact Up.set (putC_right0 w).2.2
    · exact fun _ _ _ _ => rfl
  · exact ⟨fun _ _ _ _ => rfl, fun _ _ => rfl⟩
def Dn (n : Nat) (v : Vt) (id : Bts) : Prop := ∃ R, id ≠ z32 ∧ id ≠ n32 ∧ need n ≤ cnt n v R 1 id
theorem Dn.up {n : Nat} {v v' : Vt} {id : Bts} (h : Dn n v id) (hu : Up v v') : Dn n v' id := by
  obtain ⟨R, h1, h2, h3⟩ := h
  exact ⟨R, h1, h2, Nat.le_trans h3 (cnt_up hu h1)⟩
theorem ok_dn {n me : Nat} {kn : List Bts} {s : Led} {a : Act} (h : s.ok n me kn a) (k : a.kind = 4) : Dn n s.v a.id := by
  cases h with
  | send R val id _ _ _ _ => exact absurd k (by show ¬ ((1 : Int) = 4); omega)
  | tim R K _ _ _ _ _ _ => exact absurd k (by show ¬ ((3 : Int) = 4); omega)
  | vote R K id hd c1 c2 c3 => exact absurd k (by show ¬ ((2 : Int) = 4); omega)
  | done R id _ h1 _ =>
    obtain ⟨q1, q2⟩ := sureN_some h1
    obtain ⟨q3, q4⟩ := sureI_cnt q1
    exact ⟨R.toNat, q3, q2, q4⟩
section
variable {n : Nat} {s : Nat → Led}
structure All (n : Nat) (s : Nat → Led) : Prop where
  ok : okN n
  hist : ∀ i, i < n - flts n → Hist n i (s i)
  auth : ∀ i j, i < n - flts n → j < n - flts n → ∀ R K, (s i).v R K j ≠ z32 → (s j).v R K j = (s i).v R K j
end
end Go.Sv
namespace Go.Sv
set_option linter.unusedVariables false
set_option linter.unusedSimpArgs false
def isSend (a : Act) : Bool := decide (a.kind = 1 ∨ a.kind = 2)
def z1 (b : Bts) : Nat := if b = z32 then 1 else 0
def bud (r : Rd) : Nat := z1 (r.v 0 0 r.me) + z1 (r.v 0 1 r.me)
def Vx (n : Nat) (X : Bts) (v : Vt) : Prop := ∀ R K w, v R K w = z32 ∨ (v R K w = X ∧ R = 0 ∧ K < 2 ∧ w < n)
section
variable {n me : Nat} {X : Bts} {v : Vt}
theorem cnt_pos {R K : Nat} {id : Bts} (h : 0 < cnt n v R K id) : ∃ w, w < n ∧ v R K w = id := by
  obtain ⟨w, h1, h2⟩ := List.countP_pos_iff.1 h
  exact ⟨w, List.mem_range.1 h1, of_decide_eq_true h2⟩
theorem need_pos (n : Nat) : 0 < need n := by unfold need; omega
theorem Vx.sureI (h : Vx n X v) {r k : Int} {id : Bts} (q : sureI n v r k = some id) : id = X ∧ r = 0 ∧ need n ≤ cnt n v 0 k.toNat X := by
  obtain ⟨h1, h2, _⟩ := sureI_some q
  obtain ⟨_, h3⟩ := sureI_cnt q
  obtain ⟨w, _, h5⟩ := cnt_pos (Nat.lt_of_lt_of_le (need_pos n) h3)
  rcases h r.toNat k.toNat w with z | ⟨z1, z2, _⟩
  · exact absurd (h5.symm.trans z) h2
  · have e : id = X := h5.symm.trans z1
    rw [e, z2] at h3
    have := h1.1
    exact ⟨e, by omega, h3⟩
theorem Vx.sure1 (h : Vx n X v) (hX : X ≠ z32) (hN : X ≠ n32) {K : Nat} (hK : K < 2) (q : need n ≤ cnt n v 0 K X) : sureN n v 0 (K : Int) = some X := by
  obtain ⟨w, h4, h5⟩ := cnt_pos (Nat.lt_of_lt_of_le (need_pos n) q)
  have hr : right n 0 (K : Int) 0 := ⟨by omega, by omega, by omega, by omega, by omega⟩
  have hc : castI n v 0 (K : Int) = castL n v 0 K := by unfold castI; rw [if_pos hr]; rfl
  unfold sureN
  cases e : Go.Sv.sureI n v 0 (K : Int) with
  | some id => rw [(h.sureI e).1]; exact if_neg hN
  | none =>
    exfalso
    unfold Go.Sv.sureI at e
    rw [Option.map_eq_none_iff, List.find?_eq_none] at e
    have hm : (w, X) ∈ castI n v 0 (K : Int) := by
      rw [hc]; unfold castL
      refine List.mem_filter.2 ⟨List.mem_map.2 ⟨w, List.mem_range.2 h4, by rw [h5]⟩, decide_eq_true hX⟩
    have := e _ hm
    apply this
    refine decide_eq_true ?_
    show need n ≤ forI n v 0 (K : Int) X
    unfold forI; rw [hc, forL_cnt hX]; exact q
theorem Vx.sure0 (h : Vx n X v) {r : Int} {K : Nat} (q : r ≠ 0 ∨ ¬ need n ≤ cnt n v 0 K X) : sureN n v r (K : Int) = none := by
  unfold sureN
  cases e : Go.Sv.sureI n v r (K : Int) with
  | none => rfl
  | some id =>
    obtain ⟨_, e2, e3⟩ := h.sureI e
    rcases q with q | q
    · exact absurd e2 q
    · exact absurd e3 q
theorem aheadW_no {r : Nat} (h : ∀ w, ¬ voted v r w) : ∀ (k w left : Nat), aheadW n v r k w left = false
  | 0, _, _ => rfl
  | k + 1, w, left => by unfold aheadW; rw [if_neg (h w)]; exact aheadW_no h k (w + 1) left
theorem aheadR_no (h : ∀ r, 0 < r → ∀ w, ¬ voted v r w) : ∀ r, aheadR n v 0 r = none
  | 0 => rfl
  | r + 1 => by
    unfold aheadR
    split
    · rename_i q
      rw [aheadW_no (h r (by omega))]
      exact aheadR_no h r
    · rfl
theorem Vx.ahead (h : Vx n X v) : aheadI n v 0 = none := aheadR_no (fun r hr w q => by
  rcases q with q | q
  · rcases h r 0 w with z | ⟨_, z, _⟩
    · exact q z
    · omega
  · rcases h r 1 w with z | ⟨_, z, _⟩
    · exact q z
    · omega) 12
theorem Vx.nil (h : Vx n X v) (hN : X ≠ n32) (R K : Nat) : cnt n v R K n32 = 0 := by
  rcases Nat.eq_zero_or_pos (cnt n v R K n32) with q | q
  · exact q
  · obtain ⟨w, _, h2⟩ := cnt_pos q
    rcases h R K w with z | ⟨z, _⟩
    · exact absurd (z.symm.trans h2) z32_ne
    · exact absurd (z.symm.trans h2) hN
theorem Vx.set (h : Vx n X v) {K w : Nat} (hK : K < 2) (hw : w < n) : Vx n X (setV v 0 K w X) := fun a b c => by
  unfold setV
  split
  · rename_i q
    obtain ⟨rfl, rfl, rfl⟩ := q
    exact .inr ⟨rfl, rfl, hK, hw⟩
  · exact h a b c
def ofX (X : Bts) : Ofr := ⟨true, 0, X⟩
def aS (X : Bts) : Act := ⟨1, 0, 0, 0, X⟩
def aV (X : Bts) (K : Nat) : Act := ⟨2, 0, K, 0, X⟩
def aD (X : Bts) : Act := ⟨4, 0, 0, 0, X⟩
def Gd (X : Bts) (me : Nat) (v : Vt) (a : Act) : Prop := a = aS X ∨ (∃ K, K < 2 ∧ a = aV X K ∧ v 0 K me = X) ∨ a.kind = 3 ∨ a = aD X
structure LC (n me : Nat) (X : Bts) (r : Rd) : Prop where
  hn : r.n = n
  hme : r.me = me
  lt : me < n
  now : r.now = 0
  kn : r.known = [X]
  vx : Vx n X r.v
  off : (r.offers 0).there = false ∨ r.offers 0 = ofX X
  acts : ∀ a ∈ r.acts, Gd X me r.v a
def SP (n me : Nat) (X : Bts) (r : Rd) : Prop :=
  (r.step = 0 ∧ r.v 0 0 me = z32 ∧ r.v 0 1 me = z32 ∧ r.valid = 0 ∧ r.locked = 0) ∨ (r.step = 1 ∧ r.v 0 0 me = X ∧ r.v 0 1 me = z32 ∧ r.valid = 0 ∧ r.locked = 0)
  ∨ (r.step = 2 ∧ r.v 0 0 me = X ∧ r.v 0 1 me = X ∧ r.valid = 1) ∨ (r.step = 3 ∧ need n ≤ cnt n r.v 0 1 X)
def St (n : Nat) (X : Bts) (r : Rd) : Prop := (need n ≤ cnt n r.v 0 1 X → r.step = 3) ∧ (r.step = 0 → (r.offers 0).there = false) ∧ (r.step = 1 → ¬ need n ≤ cnt n r.v 0 0 X)
structure G1 (n me : Nat) (X : Bts) (r r' : Rd) : Prop where
  lc : LC n me X r'
  sp : SP n me X r'
  dn : r'.step = 3 → r.step = 3 ∨ aD X ∈ r'.acts
  vo : ∀ R K w, w ≠ me → r'.v R K w = r.v R K w
  up : ∀ K, r.v 0 K me = X → r'.v 0 K me = X
  tv : ∀ K, K < 2 → r'.v 0 K me = X → r.v 0 K me = X ∨ aV X K ∈ r'.acts
  am : ∀ a ∈ r.acts, a ∈ r'.acts
  of : r'.offers = r.offers
  ph : r'.acts.countP isSend + bud r' ≤ r.acts.countP isSend + bud r
variable {r r' r'' : Rd}
theorem G1.rfl' (h : LC n me X r) (k : SP n me X r) : G1 n me X r r :=
  ⟨h, k, .inl, fun _ _ _ _ => rfl, fun _ h => h, fun _ _ h => .inl h, fun _ h => h, rfl, Nat.le_refl _⟩
theorem G1.trans (h : G1 n me X r r') (k : G1 n me X r' r'') : G1 n me X r r'' :=
  ⟨k.lc, k.sp, fun q => (k.dn q).elim (fun q => (h.dn q).imp id (k.am _)) .inr, fun R K w q => (k.vo R K w q).trans (h.vo R K w q), fun K q => k.up K (h.up K q),
   fun K hK q => (k.tv K hK q).elim (fun q => (h.tv K hK q).imp id (k.am _)) .inr, fun a q => k.am a (h.am a q), k.of.trans h.of, Nat.le_trans k.ph h.ph⟩
theorem G1.timer (h : LC n me X r) (k : SP n me X r) (j : Nat) : G1 n me X r (r.timer j) ∧ (St n X r → St n X (r.timer j)) := by
  unfold Rd.timer
  split
  · exact ⟨.rfl' h k, id⟩
  · refine ⟨⟨{ h with acts := fun a q => ?_ }, k, .inl, fun _ _ _ _ => rfl, fun _ h => h, fun _ _ h => .inl h, fun a q => List.mem_append.2 (.inl q), rfl, ?_⟩, id⟩
    · rcases List.mem_append.1 q with q | q
      · exact h.acts a q
      · rw [List.mem_singleton.1 q]; exact .inr (.inr (.inl rfl))
    · show (r.acts ++ [_]).countP isSend + bud r ≤ _
      rw [List.countP_append]
      exact Nat.le_refl _
theorem LC.vote_eq (h : LC n me X r) (hX : X ≠ z32) {K : Nat} (hK : K < 2) (hz : r.v 0 K me = z32) :
    r.vote K X = { r with v := setV r.v 0 K me X, acts := r.acts ++ [aV X K], step := 1 + K } := by
  have c0 : putC r.n r.v r.now K r.me X = 0 := by
    rw [h.hn, h.hme, h.now]
    exact putC_zero ⟨by omega, by omega, by omega, by omega, by have := h.lt; omega⟩ hX hz
  unfold Rd.vote
  rw [if_pos c0]
  unfold putV
  rw [if_pos c0, h.now, h.hme]
  rfl
theorem LC.voted (h : LC n me X r) (hX : X ≠ z32) {K : Nat} (hK : K < 2) (hz : r.v 0 K me = z32) {lo va : Int} {lk be : Bts} :
    ∀ r', r' = ({ r with v := setV r.v 0 K me X, acts := r.acts ++ [aV X K], step := 1 + K, locked := lo, lock := lk, valid := va, best := be } : Rd) → SP n me X r' → G1 n me X r r' := by
  intro r' e sp
  have hv : ∀ a b c, ¬ (a = 0 ∧ b = K ∧ c = me) → r'.v a b c = r.v a b c := fun a b c q => by rw [e]; exact if_neg q
  have hv1 : r'.v 0 K me = X := by rw [e]; exact setV_at
  have hup : ∀ b, r.v 0 b me = X → r'.v 0 b me = X := fun b q => by
    by_cases w : b = K
    · rw [w]; exact hv1
    · rw [hv 0 b me fun q => w q.2.1]; exact q
  refine ⟨⟨by rw [e]; exact h.hn, by rw [e]; exact h.hme, h.lt, by rw [e]; exact h.now, by rw [e]; exact h.kn, by rw [e]; exact h.vx.set hK h.lt, by rw [e]; exact h.off, fun a q => ?_⟩, sp, fun q => ?_, fun R b w q => hv _ _ _ fun z => q z.2.2, hup, fun b hb q => ?_, fun a q => ?_, by rw [e], ?_⟩
  · rw [e] at q
    rcases List.mem_append.1 q with q | q
    · rcases h.acts a q with y | ⟨b, y1, y2, y3⟩ | y | y
      · exact .inl y
      · exact .inr (.inl ⟨b, y1, y2, hup b y3⟩)
      · exact .inr (.inr (.inl y))
      · exact .inr (.inr (.inr y))
    · rw [List.mem_singleton.1 q]; exact .inr (.inl ⟨K, hK, rfl, hv1⟩)
  · rw [e] at q
    have q : (1 : Int) + K = 3 := q
    omega
  · by_cases w : b = K
    · right; rw [e, w]; exact List.mem_append.2 (.inr (by simp))
    · left; rw [← hv 0 b me fun q => w q.2.1]; exact q
  · rw [e]; exact List.mem_append.2 (.inl q)
  · have e1 : r'.acts.countP isSend = r.acts.countP isSend + 1 := by
      rw [e]; show (r.acts ++ [aV X K]).countP isSend = _; rw [List.countP_append]; rfl
    have hme : r'.me = me := by rw [e]; exact h.hme
    have z0 : z1 X = 0 := if_neg hX
    have e2 : bud r' + 1 = bud r := by
      unfold bud
      rw [hme, h.hme]
      rcases (show K = 0 ∨ K = 1 by omega) with rfl | rfl
      · rw [hv1, hv 0 1 me (by omega), hz, z0]; simp [z1]; omega
      · rw [hv1, hv 0 0 me (by omega), hz, z0]; simp [z1]
    omega
theorem LC.sure (h : LC n me X r) (a k : Int) : r.sure a k = sureN n r.v a k := by rw [r.sure_eq, h.hn]
theorem LC.agreed (h : LC n me X r) (hX : X ≠ z32) (hN : X ≠ n32) : r.agreed = if need n ≤ cnt n r.v 0 1 X then some (0, X) else none := by
  unfold Rd.agreed
  split
  · rename_i q
    rw [show List.range 12 = 0 :: [1,2,3,4,5,6,7,8,9,10,11] from rfl, List.findSome?_cons]
    have : r.sure ((0 : Nat) : Int) 1 = some X := by rw [h.sure]; exact h.vx.sure1 hX hN (K := 1) (by omega) q
    rw [this]
    simp [h.kn]
  · rename_i q
    rw [List.findSome?_eq_none_iff]
    intro k _
    have : r.sure (k : Int) 1 = none := by
      rw [h.sure]; exact h.vx.sure0 (K := 1) (.inr q)
    rw [this]
theorem rest_sp (h : LC n me X r) (k : SP n me X r) (hX : X ≠ z32) (hN : X ≠ n32) (h3 : r.step ≠ 3) (hc : ¬ need n ≤ cnt n r.v 0 1 X) (h0 : r.step = 0 → (r.offers 0).there = false) :
    G1 n me X r r.rest.1 ∧ (r.rest.2 = true → r.step < r.rest.1.step) ∧ (r.rest.2 = false → St n X r.rest.1) := by
  have hf : ¬ (r.step = 1 ∧ need r.n ≤ forI r.n r.v r.now 0 n32) := by
    rintro ⟨_, q⟩
    rw [h.hn, h.now] at q
    unfold forI castI at q
    split at q
    · rw [forL_cnt (fun z => z32_ne z.symm)] at q
      have := h.vx.nil hN (0 : Int).toNat (0 : Int).toNat
      have := need_pos n
      omega
    · have := need_pos n
      simp [forL] at q; omega
  have last : ∀ (st : St n X r), G1 n me X r (if need r.n ≤ allI r.n r.v r.now 1 then (if r.step = 1 ∧ need r.n ≤ allI r.n r.v r.now 0 then r.timer 1 else r).timer 2 else (if r.step = 1 ∧ need r.n ≤ allI r.n r.v r.now 0 then r.timer 1 else r)) ∧ St n X (if need r.n ≤ allI r.n r.v r.now 1 then (if r.step = 1 ∧ need r.n ≤ allI r.n r.v r.now 0 then r.timer 1 else r).timer 2 else (if r.step = 1 ∧ need r.n ≤ allI r.n r.v r.now 0 then r.timer 1 else r)) := by
    intro st
    obtain ⟨r1, hr1⟩ : ∃ r1, r1 = (if r.step = 1 ∧ need r.n ≤ allI r.n r.v r.now 0 then r.timer 1 else r) := ⟨_, rfl⟩
    have g1 : G1 n me X r r1 ∧ St n X r1 := by
      rw [hr1]
      split
      · exact ⟨(G1.timer h k 1).1, (G1.timer h k 1).2 st⟩
      · exact ⟨.rfl' h k, st⟩
    rw [← hr1]
    split
    · have := G1.timer g1.1.lc g1.1.sp 2
      exact ⟨g1.1.trans this.1, this.2 g1.2⟩
    · exact g1
  have es : r.sure r.now 0 = sureN n r.v 0 ((0 : Nat) : Int) := by rw [h.sure, h.now]; rfl
  unfold Rd.rest
  simp only [if_neg hf, es]
  by_cases c0 : need n ≤ cnt n r.v 0 0 X
  · rw [h.vx.sure1 hX hN (by omega) c0]
    simp only []
    rcases k with k | k | k | k
    · rw [if_neg (fun q => absurd q.2.1 (by omega))]
      have := last ⟨fun q => absurd q hc, h0, fun q => absurd q (by omega)⟩
      exact ⟨this.1, fun q => absurd q (by simp), fun _ => this.2⟩
    · obtain ⟨k1, k2, k3, k4, k5⟩ := k
      rw [if_pos ⟨by rw [h.kn]; simp, by omega, by rw [h.now]; omega⟩, if_pos k1]
      have hl : LC n me X { r with valid := r.now + 1, best := X, locked := r.now + 1, lock := X } := { h with }
      have e := hl.vote_eq hX (K := 1) (by omega) k3
      refine ⟨?_, fun _ => ?_, fun q => absurd q (by simp)⟩
      · show G1 n me X r (Rd.vote { r with valid := r.now + 1, best := X, locked := r.now + 1, lock := X } 1 X)
        rw [e]
        refine h.voted hX (K := 1) (by omega) k3 _ rfl (.inr (.inr (.inl ⟨rfl, ?_, setV_at, ?_⟩)))
        · show setV r.v 0 1 me X 0 0 me = X
          rw [setV_not (by omega)]; exact k2
        · show r.now + 1 = 1; rw [h.now]; rfl
      · show r.step < (Rd.vote { r with valid := r.now + 1, best := X, locked := r.now + 1, lock := X } 1 X).step
        rw [e]
        show r.step < 1 + ((1 : Nat) : Int); omega
    · obtain ⟨k1, k2, k3, k4⟩ := k
      rw [if_neg (fun q => q.2.2 (by rw [h.now]; omega))]
      have := last ⟨fun q => absurd q hc, fun q => absurd q (by omega), fun q => absurd q (by omega)⟩
      exact ⟨this.1, fun q => absurd q (by simp), fun _ => this.2⟩
    · exact absurd k.1 h3
  · rw [h.vx.sure0 (.inr c0)]
    have := last ⟨fun q => absurd q hc, h0, fun _ => c0⟩
    exact ⟨this.1, fun q => absurd q (by simp), fun _ => this.2⟩
theorem rule_sp (h : LC n me X r) (k : SP n me X r) (hX : X ≠ z32) (hN : X ≠ n32) :
    G1 n me X r r.rule.1 ∧ (r.rule.2 = true → r.step < r.rule.1.step) ∧ (r.rule.2 = false → St n X r.rule.1) := by
  by_cases h3 : r.step = 3
  · have e : r.rule = (r, false) := by unfold Rd.rule; rw [if_pos (.inr h3)]
    rw [e]
    exact ⟨.rfl' h k, fun q => absurd q (by simp), fun _ => ⟨fun _ => h3, fun q => absurd (h3.symm.trans q) (by omega), fun q => absurd (h3.symm.trans q) (by omega)⟩⟩
  unfold Rd.rule
  rw [if_neg (by rw [h.now]; rintro (q | q); omega; exact h3 q), h.agreed hX hN]
  by_cases hc : need n ≤ cnt n r.v 0 1 X
  · rw [if_pos hc]
    refine ⟨⟨{ h with acts := fun a q => ?_ }, .inr (.inr (.inr ⟨rfl, hc⟩)), fun _ => .inr ?_, fun _ _ _ _ => rfl, fun _ h => h, fun _ _ h => .inl h, fun a q => List.mem_append.2 (.inl q), rfl, ?_⟩, fun _ => ?_, fun q => absurd q (by simp)⟩
    · rcases List.mem_append.1 q with q | q
      · exact h.acts a q
      · rw [List.mem_singleton.1 q]; exact .inr (.inr (.inr rfl))
    · exact List.mem_append.2 (.inr (by simp [aD]))
    · show (r.acts ++ [_]).countP isSend + bud r ≤ _
      rw [List.countP_append]
      exact Nat.le_refl _
    · show r.step < 3
      rcases k with k | k | k | k <;> omega
  rw [if_neg hc]
  simp only [h.hn, h.now, h.vx.ahead]
  by_cases c0 : r.step = 0 ∧ (r.offers (0 : Int).toNat).there = true ∧ (r.offers (0 : Int).toNat).id ∈ r.known
  · rw [if_pos c0]
    obtain ⟨c1, c2, c3⟩ := c0
    have ho : r.offers (0 : Int).toNat = ofX X := by
      rcases h.off with q | q
      · have c2 : (r.offers 0).there = true := c2
        rw [q] at c2; cases c2
      · exact q
    rcases k with k | k | k | k
    · obtain ⟨k1, k2, k3, k4, k5⟩ := k
      have e : r.choice (r.offers (0 : Int).toNat) = some X := by
        rw [ho]; unfold Rd.choice ofX; rw [if_pos ⟨rfl, .inl k5⟩]
      rw [e]
      simp only []
      rw [h.vote_eq hX (K := 0) (by omega) k2]
      refine ⟨h.voted hX (K := 0) (by omega) k2 _ rfl (.inr (.inl ⟨rfl, setV_at, ?_, k4, k5⟩)), fun _ => ?_, fun q => absurd q (by simp)⟩
      · show setV r.v 0 0 me X 0 1 me = z32
        rw [setV_not (by omega)]; exact k3
      · show r.step < 1 + ((0 : Nat) : Int); omega
    all_goals (exfalso; omega)
  · rw [if_neg c0]
    refine rest_sp h k hX hN h3 hc fun q => ?_
    rcases h.off with w | w
    · exact w
    · exact absurd ⟨q, by show (r.offers 0).there = true; rw [w]; rfl, by show (r.offers 0).id ∈ r.known; rw [w, h.kn]; simp [ofX]⟩ c0
theorem rules_sp (hX : X ≠ z32) (hN : X ≠ n32) : ∀ {k : Nat} {r : Rd}, LC n me X r → SP n me X r → 3 < r.step + k → G1 n me X r (Rd.rules k r) ∧ St n X (Rd.rules k r)
  | 0, r, h, s, q => by rcases s with s | s | s | s <;> omega
  | k + 1, r, h, s, q => by
    obtain ⟨g1, g2, g3⟩ := rule_sp h s hX hN
    unfold Rd.rules
    split
    · rename_i c
      have := g2 c
      obtain ⟨g4, g5⟩ := rules_sp hX hN (k := k) g1.lc g1.sp (by omega)
      exact ⟨g1.trans g4, g5⟩
    · rename_i c
      exact ⟨g1, g3 (by simpa using c)⟩
end
end Go.Sv
