/- The rules by which code is run in a proof, bound together. -/
import Derived.Test.YtnogkphkjkbbhaaSv3
namespace Go.Sv
open Go
set_option linter.unusedSimpArgs false
set_option linter.unusedVariables false
set_option linter.unnecessarySimpa false

section
variable {P : Program} {H : Hints} {f : FuncId} {nt : Nat} {k : List Kt} {e : Env} {A : AS} {Q : Ex → Env → AS → Prop} {ops : Array Oper}

theorem o_none {dst : Option Tmp} {op : Op} {ty : TypeId} {pos : String} {after : Array Edge} : runO P H f nt ops ⟨dst, op, ty, pos, after, none⟩ k e A Q = (dstOk nt ⟨dst, op, ty, pos, after, none⟩ = true ∧ runOp P H f nt ⟨dst, op, ty, pos, after, none⟩ k e A Q) := rfl
theorem o_some {dst : Option Tmp} {op : Op} {ty : TypeId} {pos : String} {after : Array Edge} {j : Nat} {w : Bool} : runO P H f nt ops ⟨dst, op, ty, pos, after, some (j, w)⟩ k e A Q = (dstOk nt ⟨dst, op, ty, pos, after, some (j, w)⟩ = true ∧ match (ops[j]?).bind (·.dst) with
    | none => False
    | some d => contG P H f nt (e.get d) w ⟨dst, op, ty, pos, after, some (j, w)⟩ k e A Q) := rfl
theorem d_none {op : Op} {ty : TypeId} {pos : String} {after : Array Edge} {g : Option (Nat × Bool)} : dstOk nt ⟨none, op, ty, pos, after, g⟩ = true := rfl
theorem d_some {d : Tmp} {op : Op} {ty : TypeId} {pos : String} {after : Array Edge} {g : Option (Nat × Bool)} : dstOk nt ⟨some d, op, ty, pos, after, g⟩ = decide (d < nt) := rfl
theorem get_hit {t : Nat} {v : V} {r : Env} : Env.get ((t, v) :: r) t = v := by simp [Env.get]
theorem get_cons {t u : Nat} {v : V} {r : Env} : Env.get ((u, v) :: r) t = if u == t then v else Env.get r t := rfl
theorem ev_tmp {t : Nat} : Env.eval e (.tmp t) = some (e.get t) := rfl
theorem ev_const {v : Value} : Env.eval e (.const v) = ofVal v := rfl
theorem ev_func {g : FuncId} : Env.eval e (.func g) = some (.fn g [] []) := rfl
theorem ov_bool {b : Bool} : ofVal (.bool b) = some (.bool b) := rfl
theorem ov_int {k : IntKind} {n : Int} : ofVal (.int k n) = some (.int k n) := rfl
theorem ov_str {s : ByteArray} : ofVal (.string s) = some (.str s.data.toList) := rfl
theorem ov_pnil : ofVal (.pointer none) = some .pnil := rfl
theorem ov_snil : ofVal (.slice none 0 0) = some .snil := rfl
theorem ov_mnil : ofVal (.map none) = some .mnil := rfl
theorem ov_fnil : ofVal .nilFunc = some .fnil := rfl
theorem bi_ii {op : BinOp} {t : TypeId} {k : IntKind} {a b : Int} (h1 : op ≠ .shl) (h2 : op ≠ .shr) : evBin P op t (.int k a) (.int k b) = evInt op k a b := by
  cases op <;> first | exact absurd rfl h1 | exact absurd rfl h2 | (simp [evBin])
theorem bi_add {t : TypeId} {k : IntKind} {a b : Int} : evBin P .add t (.int k a) (.int k b) = some (.int k (k.wrap (a + b))) := by simp [evBin, evInt]
theorem bi_sub {t : TypeId} {k : IntKind} {a b : Int} : evBin P .sub t (.int k a) (.int k b) = some (.int k (k.wrap (a - b))) := by simp [evBin, evInt]
theorem bi_mul {t : TypeId} {k : IntKind} {a b : Int} : evBin P .mul t (.int k a) (.int k b) = some (.int k (k.wrap (a * b))) := by simp [evBin, evInt]
theorem bi_quo {t : TypeId} {k : IntKind} {a b : Int} : evBin P .quo t (.int k a) (.int k b) = if b = 0 then none else some (.int k (k.wrap (a.tdiv b))) := by simp [evBin, evInt]
theorem bi_rem {t : TypeId} {k : IntKind} {a b : Int} : evBin P .rem t (.int k a) (.int k b) = if b = 0 then none else some (.int k (a.tmod b)) := by simp [evBin, evInt]
theorem bi_and {t : TypeId} {k : IntKind} {a b : Int} : evBin P .and t (.int k a) (.int k b) = evBits .and k a b := by simp [evBin, evInt]
theorem bi_or {t : TypeId} {k : IntKind} {a b : Int} : evBin P .or t (.int k a) (.int k b) = evBits .or k a b := by simp [evBin, evInt]
theorem bi_xor {t : TypeId} {k : IntKind} {a b : Int} : evBin P .xor t (.int k a) (.int k b) = evBits .xor k a b := by simp [evBin, evInt]
theorem bi_eql {t : TypeId} {k : IntKind} {a b : Int} : evBin P .eql t (.int k a) (.int k b) = some (.bool (decide (a = b))) := by simp [evBin, evInt]; rfl
theorem bi_neq {t : TypeId} {k : IntKind} {a b : Int} : evBin P .neq t (.int k a) (.int k b) = some (.bool (decide (¬ a = b))) := by
  simp [evBin, evInt]
  by_cases h : a = b <;> simp [h]
theorem bi_lss {t : TypeId} {k : IntKind} {a b : Int} : evBin P .lss t (.int k a) (.int k b) = some (.bool (decide (a < b))) := by simp [evBin, evInt]
theorem bi_leq {t : TypeId} {k : IntKind} {a b : Int} : evBin P .leq t (.int k a) (.int k b) = some (.bool (decide (a ≤ b))) := by simp [evBin, evInt]
theorem bi_gtr {t : TypeId} {k : IntKind} {a b : Int} : evBin P .gtr t (.int k a) (.int k b) = some (.bool (decide (a > b))) := by simp [evBin, evInt]
theorem bi_geq {t : TypeId} {k : IntKind} {a b : Int} : evBin P .geq t (.int k a) (.int k b) = some (.bool (decide (a ≥ b))) := by simp [evBin, evInt]
theorem bi_shl {t : TypeId} {k k' : IntKind} {a b : Int} : evBin P .shl t (.int k a) (.int k' b) = evShift .shl k a b := rfl
theorem bi_shr {t : TypeId} {k k' : IntKind} {a b : Int} : evBin P .shr t (.int k a) (.int k' b) = evShift .shr k a b := rfl
theorem bi_seq {t : TypeId} {a b : List UInt8} : evBin P .eql t (.str a) (.str b) = some (.bool (decide (a = b))) := by
  simp [evBin, evStr]
  by_cases h : a = b <;> simp [h]
theorem bi_sne {t : TypeId} {a b : List UInt8} : evBin P .neq t (.str a) (.str b) = some (.bool (decide (¬ a = b))) := by
  simp [evBin, evStr]
  by_cases h : a = b <;> simp [h]
theorem bi_sadd {t : TypeId} {a b : List UInt8} : evBin P .add t (.str a) (.str b) = if a.length + b.length ≤ 9223372036854775807 then some (.str (a ++ b)) else none := by simp [evBin, evStr]
theorem bi_aeq {t : TypeId} {a b : List V} : evBin P .eql t (.agg a) (.agg b) = (evEq P t (.agg a) (.agg b)).map .bool := by simp [evBin]
theorem bi_ane {t : TypeId} {a b : List V} : evBin P .neq t (.agg a) (.agg b) = (evEq P t (.agg a) (.agg b)).map fun b => .bool (!b) := by simp [evBin]
theorem bi_beq {t : TypeId} {a b : Bool} : evBin P .eql t (.bool a) (.bool b) = (evEq P t (.bool a) (.bool b)).map .bool := by simp [evBin]
theorem bi_bne {t : TypeId} {a b : Bool} : evBin P .neq t (.bool a) (.bool b) = (evEq P t (.bool a) (.bool b)).map fun b => .bool (!b) := by simp [evBin]
theorem bi_pe1 {t : TypeId} {b o : Nat} : evBin P .eql t (.ptr b o) .pnil = (evEq P t (.ptr b o) .pnil).map .bool := by simp [evBin]
theorem bi_pe2 {t : TypeId} {b o : Nat} : evBin P .neq t (.ptr b o) .pnil = (evEq P t (.ptr b o) .pnil).map fun b => .bool (!b) := by simp [evBin]
theorem eq_bool {t : TypeId} {a b : Bool} (h : P.underlying t = some .bool) : evEq P t (.bool a) (.bool b) = some (decide (a = b)) := by
  unfold evEq; simp only [h]; cases a <;> cases b <;> rfl
theorem un_not {b : Bool} : evUn .not (.bool b) = some (.bool (!b)) := rfl
theorem un_notd {p : Prop} [Decidable p] : evUn .not (.bool (decide p)) = some (.bool (decide (¬ p))) := by
  show some (V.bool (!decide p)) = _
  by_cases h : p <;> simp [h]
theorem un_neg {k : IntKind} {n : Int} : evUn .neg (.int k n) = some (.int k (k.wrap (0 - n))) := rfl
theorem al_nil : evalAll e [] = some [] := rfl
theorem al_cons {x : Operand} {xs : List Operand} : evalAll e (x :: xs) = (e.eval x).bind fun v => (evalAll e xs).bind fun vs => some (v :: vs) := by
  rw [evalAll]
  cases e.eval x <;> cases evalAll e xs <;> rfl
theorem pa_nil : evalParts e [] = some [] := rfl
theorem pa_cons {i : Nat} {x : Operand} {xs : List (Nat × Operand)} : evalParts e ((i, x) :: xs) = (e.eval x).bind fun v => (evalParts e xs).bind fun vs => some ((i, v) :: vs) := by
  rw [evalParts]
  cases e.eval x <;> cases evalParts e xs <;> rfl
theorem op_none : evalOpt e none = some none := rfl
theorem op_some {x : Operand} : evalOpt e (some x) = (e.eval x).map some := by
  rw [evalOpt]
  cases e.eval x <;> rfl
theorem ex_tup {i : Nat} {l : List V} : extr i (.tup l) = l[i]? := rfl
theorem ni_ptr {b o : Nat} : evNilCheck (.ptr b o) = some (.ptr b o) := rfl
theorem ni_fn {g : FuncId} {a c : List V} : evNilCheck (.fn g a c) = some (.fn g a c) := rfl
theorem ni_yield {l : Nat} : evNilCheck (.yield l) = some (.yield l) := rfl
theorem ar_nil {i : Nat} : argEnv i [] = [] := rfl
theorem ar_cons {i : Nat} {v : V} {vs : List V} : argEnv i (v :: vs) = (i, v) :: argEnv (i + 1) vs := rfl
theorem le_normal {rs : List ResultVar} {R : V → AS → Prop} : leavesR P rs R .normal e A = ∃ vs, evResults P e A rs = some vs ∧ R (single vs) A := rfl
theorem le_ret {rs : List ResultVar} {R : V → AS → Prop} : leavesR P rs R .ret e A = ∃ vs, evResults P e A rs = some vs ∧ R (single vs) A := rfl
theorem re_nil : evResults P e A [] = some [] := rfl
theorem re_tmp {t : Tmp} {r : List ResultVar} : evResults P e A (.tmp t :: r) = (evResults P e A r).map (e.get t :: ·) := rfl
theorem re_cell {a : Tmp} {t : TypeId} {r : List ResultVar} : evResults P e A (.cell a t :: r) = (evLoad P t (e.get a) A).bind fun v => (evResults P e A r).map (v :: ·) := by
  rw [evResults]
  cases evLoad P t (e.get a) A <;> cases evResults P e A r <;> rfl
theorem si_one {v : V} : single [v] = v := rfl
theorem si_nil : single [] = .tup [] := rfl
theorem si_two {v w : V} {r : List V} : single (v :: w :: r) = .tup (v :: w :: r) := rfl
theorem sd_some {d : Tmp} {op : Op} {ty : TypeId} {pos : String} {after : Array Edge} {g : Option (Nat × Bool)} {v : V} : setDst e ⟨some d, op, ty, pos, after, g⟩ v = (d, v) :: e := rfl
theorem sd_none {op : Op} {ty : TypeId} {pos : String} {after : Array Edge} {g : Option (Nat × Bool)} {v : V} : setDst e ⟨none, op, ty, pos, after, g⟩ v = e := rfl
theorem xs_some {β : Type} {p : β → Prop} {v : β} : (∃ vs, some v = some vs ∧ p vs) = p v := by simp
variable {dst : Option Tmp} {ty : TypeId} {pos : String} {after : Array Edge} {gd : Option (Nat × Bool)}
theorem r_move {x : Operand} : runOp P H f nt ⟨dst, .move x, ty, pos, after, gd⟩ k e A Q = contQ P H f nt ((e.eval x).map .val) dst k e A Q := by
  show contQ P H f nt (evQ P _ e A) dst k e A Q = _; rw [q_move]
theorem r_assign {x : Operand} : runOp P H f nt ⟨dst, .assign x, ty, pos, after, gd⟩ k e A Q = contQ P H f nt ((e.eval x).map .val) dst k e A Q := by
  show contQ P H f nt (evQ P _ e A) dst k e A Q = _; rw [q_assign]
theorem r_pick {x y z : Operand} : runOp P H f nt ⟨dst, .pick x y z, ty, pos, after, gd⟩ k e A Q = contQ P H f nt ((pck e (e.eval x) y z).map .val) dst k e A Q := by
  show contQ P H f nt (evQ P _ e A) dst k e A Q = _; rw [q_pick]
theorem r_alloc {t : TypeId} : runOp P H f nt ⟨dst, .alloc t, ty, pos, after, gd⟩ k e A Q = contQ P H f nt (newp ((zeroT P t).bind V.cells)) dst k e A Q := by
  show contQ P H f nt (evQ P _ e A) dst k e A Q = _; rw [q_alloc]
theorem r_box {t : TypeId} {x : Operand} : runOp P H f nt ⟨dst, .box t x, ty, pos, after, gd⟩ k e A Q = contQ P H f nt (newp ((e.eval x).bind V.cells)) dst k e A Q := by
  show contQ P H f nt (evQ P _ e A) dst k e A Q = _; rw [q_box]
theorem r_build {t : TypeId} {ps : Array (Nat × Operand)} : runOp P H f nt ⟨dst, .build t ps, ty, pos, after, gd⟩ k e A Q = contQ P H f nt (((evalParts e ps.toList).bind fun l => evBuild P t l).map .val) dst k e A Q := by
  show contQ P H f nt (evQ P _ e A) dst k e A Q = _; rw [q_build]
theorem r_bsl {t : TypeId} {n : Nat} {ps : Array (Nat × Operand)} : runOp P H f nt ⟨dst, .buildSlice t n ps, ty, pos, after, gd⟩ k e A Q = contQ P H f nt (bsl P t n (evalParts e ps.toList)) dst k e A Q := by
  show contQ P H f nt (evQ P _ e A) dst k e A Q = _; rw [q_bsl]
theorem r_load {t : TypeId} {x : Operand} : runOp P H f nt ⟨dst, .load t x, ty, pos, after, gd⟩ k e A Q = contQ P H f nt (((e.eval x).bind fun a => evLoad P t a A).map .val) dst k e A Q := by
  show contQ P H f nt (evQ P _ e A) dst k e A Q = _; rw [q_load]
theorem r_nil {x : Operand} : runOp P H f nt ⟨dst, .nilCheck x, ty, pos, after, gd⟩ k e A Q = contQ P H f nt (((e.eval x).bind evNilCheck).map .val) dst k e A Q := by
  show contQ P H f nt (evQ P _ e A) dst k e A Q = _; rw [q_nil]
theorem r_bin {op : BinOp} {t t2 : TypeId} {x y : Operand} : runOp P H f nt ⟨dst, .binOp op t x y t2, ty, pos, after, gd⟩ k e A Q = contQ P H f nt (((e.eval x).bind fun a => (e.eval y).bind fun b => evBin P op t a b).map .val) dst k e A Q := by
  show contQ P H f nt (evQ P _ e A) dst k e A Q = _; rw [q_bin]
theorem r_un {op : UnOp} {t : TypeId} {x : Operand} : runOp P H f nt ⟨dst, .unOp op t x, ty, pos, after, gd⟩ k e A Q = contQ P H f nt (((e.eval x).bind fun a => evUn op a).map .val) dst k e A Q := by
  show contQ P H f nt (evQ P _ e A) dst k e A Q = _; rw [q_un]
theorem r_conv {s d : TypeId} {x : Operand} : runOp P H f nt ⟨dst, .convert s d x, ty, pos, after, gd⟩ k e A Q = contQ P H f nt (cnv P s d (e.eval x) A) dst k e A Q := by
  show contQ P H f nt (evQ P _ e A) dst k e A Q = _; rw [q_conv]
theorem r_s2ap {t : TypeId} {x : Operand} : runOp P H f nt ⟨dst, .sliceToArrayPointer t x, ty, pos, after, gd⟩ k e A Q = contQ P H f nt (((e.eval x).bind fun a => evS2ap P t a).map .val) dst k e A Q := by
  show contQ P H f nt (evQ P _ e A) dst k e A Q = _; rw [q_s2ap]
theorem r_func {g : FuncId} {a c : Array Operand} : runOp P H f nt ⟨dst, .makeFunc (.func g) a c, ty, pos, after, gd⟩ k e A Q = contQ P H f nt (mkf g (evalAll e a.toList) (evalAll e c.toList)) dst k e A Q := by
  show contQ P H f nt (evQ P _ e A) dst k e A Q = _; rw [q_func]
theorem r_map {t : TypeId} {r : Option Operand} : runOp P H f nt ⟨dst, .makeMap t r, ty, pos, after, gd⟩ k e A Q = contQ P H f nt (mkm P t (evalOpt e r)) dst k e A Q := by
  show contQ P H f nt (evQ P _ e A) dst k e A Q = _; rw [q_map]
theorem r_msl {t : TypeId} {x y : Operand} : runOp P H f nt ⟨dst, .makeSlice t x y, ty, pos, after, gd⟩ k e A Q = contQ P H f nt (msl P t (e.eval x) (e.eval y)) dst k e A Q := by
  show contQ P H f nt (evQ P _ e A) dst k e A Q = _; rw [q_msl]
theorem r_slice {t : TypeId} {x : Operand} {lo hi mx : Option Operand} : runOp P H f nt ⟨dst, .slice t x lo hi mx, ty, pos, after, gd⟩ k e A Q = contQ P H f nt (slq P t (e.eval x) (evalOpt e lo) (evalOpt e hi) (evalOpt e mx) A) dst k e A Q := by
  show contQ P H f nt (evQ P _ e A) dst k e A Q = _; rw [q_slice]
theorem r_fieldAddr {t : TypeId} {x : Operand} {i : Nat} : runOp P H f nt ⟨dst, .fieldAddr t x i, ty, pos, after, gd⟩ k e A Q = contQ P H f nt (((e.eval x).bind fun a => evFieldAddr P t a i).map .val) dst k e A Q := by
  show contQ P H f nt (evQ P _ e A) dst k e A Q = _; rw [q_fieldAddr]
theorem r_field {t : TypeId} {x : Operand} {i : Nat} : runOp P H f nt ⟨dst, .field t x i, ty, pos, after, gd⟩ k e A Q = contQ P H f nt (((e.eval x).bind fun a => evField P t a i).map .val) dst k e A Q := by
  show contQ P H f nt (evQ P _ e A) dst k e A Q = _; rw [q_field]
theorem r_indexAddr {t : TypeId} {x y : Operand} : runOp P H f nt ⟨dst, .indexAddr t x y, ty, pos, after, gd⟩ k e A Q = contQ P H f nt (((e.eval x).bind fun a => (e.eval y).bind fun b => evIndexAddr P t a b).map .val) dst k e A Q := by
  show contQ P H f nt (evQ P _ e A) dst k e A Q = _; rw [q_indexAddr]
theorem r_index {t : TypeId} {x y : Operand} : runOp P H f nt ⟨dst, .index t x y, ty, pos, after, gd⟩ k e A Q = contQ P H f nt (((e.eval x).bind fun a => (e.eval y).bind fun b => evIndex P t a b).map .val) dst k e A Q := by
  show contQ P H f nt (evQ P _ e A) dst k e A Q = _; rw [q_index]
theorem r_lookup {t : TypeId} {x y : Operand} {ok : Bool} : runOp P H f nt ⟨dst, .lookup t x y ok, ty, pos, after, gd⟩ k e A Q = contQ P H f nt (((e.eval x).bind fun a => (e.eval y).bind fun b => evLookup P t a b ok A).map .val) dst k e A Q := by
  show contQ P H f nt (evQ P _ e A) dst k e A Q = _; rw [q_lookup]
theorem r_extract {x : Operand} {i : Nat} : runOp P H f nt ⟨dst, .extract x i, ty, pos, after, gd⟩ k e A Q = contQ P H f nt (((e.eval x).bind (extr i)).map .val) dst k e A Q := by
  show contQ P H f nt (evQ P _ e A) dst k e A Q = _; rw [q_extract]
theorem r_len {t : TypeId} {x : Operand} : runOp P H f nt ⟨dst, .call ⟨.builtin .len, #[x], #[t]⟩, ty, pos, after, gd⟩ k e A Q = contQ P H f nt (((e.eval x).bind fun a => evLen P t a A).map .val) dst k e A Q := by
  show contQ P H f nt (evQ P _ e A) dst k e A Q = _; rw [q_len]
theorem r_max {a : Array Operand} {ts : Array TypeId} : runOp P H f nt ⟨dst, .call ⟨.builtin .max, a, ts⟩, ty, pos, after, gd⟩ k e A Q = contQ P H f nt (((evalAll e a.toList).bind (evMM fun x y => if y > x then y else x)).map .val) dst k e A Q := by
  show contQ P H f nt (evQ P _ e A) dst k e A Q = _; rw [q_max]
theorem r_min {a : Array Operand} {ts : Array TypeId} : runOp P H f nt ⟨dst, .call ⟨.builtin .min, a, ts⟩, ty, pos, after, gd⟩ k e A Q = contQ P H f nt (((evalAll e a.toList).bind (evMM fun x y => if y < x then y else x)).map .val) dst k e A Q := by
  show contQ P H f nt (evQ P _ e A) dst k e A Q = _; rw [q_min]
theorem r_store {t : TypeId} {x y : Operand} : runOp P H f nt ⟨dst, .store t x y, ty, pos, after, gd⟩ k e A Q = contE P H f nt (u1 ((e.eval x).bind fun p => (e.eval y).bind fun v => evStore P t p v A)) dst k e Q := by
  show contE P H f nt (evE P C0 _ e A) dst k e Q = _; rw [e_store]
theorem r_update {t : TypeId} {x y z : Operand} : runOp P H f nt ⟨dst, .mapUpdate t x y z, ty, pos, after, gd⟩ k e A Q = contE P H f nt (u1 (on3 (e.eval x) (e.eval y) (e.eval z) fun m k v => evMapUpdate P t m k v A)) dst k e Q := by
  show contE P H f nt (evE P C0 _ e A) dst k e Q = _; rw [e_update]
theorem r_insert {t : TypeId} {x y z : Operand} : runOp P H f nt ⟨dst, .insert t x y z, ty, pos, after, gd⟩ k e A Q = contE P H f nt (u1 (on3 (e.eval x) (e.eval y) (e.eval z) fun m k v => evMapUpdate P t m k v A)) dst k e Q := by
  show contE P H f nt (evE P C0 _ e A) dst k e Q = _; rw [e_insert]
theorem r_mapEntry {t : TypeId} {x y : Operand} : runOp P H f nt ⟨dst, .mapEntry t x y, ty, pos, after, gd⟩ k e A Q = contE P H f nt ((e.eval x).bind fun m => (e.eval y).bind fun k => evMapEntry P t m k A) dst k e Q := by
  show contE P H f nt (evE P C0 _ e A) dst k e Q = _; rw [e_mapEntry]
theorem r_entryStore {t : TypeId} {x y z : Operand} : runOp P H f nt ⟨dst, .entryStore t x y z, ty, pos, after, gd⟩ k e A Q = contE P H f nt (u1 (on3 (e.eval x) (e.eval y) (e.eval z) fun m s v => evEntryStore m s v A)) dst k e Q := by
  show contE P H f nt (evE P C0 _ e A) dst k e Q = _; rw [e_entryStore]
theorem r_range {t : TypeId} {x : Operand} : runOp P H f nt ⟨dst, .range t x, ty, pos, after, gd⟩ k e A Q = contE P H f nt ((e.eval x).bind fun x => evRange P t x A) dst k e Q := by
  show contE P H f nt (evE P C0 _ e A) dst k e Q = _; rw [e_range]
theorem r_next {x : Operand} : runOp P H f nt ⟨dst, .next x false, ty, pos, after, gd⟩ k e A Q = contE P H f nt ((e.eval x).bind fun x => evNext x A) dst k e Q := by
  show contE P H f nt (evE P C0 _ e A) dst k e Q = _; rw [e_next]
theorem r_entry {x : Operand} : runOp P H f nt ⟨dst, .entry x, ty, pos, after, gd⟩ k e A Q = contE P H f nt (((e.eval x).bind fun x => evEntry x A).map fun v => (v, A)) dst k e Q := by
  show contE P H f nt (evE P C0 _ e A) dst k e Q = _; rw [e_entry]
theorem r_append {t t2 : TypeId} {x y : Operand} : runOp P H f nt ⟨dst, .call ⟨.builtin .append, #[x, y], #[t, t2]⟩, ty, pos, after, gd⟩ k e A Q = contE P H f nt ((e.eval x).bind fun a => (e.eval y).bind fun b => evAppend P t t2 a b A) dst k e Q := by
  show contE P H f nt (evE P C0 _ e A) dst k e Q = _; rw [e_append]
theorem r_copy {t t2 : TypeId} {x y : Operand} : runOp P H f nt ⟨dst, .call ⟨.builtin .copy, #[x, y], #[t, t2]⟩, ty, pos, after, gd⟩ k e A Q = contE P H f nt ((e.eval x).bind fun a => (e.eval y).bind fun b => evCopy P t a b A) dst k e Q := by
  show contE P H f nt (evE P C0 _ e A) dst k e Q = _; rw [e_copy]
theorem r_delete {t t2 : TypeId} {x y : Operand} : runOp P H f nt ⟨dst, .call ⟨.builtin .delete, #[x, y], #[t, t2]⟩, ty, pos, after, gd⟩ k e A Q = contE P H f nt (u1 ((e.eval x).bind fun a => (e.eval y).bind fun b => evDelete P t a b A)) dst k e Q := by
  show contE P H f nt (evE P C0 _ e A) dst k e Q = _; rw [e_delete]
theorem r_call {g : Operand} {args : Array Operand} {ts : Array TypeId} : runOp P H f nt ⟨dst, .call ⟨.value g, args, ts⟩, ty, pos, after, gd⟩ k e A Q = contC P H f nt (e.eval g) (evalAll e args.toList) dst k e A Q := rfl
theorem cq_val {d : Tmp} {v : V} : contQ P H f nt (some (.val v)) (some d) k e A Q = Run P H f nt k .normal ((d, v) :: e) A Q := rfl
theorem cq_val0 {v : V} : contQ P H f nt (some (.val v)) none k e A Q = Run P H f nt k .normal e A Q := rfl
theorem cq_ptr {d : Tmp} {c : List V} : contQ P H f nt (some (.newPtr c)) (some d) k e A Q = Run P H f nt k .normal ((d, .ptr A.blk.length 0) :: e) (A.push ⟨c, .var⟩) Q := rfl
theorem cq_sl {d : Tmp} {c : List V} {n sz : Nat} : contQ P H f nt (some (.newSl c n sz)) (some d) k e A Q = Run P H f nt k .normal ((d, .sl A.blk.length 0 n sz) :: e) (A.push ⟨c, .arr A.blk.length 0⟩) Q := rfl
theorem cq_map {d : Tmp} : contQ P H f nt (some .newMap) (some d) k e A Q = Run P H f nt k .normal ((d, .map A.maps.length) :: e) (A.pushMap ⟨[], 0⟩) Q := rfl
theorem ce_some {d : Tmp} {v : V} {A' : AS} : contE P H f nt (some (v, A')) (some d) k e Q = Run P H f nt k .normal ((d, v) :: e) A' Q := rfl
theorem ce_some0 {v : V} {A' : AS} : contE P H f nt (some (v, A')) none k e Q = Run P H f nt k .normal e A' Q := rfl
theorem run_call1 {g : FuncId} {args : List V} {d : Tmp} {v : V} {A' : AS} (h : EvF P H g args A v A') (hr : Run P H f nt k .normal ((d, v) :: e) A' Q) : RunCall P H f nt g args (some d) k e A Q := ⟨v, A', h, hr⟩
theorem run_call0 {g : FuncId} {args : List V} {v : V} {A' : AS} (h : EvF P H g args A v A') (hr : Run P H f nt k .normal e A' Q) : RunCall P H f nt g args none k e A Q := ⟨v, A', h, hr⟩
theorem cc_yield {l : Nat} {vs : List V} {d : Tmp} : contC P H f nt (some (.yield l)) (some vs) (some d) k e A Q = wpYield P H l vs A fun v A' => Run P H f nt k .normal ((d, v) :: e) A' Q := rfl
theorem cc_yield0 {l : Nat} {vs : List V} : contC P H f nt (some (.yield l)) (some vs) none k e A Q = wpYield P H l vs A fun v A' => Run P H f nt k .normal e A' Q := rfl
end

set_option linter.defProp false
/-- The rules. -/
def RS :=
  And.intro @run_seq <| And.intro @run_region <| And.intro @run_draw <| And.intro @run_op <| And.intro @run_ops_nil <| And.intro @run_plan <| And.intro @run_plan_nil <| And.intro @run_rc <| And.intro @run_cond_eq <| And.intro @run_block <| And.intro @run_skip <| And.intro @run_label <| And.intro @run_scope <| And.intro @run_exit <| And.intro @run_code_exit <| And.intro @run_code_ret <| And.intro @run_blk_exit <| And.intro @run_blk_normal <| And.intro @run_blk_ret <| And.intro @run_ret <| And.intro @run_nil <| And.intro @o_none <| And.intro @o_some <| And.intro @d_none <| And.intro @d_some <| And.intro @get_hit <| And.intro @get_cons <| And.intro @ev_tmp <| And.intro @ev_const <| And.intro @ev_func <| And.intro @ov_bool <| And.intro @ov_int <| And.intro @ov_str <| And.intro @ov_pnil <| And.intro @ov_snil <| And.intro @ov_mnil <| And.intro @ov_fnil <| And.intro @bi_add <| And.intro @bi_sub <| And.intro @bi_mul <| And.intro @bi_and <| And.intro @bi_or <| And.intro @bi_xor <| And.intro @bi_eql <| And.intro @bi_neq <| And.intro @bi_lss <| And.intro @bi_leq <| And.intro @bi_gtr <| And.intro @bi_geq <| And.intro @bi_shl <| And.intro @bi_shr <| And.intro @bi_seq <| And.intro @bi_sne <| And.intro @bi_aeq <| And.intro @bi_ane <| And.intro @bi_beq <| And.intro @bi_bne <| And.intro @bi_pe1 <| And.intro @bi_pe2 <| And.intro @un_notd <| And.intro @un_not <| And.intro @un_neg <| And.intro @al_nil <| And.intro @al_cons <| And.intro @pa_nil <| And.intro @pa_cons <| And.intro @op_none <| And.intro @op_some <| And.intro @ex_tup <| And.intro @ni_ptr <| And.intro @ni_fn <| And.intro @ni_yield <| And.intro @ar_nil <| And.intro @ar_cons <| And.intro @le_normal <| And.intro @le_ret <| And.intro @re_nil <| And.intro @re_tmp <| And.intro @re_cell <| And.intro @si_one <| And.intro @si_nil <| And.intro @si_two <| And.intro @sd_some <| And.intro @sd_none <| And.intro @cq_val <| And.intro @cq_val0 <| And.intro @cq_ptr <| And.intro @cq_sl <| And.intro @cq_map <| And.intro @ce_some <| And.intro @ce_some0 <| And.intro @contC_fn <| And.intro @cc_yield <| And.intro @cc_yield0 <| And.intro @contG_tt <| And.intro @contG_ff <| And.intro @contG_tf <| And.intro @contG_ft <| And.intro @contG_no <| And.intro @condK_true <| And.intro @condK_false <| And.intro @u1_some <| And.intro @on3_some <| And.intro @newp_some <| And.intro @mkf_some <| And.intro @slq_some <| And.intro @pck_t <| And.intro @pck_f <| And.intro @cl_bool <| And.intro @cl_int <| And.intro @cl_str <| And.intro @cl_pnil <| And.intro @cl_ptr <| And.intro @cl_snil <| And.intro @cl_sl <| And.intro @cl_mnil <| And.intro @cl_map <| And.intro @cl_fnil <| And.intro @cl_fn <| And.intro @cl_yield <| And.intro @cl_agg <| And.intro @r_move <| And.intro @r_assign <| And.intro @r_pick <| And.intro @r_alloc <| And.intro @r_box <| And.intro @r_build <| And.intro @r_bsl <| And.intro @r_load <| And.intro @r_nil <| And.intro @r_bin <| And.intro @r_un <| And.intro @r_conv <| And.intro @r_s2ap <| And.intro @r_func <| And.intro @r_map <| And.intro @r_msl <| And.intro @r_slice <| And.intro @r_fieldAddr <| And.intro @r_field <| And.intro @r_indexAddr <| And.intro @r_index <| And.intro @r_lookup <| And.intro @r_extract <| And.intro @r_len <| And.intro @r_max <| And.intro @r_min <| And.intro @r_store <| And.intro @r_update <| And.intro @r_insert <| And.intro @r_mapEntry <| And.intro @r_entryStore <| And.intro @r_range <| And.intro @r_next <| And.intro @r_entry <| And.intro @r_append <| And.intro @r_copy <| And.intro @r_delete <| @r_call
end Go.Sv


namespace Go.Sv
open Go
set_option linter.unusedSimpArgs false
set_option linter.unusedVariables false
set_option linter.unnecessarySimpa false

abbrev Bts := List UInt8
/-- Bytes in cells. -/
def bc (l : Bts) : List V := l.map fun u => .int .u8 u.toNat
theorem bc_len (l : Bts) : (bc l).length = l.length := by simp [bc]
theorem bc_one (l : Bts) : (bc l).all V.one = true := by simp [bc, V.one]
theorem bc_app (l r : Bts) : bc (l ++ r) = bc l ++ bc r := by simp [bc]
theorem bc_nil : bc [] = [] := rfl
theorem bc_cons (x : UInt8) (l : Bts) : bc (x :: l) = .int .u8 x.toNat :: bc l := rfl
theorem bc_get (l : Bts) (i : Nat) : (bc l)[i]? = (l[i]?).map fun u => .int .u8 u.toNat := by simp [bc]
theorem bytesOf_bc (l : Bts) : bytesOf (bc l) = some l := bytesOf_map l

/-- An array of bytes. -/
def eB (n : Nat) (hn : 0 < n) : Enc Bts := ⟨n, true, fun _ cs x => cs = bc x ∧ x.length = n, fun h => by rw [h.1, bc_len, h.2], fun h => by simp at h, fun h => by rw [h.1]; exact bc_one _, fun _ h => h⟩
theorem eB_W {n : Nat} {hn : 0 < n} {m : Hp} {w : V} {x : Bts} : (eB n hn).W m w x ↔ w = .agg (bc x) ∧ x.length = n := by
  unfold Enc.W; rw [if_pos (by simp [eB])]
  constructor
  · rintro ⟨cs, rfl, rfl, h⟩; exact ⟨rfl, h⟩
  · rintro ⟨rfl, h⟩; exact ⟨_, rfl, rfl, h⟩
def eId : Enc Bts := eB 32 (by decide)

theorem u8wrap (n : Nat) : IntKind.u8.wrap (n : Int) = ((UInt8.ofNat n).toNat : Int) := by
  rw [UInt8.toNat_ofNat']
  simp [IntKind.wrap, IntKind.signed, IntKind.bits]
theorem u8wrap' (u : UInt8) : IntKind.u8.wrap (u.toNat : Int) = (u.toNat : Int) := by
  rw [u8wrap, UInt8.ofNat_toNat]
theorem i64u8 (u : UInt8) : IntKind.i64.wrap (u.toNat : Int) = (u.toNat : Int) := wrapN (by have := u.toNat_lt; omega)

theorem wrapI {n : Int} (h1 : -9223372036854775808 ≤ n) (h2 : n ≤ 9223372036854775807) : IntKind.i64.wrap n = n := by
  show (if (true && decide (n % 18446744073709551616 ≥ 9223372036854775808)) = true then n % 18446744073709551616 - 18446744073709551616 else n % 18446744073709551616) = n
  simp only [Bool.true_and, decide_eq_true_eq]
  split <;> omega
theorem shr_nat {k : IntKind} (n j : Nat) (hj : j ≤ k.bits) : evShift .shr k (n : Int) (j : Int) = some (.int k ((n / 2 ^ j : Nat) : Int)) := by
  unfold evShift
  rw [if_neg (by omega)]
  simp only [Int.toNat_natCast, Nat.min_eq_left hj]
  congr 2
  rw [Int.fdiv_eq_ediv_of_nonneg _ (by exact_mod_cast Nat.zero_le _)]
  norm_cast
theorem shl_nat {k : IntKind} (n j : Nat) (hj : j ≤ k.bits) : evShift .shl k (n : Int) (j : Int) = some (.int k (k.wrap ((n * 2 ^ j : Nat) : Int))) := by
  unfold evShift
  rw [if_neg (by omega)]
  simp only [Int.toNat_natCast, Nat.min_eq_left hj]
  congr 3

theorem rem_nat (n j : Nat) : (n : Int).tmod (j : Int) = ((n % j : Nat) : Int) := rfl
theorem quo_nat (n j : Nat) : (n : Int).tdiv (j : Int) = ((n / j : Nat) : Int) := rfl

section
variable {P : Program} {A : AS} {t e s d : TypeId}

/-- A text of a row that is there. -/
theorem cnv_row {b : Nat} {l : Bts} {k : BK} {el : TypeId} (hne : s ≠ d) (hu : P.underlying s = some (.slice el)) (he : P.underlying el = some (.int .u8)) (hd : P.underlying d = some .string) (hb : A.blk[b]? = some ⟨bc l, k⟩) :
    cnv P s d (some (.sl b 0 l.length 1)) A = some (.val (.str l)) := by
  rw [cnv_ne hne (fun b q => by simp at q)]
  unfold evConvert
  simp only [hu, he, hd, if_true]
  have : A.range b 0 l.length = some (bc l) := by
    unfold AS.range; rw [hb]; simp [bc_len]
    rw [← bc_len l, List.take_length]
  rw [this]; simp only [bytesOf_bc]; rfl

/-- An element of an array's value. -/
theorem arr_at {n : Nat} {k : IntKind} {cs : List V} {i : Nat} (hu : P.underlying t = some (.array n e)) (hs : szT P e = some 1) (ha : aggT P e = some false) (hi : i < n) : evIndex P t (.agg cs) (.int k (i : Int)) = cs[i]? := by
  unfold evIndex
  simp only [hu, hs]
  rw [if_pos (by omega)]
  unfold partV
  simp [ha]
/-- An element's place in an array. -/
theorem arr_addr {n b o : Nat} {k : IntKind} {i z : Nat} (hu : P.underlying t = some (.array n e)) (hs : szT P e = some z) (hi : i < n) : evIndexAddr P t (.ptr b o) (.int k (i : Int)) = some (.ptr b (o + i * z)) := by
  unfold evIndexAddr
  simp only [hu, hs]
  rw [if_pos (by omega)]; simp
/-- An element's place in a slice. -/
theorem sl_addr {n b o : Nat} {k : IntKind} {i z : Nat} (hu : P.underlying t = some (.slice e)) (hs : szT P e = some z) (hi : i < n) : evIndexAddr P t (.sl b o n z) (.int k (i : Int)) = some (.ptr b (o + i * z)) := by
  unfold evIndexAddr
  simp only [hu, hs]
  rw [if_pos ⟨trivial, by omega, by omega⟩]; simp
/-- A byte of a text. -/
theorem str_at {l : Bts} {k : IntKind} {i : Nat} {x : UInt8} (hu : P.underlying t = some .string) (hx : l[i]? = some x) : evIndex P t (.str l) (.int k (i : Int)) = some (.int .u8 x.toNat) := by
  unfold evIndex
  simp only [hu]
  rw [if_pos (by omega)]
  simp [hx]
/-- A whole array as a slice. -/
theorem arr_slice {n b o z : Nat} {k : Blk} (hu : P.underlying t = some (.array n e)) (hs : szT P e = some (z + 1)) (hb : A.blk[b]? = some k) (hl : o + n * (z + 1) ≤ k.cells.length) :
    evSlice P t (.ptr b o) none none none A = some (.sl b o n (z + 1)) := by
  unfold evSlice
  simp only [hu, hs, boundV]
  unfold AS.range
  rw [hb]; simp [hl]
/-- A part of a text. -/
theorem str_sub {l : Bts} {k k' : IntKind} {lo hi : Nat} (hu : P.underlying t = some .string) (h1 : lo ≤ hi) (h2 : hi ≤ l.length) : evSlice P t (.str l) (some (.int k lo)) (some (.int k' hi)) none A = some (.str ((l.take hi).drop lo)) := by
  unfold evSlice
  simp only [hu, boundV]
  have e1 : (lo : Int) ≤ hi := by omega
  have e2 : (hi : Int) ≤ l.length := by omega
  simp [e1, e2, h1]
theorem str_from {l : Bts} {k : IntKind} {lo : Nat} (hu : P.underlying t = some .string) (h1 : lo ≤ l.length) : evSlice P t (.str l) (some (.int k lo)) none none A = some (.str (l.drop lo)) := by
  unfold evSlice
  simp only [hu, boundV]
  have e1 : (lo : Int) ≤ l.length := by omega
  simp [e1]

theorem fits_bytes : ∀ (l : Bts), fitsAll (List.replicate l.length (.int .u8)) (bc l) = true
  | [] => rfl
  | x :: l => by
    simp only [List.length_cons, List.replicate_succ, bc_cons, fitsAll, CK.fits, fits_bytes l]; rfl
theorem eqFlats_bytes : ∀ (l r : Bts), l.length = r.length → eqFlats (bc l) (bc r) = decide (l = r)
  | [], [], _ => rfl
  | x :: l, y :: r, h => by
    simp only [bc_cons, eqFlats, V.eqFlat, eqFlats_bytes l r (by simpa using h)]
    by_cases h1 : x = y
    · by_cases h2 : l = r <;> simp [h1, h2]
    · have : ¬ ((x.toNat : Int) = y.toNat) := fun q => h1 (UInt8.toNat_inj.1 (by omega))
      simp [h1, this]
/-- Sameness of two arrays of bytes. -/
theorem eq_bytes {n : Nat} {l r : Bts} (hsh : shapeT P 50 t = some (List.replicate n (.int .u8))) (ha : aggT P t = some true) (hg : P.eqGuardType P.depth t = false) (hl : l.length = n) (hr : r.length = n) :
    evEq P t (.agg (bc l)) (.agg (bc r)) = some (decide (l = r)) := by
  unfold evEq
  simp only [hsh, ha, hg]
  have e1 := fits_bytes l
  have e2 := fits_bytes r
  rw [hl] at e1; rw [hr] at e2
  rw [e1, e2, eqFlats_bytes l r (by omega)]
  rfl
end

/-! ### Rows of bytes -/

/-- A row that was just made is one's own. -/
theorem Own.new {N : Nat} {A : AS} {n sz : Nat} {cs : List V} (hw : WF A) (hN : N ≤ A.blk.length) (h1 : cs.length = n * sz) (h0 : cs.all V.one = true) : Own N (A.push ⟨cs, .arr A.blk.length 0⟩) (.sl A.blk.length 0 n sz) n sz cs := by
  refine ⟨h1, h0, .inr ⟨A.blk.length, A.blk.length, 0, rfl, push_row A _, hN, hN, by rw [push_len]; omega, ?_⟩⟩
  intro i k base' hi hk
  rw [push_blk] at hi
  split at hi
  · cases hi; simp at hk; rw [← hk]; simp
  · have := hw i k _ base' hi hk; omega
theorem Own.src {P : Program} {tx el : TypeId} {N : Nat} {A : AS} {v : V} {n sz : Nat} {cs : List V} (h : Own N A v n sz cs) (hu : P.underlying tx = some (.slice el)) : srcV P tx sz v A = some (n, cs) := by
  obtain ⟨h1, h0, ⟨rfl, rfl⟩ | ⟨b, f, base, rfl, h3, _⟩⟩ := h
  · rw [src_nil hu]
    have : cs = [] := List.eq_nil_of_length_eq_zero (by rw [h1]; simp)
    rw [this]
  · exact src_row hu h3 h1
theorem Own.one {N : Nat} {A : AS} {v : V} {n sz : Nat} {cs : List V} (h : Own N A v n sz cs) : v.one = true := by
  obtain ⟨_, _, ⟨rfl, _⟩ | ⟨b, f, base, rfl, _⟩⟩ := h <;> rfl
theorem Own.cells1 {N : Nat} {A : AS} {v : V} {n sz : Nat} {cs : List V} (h : Own N A v n sz cs) : v.cells = some [v] := one_cells h.one
theorem Own.len {P : Program} {N : Nat} {A : AS} {v : V} {n sz : Nat} {cs : List V} {t e : TypeId} (h : Own N A v n sz cs) (hu : P.underlying t = some (.slice e)) (B : AS) : evLen P t v B = some (.int .i64 n) := by
  obtain ⟨_, _, ⟨rfl, rfl⟩ | ⟨b, f, base, rfl, _⟩⟩ := h <;> (unfold evLen; rw [hu]) <;> rfl
/-- Bytes of one's own row. -/
theorem Own.bts {N : Nat} {A : AS} {v : V} {l : Bts} (h : Own N A v l.length 1 (bc l)) : ∃ m : Hp, m.on A ∧ (∀ b, b < N → m b = none) ∧ Slc eU8 m v l := by
  obtain ⟨m, h1, h2, h3, h4⟩ := Own.slc (E := eU8) (l := l) h (Hp.on_emp A) rfl (fun _ _ => rfl) (fun i x hx => by
    show ((bc l).drop (i * 1)).take 1 = _
    rw [Nat.mul_one, List.take_one, List.head?_drop, bc_get, hx]; rfl)
  exact ⟨m, h2, fun b hb => h3 b hb, h4⟩
theorem Own.mono {N N' : Nat} {A : AS} {v : V} {n sz : Nat} {cs : List V} (h : Own N A v n sz cs) (hN : N' ≤ N) : Own N' A v n sz cs := by
  obtain ⟨h1, h0, h | ⟨b, f, base, h2, h3, h4, h5, h6⟩⟩ := h
  · exact ⟨h1, h0, .inl h⟩
  · exact ⟨h1, h0, .inr ⟨b, f, base, h2, h3, by omega, by omega, h6⟩⟩
theorem Own.fams0 {N M : Nat} {A B : AS} {v : V} {n sz : Nat} {cs : List V} (h : Own N A v n sz cs) (hM : A.blk.length ≤ M) (hf : Fr (famsFrom M) A B) : Own N B v n sz cs := by
  obtain ⟨h1, h0, h | ⟨b, f, base, h2, h3, h4, h5, h6, h7⟩⟩ := h
  · exact ⟨h1, h0, .inl h⟩
  · refine ⟨h1, h0, .inr ⟨b, f, base, h2, hf.fam_row h3, h4, h5, by have := hf.len; omega, fun i k base' hi hk => ?_⟩⟩
    rcases Nat.lt_or_ge i A.blk.length with q | q
    · obtain ⟨cs', q1, q2⟩ := hf.kind i _ (List.getElem?_eq_getElem q)
      rw [hi] at q1; cases q1
      simp only [q2]
      exact h7 i _ base' (List.getElem?_eq_getElem q) hk
    · obtain ⟨_, r | r⟩ := hf.new i k f base' hi q hk
      · omega
      · have : M ≤ f := r
        omega

theorem rem_lit {P : Program} {t : TypeId} {k : IntKind} (j c : Nat) (hc : c ≠ 0) : evBin P .rem t (.int k (j : Int)) (.int k (c : Int)) = some (.int k ((j % c : Nat) : Int)) := by
  rw [bi_rem, if_neg (by omega)]; rfl
theorem quo_lit {P : Program} {t : TypeId} (j c : Nat) (hc : c ≠ 0) (hj : j ≤ 9223372036854775807) : evBin P .quo t (.int .i64 (j : Int)) (.int .i64 (c : Int)) = some (.int .i64 ((j / c : Nat) : Int)) := by
  rw [bi_quo, if_neg (by omega), quo_nat, wrapN (Nat.le_trans (Nat.div_le_self j c) hj)]
theorem str_add {P : Program} {t : TypeId} {a b : Bts} (h : a.length + b.length ≤ 9223372036854775807) : evBin P .add t (.str a) (.str b) = some (.str (a ++ b)) := by
  rw [bi_sadd, if_pos h]
theorem u8mod (n : Nat) : UInt8.ofNat (n % 256) = UInt8.ofNat n := by
  apply UInt8.toNat_inj.1
  simp [UInt8.toNat_ofNat']
theorem Slc.form {τ : Type} {E : Enc τ} {m : Hp} {v : V} {l : List τ} (h : Slc E m v l) : v = .snil ∨ ∃ b o n z, v = .sl b o n z := by
  rcases h with ⟨rfl, _⟩ | ⟨b, o, cs, rfl, _⟩
  · exact .inl rfl
  · exact .inr ⟨_, _, _, _, rfl⟩
theorem Own.form {N : Nat} {A : AS} {v : V} {n sz : Nat} {cs : List V} (h : Own N A v n sz cs) : v = .snil ∨ ∃ b o n z, v = .sl b o n z := by
  obtain ⟨_, _, ⟨rfl, _⟩ | ⟨b, f, base, rfl, _⟩⟩ := h
  · exact .inl rfl
  · exact .inr ⟨_, _, _, _, rfl⟩
theorem Own.cast {N : Nat} {A : AS} {v : V} {n n' sz : Nat} {cs cs' : List V} (h : Own N A v n sz cs) (hn : n = n') (hc : cs = cs') : Own N A v n' sz cs' := by subst hn; subst hc; exact h
/-- A part of a row that is there, as bytes. -/
theorem slc_row {A : AS} {b o : Nat} {cs : List V} {k : BK} {l : Bts} (hb : A.blk[b]? = some ⟨cs, k⟩) (hl : o + l.length ≤ cs.length) (hc : (cs.drop o).take l.length = bc l) : (Hp.emp.put b cs).on A ∧ Slc eU8 (Hp.emp.put b cs) (.sl b o l.length 1) l := by
  refine ⟨(Hp.on_emp A).put hb, .inr ⟨b, o, cs, rfl, Hp.put_get _ _ _, by simpa [eU8] using hl, fun i x hx => ?_⟩⟩
  have hi := (List.getElem?_eq_some_iff.1 hx).1
  show ((cs.drop (o + i * 1)).take 1) = _
  rw [Nat.mul_one, List.take_one, List.head?_drop]
  have := congrArg (·[i]?) hc
  simp only [bc_get, hx, Option.map_some] at this
  rw [List.getElem?_take_of_lt hi, List.getElem?_drop] at this
  rw [this]; rfl

/-- What comes first, and then the rest. -/
theorem run_cut {P : Program} {H : Hints} {f : FuncId} {nt : Nat} {k : List Kt} {e : Env} {A : AS} {Q : Ex → Env → AS → Prop} {c : Code} (R : Ex → Env → AS → Prop) (h : Run P H f nt [.code c] .normal e A R) (hk : ∀ x e A, R x e A → Run P H f nt k x e A Q) :
    Run P H f nt (.code c :: k) .normal e A Q := wpC_mono (Q := R) (Q' := fun x e A => Run P H f nt k x e A Q) h hk

theorem putAt_all {cs vs : List V} (h : cs.length = vs.length) : putAt cs 0 vs = vs := by
  unfold putAt; rw [List.take_zero, List.nil_append, Nat.zero_add, ← h, List.drop_length, List.append_nil]
/-- A new variable to which a whole value is stored. -/
theorem new_set {P : Program} (A : AS) {z cs : List V} {t : TypeId} {x : V} (hx : x.cells = some cs) (hs : szT P t = some cs.length) (hz : z.length = cs.length) (h1 : cs.all V.one = true) :
    ∃ A', evStore P t (.ptr A.blk.length 0) x (A.push ⟨z, .var⟩) = some A' ∧ Fr S0 A A' ∧ A'.blk[A.blk.length]? = some ⟨cs, .var⟩ ∧ A'.blk.length = A.blk.length + 1 := by
  obtain ⟨A1, e1, f1, r1, n1⟩ := new_var A z
  obtain ⟨A2, h2, h3, h4, h5⟩ := store_var (P := P) (t := t) (o := 0) r1 hx hs (by omega) h1
  refine ⟨A2, by rw [← e1]; exact h2, f1.row_ h3 (Nat.le_refl _), by rw [putAt_all hz] at h4; exact h4, by omega⟩

theorem rc_nil {P : Program} {ops : Array Oper} {e : Env} {A : AS} : recheck P ops e A [] = true := rfl
mutual
theorem V.beq_same : ∀ v : V, V.beq v v = true
  | .undef => rfl
  | .bool b => by simp [V.beq]
  | .int k n => by simp [V.beq]
  | .str s => by simp [V.beq]
  | .pnil => rfl
  | .ptr b o => by simp [V.beq]
  | .snil => rfl
  | .sl b o n z => by simp [V.beq]
  | .mnil => rfl
  | .map r => by simp [V.beq]
  | .fnil => rfl
  | .fn f a c => by simp [V.beq, beqs_same a, beqs_same c]
  | .yield l => by simp [V.beq]
  | .iter i => by simp [V.beq]
  | .agg cs => by simp [V.beq, beqs_same cs]
  | .tup cs => by simp [V.beq, beqs_same cs]
theorem beqs_same : ∀ l : List V, beqs l l = true
  | [] => rfl
  | v :: r => by simp [beqs, V.beq_same v, beqs_same r]
end
theorem rc_one {P : Program} {ops : Array Oper} {e : Env} {A : AS} {q d : Nat} {r : List Nat} {op : Op} {ty : TypeId} {pos : String} {after : Array Edge} {v : V} (ho : ops[q]? = some ⟨some d, op, ty, pos, after, none⟩)
    (hv : evQ P ⟨some d, op, ty, pos, after, none⟩ e A = some (.val v)) (hd : e.get d = v) (hr : recheck P ops e A r = true) : recheck P ops e A (q :: r) = true := by
  unfold recheck
  simp only [ho, wantedV, hv, hd, V.beq_same, hr, Bool.and_self]
theorem rc_load {P : Program} {ops : Array Oper} {e : Env} {A : AS} {q d a : Nat} {r : List Nat} {t : TypeId} {ty : TypeId} {pos : String} {after : Array Edge} {v w : V} (ho : ops[q]? = some ⟨some d, .load t (.tmp a), ty, pos, after, none⟩)
    (ha : e.get a = w) (hv : evLoad P t w A = some v) (hd : e.get d = v) (hr : recheck P ops e A r = true) : recheck P ops e A (q :: r) = true :=
  rc_one ho (by rw [q_load, ev_tmp, ha]; simp [hv]) hd hr

theorem rc_conv {P : Program} {ops : Array Oper} {e : Env} {A : AS} {q d a : Nat} {r : List Nat} {s t : TypeId} {ty : TypeId} {pos : String} {after : Array Edge} {v w : V} (ho : ops[q]? = some ⟨some d, .convert s t (.tmp a), ty, pos, after, none⟩)
    (ha : e.get a = w) (hv : cnv P s t (some w) A = some (.val v)) (hd : e.get d = v) (hr : recheck P ops e A r = true) : recheck P ops e A (q :: r) = true :=
  rc_one ho (by rw [q_conv, ev_tmp, ha]; exact hv) hd hr

/-- A row that is the only one of its family. -/
def Sole (A : AS) (b f : Nat) : Prop := f < A.blk.length ∧ ∀ (i : Nat) k base', A.blk[i]? = some k → k.kind = .arr f base' → i = b
theorem Sole.new {A : AS} {cs : List V} (hw : WF A) : Sole (A.push ⟨cs, .arr A.blk.length 0⟩) A.blk.length A.blk.length := by
  refine ⟨by rw [push_len]; omega, fun i k base' hi hk => ?_⟩
  rw [push_blk] at hi
  split at hi
  · assumption
  · have := hw i k _ base' hi hk; omega
theorem Sole.fr {S : Loc → Prop} {A A' : AS} {b f : Nat} (h : Sole A b f) (hf : Fr S A A') (hs : ¬ S (.fam f)) : Sole A' b f := by
  refine ⟨by have := hf.len; have := h.1; omega, fun i k base' hi hk => ?_⟩
  rcases Nat.lt_or_ge i A.blk.length with q | q
  · obtain ⟨cs', q1, q2⟩ := hf.kind i _ (List.getElem?_eq_getElem q)
    rw [hi] at q1; cases q1
    exact h.2 i _ base' (List.getElem?_eq_getElem q) hk
  · obtain ⟨_, r | r⟩ := hf.new i k f base' hi q hk
    · have := h.1; omega
    · exact (hs r).elim
/-- A store into a row that is the only one of its family. -/
theorem store_sole {P : Program} {A : AS} {b o f base : Nat} {cells cs : List V} {t : TypeId} {x : V} (h : Sole A b f) (hb : A.blk[b]? = some ⟨cells, .arr f base⟩) (hx : x.cells = some cs) (hsz : szT P t = some cs.length) (ho : o + cs.length ≤ cells.length) (h1 : cs.all V.one = true) :
    ∃ A', evStore P t (.ptr b o) x A = some A' ∧ Fr (· = .row b) A A' ∧ A'.blk[b]? = some ⟨putAt cells o cs, .arr f base⟩ ∧ A'.blk.length = A.blk.length ∧ Sole A' b f := by
  have hpo : ∀ lo hi, (A.setBlk b (putAt cells o cs)).poison f lo hi (some b) = A.setBlk b (putAt cells o cs) := by
    intro lo hi
    have : ((A.setBlk b (putAt cells o cs)).poison f lo hi (some b)).blk = (A.setBlk b (putAt cells o cs)).blk := by
      apply List.ext_getElem?; intro i
      unfold AS.poison
      simp only [List.getElem?_mapIdx]
      cases hi : (A.setBlk b (putAt cells o cs)).blk[i]? with
      | none => rfl
      | some k =>
        simp only [Option.map_some]
        split
        · rfl
        · rename_i hne
          rw [poisonBlk_id fun base' hk => ?_]
          have hib : i ≠ b := fun q => hne (by rw [q])
          rw [setBlk_blk, if_neg hib] at hi
          exact absurd (h.2 i k base' hi hk) hib
    show { A.setBlk b (putAt cells o cs) with blk := ((A.setBlk b (putAt cells o cs)).poison f lo hi (some b)).blk } = _
    rw [this]
  refine ⟨A.setBlk b (putAt cells o cs), ?_, Fr.setBlk hb (putAt_length ho), by rw [setBlk_blk, hb]; simp, by simp [AS.setBlk], ?_⟩
  · unfold evStore
    rw [hsz, hx]
    simp only [if_true]
    unfold AS.put
    rw [hb]
    simp only []
    rw [if_pos ⟨ho, h1⟩, hpo]
  · exact h.fr (Fr.setBlk hb (putAt_length ho)) fun q => by cases q

/-- A condition, and then the rest. -/
theorem condK_cut {P : Program} {H : Hints} {f : FuncId} {nt : Nat} {k : List Kt} {e : Env} {A : AS} {Q : Ex → Env → AS → Prop} {c : Option V} {a b : Code} (R : Ex → Env → AS → Prop) (h : condK P H f nt c a b [] e A R) (hk : ∀ x e A, R x e A → Run P H f nt k x e A Q) :
    condK P H f nt c a b k e A Q := by
  cases c with
  | none => exact h.elim
  | some v =>
    cases v
    case bool t =>
      cases t
      · exact run_cut R h hk
      · exact run_cut R h hk
    all_goals exact False.elim h

theorem or_nat {a b : Nat} (ha : a < 4611686018427387904) (hb : b < 4611686018427387904) : evBits .or .i64 (a : Int) (b : Int) = some (.int .i64 ((a ||| b : Nat) : Int)) := by
  have e : (BitVec.ofInt 64 (a : Int) ||| BitVec.ofInt 64 (b : Int)).toNat = a ||| b := by
    rw [BitVec.toNat_or, BitVec.ofInt_natCast, BitVec.ofInt_natCast, BitVec.toNat_ofNat, BitVec.toNat_ofNat, Nat.mod_eq_of_lt (by omega), Nat.mod_eq_of_lt (by omega)]
  have hlt : a ||| b < 2 ^ 62 := Nat.or_lt_two_pow (by omega) (by omega)
  show some (V.int .i64 (IntKind.i64.wrap ((BitVec.ofInt 64 (a : Int) ||| BitVec.ofInt 64 (b : Int)).toNat : Int))) = _
  rw [e, wrapN (by omega)]
theorem or_add {n i b : Nat} (hb : b < 2 ^ i) : (n * 2 ^ i) ||| b = n * 2 ^ i + b := by
  rw [Nat.mul_comm, Nat.two_pow_add_eq_or_of_lt hb]

end Go.Sv


namespace Go.Sv
open Go
set_option linter.unusedSimpArgs false
set_option linter.unusedVariables false
set_option linter.unnecessarySimpa false

/-- A function that is ranged over goes through a list; T is what it touches itself between rounds, K the rows that a round that goes on leaves; Pre holds before each round, Fin at the end. -/
def GoesG {τ : Type} (P : Program) (H : Hints) (h : FuncId) (first cap : List V) (A0 : AS) (S T : Loc → Prop) (K : Nat → Prop) (Pre Fin : AS → Prop) (AR : AS → List V → τ → Prop) (xs : List τ) : Prop :=
  ∀ (l : Nat) (J D : Nat → AS → Prop), (∀ i A A', J i A → Fr T A A' → J i A') → (∀ i A A', D i A → Fr S0 A A' → D i A') →
    (∀ i x A args, xs[i]? = some x → J i A → Fr S A0 A → Pre A → AR A args x → ∃ b A', EvY P H l args A (.bool b) A' ∧ Fr S A A' ∧ (b = true → J (i + 1) A' ∧ ∀ r, K r → A'.blk[r]? = A.blk[r]?) ∧ (b = false → D i A')) →
    J 0 A0 → ∃ v A', EvF P H h (first ++ [.yield l] ++ cap) A0 v A' ∧ Fr S A0 A' ∧ ((J xs.length A' ∧ Fin A') ∨ ∃ i, i < xs.length ∧ D i A')

section
variable {P : Program} {H : Hints} {f : FuncId} {nt : Nat} {k : List Kt} {e : Env} {A : AS} {Q : Ex → Env → AS → Prop}

/-- A range over such a function, left at its end, or to behind it. -/
theorem run_gen_k {τ : Type} {g : Operand} {ps : Array Tmp} {as bd : Code} {id : Nat} {h : FuncId} {first cap : List V} {S T : Loc → Prop} {K : Nat → Prop} {Pre Fin : AS → Prop} {AR : AS → List V → τ → Prop} {xs : List τ} {fn : Func}
    (I : Nat → AS → Prop) (E : AS → Prop)
    (hg : e.eval g = some (.fn h first cap)) (hl : ¬ S (.loop A.loops.length)) (hT : ¬ T (.loop A.loops.length))
    (hgo : ∀ A0, Fr S0 A A0 → GoesG P H h first cap A0 (orLoop S A.loops.length) T K Pre Fin AR xs) (hI : I 0 A)
    (hIs : ∀ i A1 A', I i A1 → Fr (fun x => T x ∨ x = .loop A.loops.length) A1 A' → I i A')
    (hEs : ∀ A1 A', E A1 → Fr (· = .loop A.loops.length) A1 A' → E A')
    (hf : P.funcs[f]? = some fn) (hnt : fn.ntmps = nt) (hps : ps.toList.all (fun p => decide (p < nt)) = true)
    (hbody : ∀ i x A1 args, xs[i]? = some x → I i A1 → Fr (orLoop S A.loops.length) A A1 → Pre A1 → AR A1 args x → ∃ e0, bindParams e ps.toList args = some e0 ∧
      Run P H f nt [.code as] .normal e0 A1 fun x e1 A1' => Is x .normal ∧ Fr S A1 A1' ∧ ∀ A1b, Fr (· = .loop A.loops.length) A1' A1b →
        Run P H f nt [.code bd] .normal e1 A1b fun x e2 A2 => Fr S A1b A2 ∧ ((Is x .normal ∧ I (i + 1) A2 ∧ ∀ r, K r → A2.blk[r]? = A1.blk[r]?) ∨ (Is x (.exit id) ∧ E A2)))
    (hIE : ∀ A2, I xs.length A2 → Fin A2 → E A2)
    (hend : ∀ A2, E A2 → Fr S A A2 → Run P H f nt k .normal e A2 Q) : Run P H f nt (.code (.rangeFunc g ps as bd) :: .blk id :: k) .normal e A Q := by
  subst hnt
  generalize hlen : A.loops.length = l at *
  let R : LoopO := ⟨.ready, none, f, e, ps.toList, as, bd⟩
  have hA0 : Fr S0 A (A.pushLoop R) := Fr.pushLoop A R
  have hget0 : (A.pushLoop R).loops[l]? = some R := by rw [← hlen]; exact pushLoop_get A R
  have one : ∀ {B C : AS}, Fr S0 B C → Fr (· = .loop l) B C := fun q => q.mono fun _ z => z.elim
  have keep : ∀ {B C : AS} {r : LoopO}, B.loops[l]? = some r → Fr S B C → C.loops[l]? = some r := fun q z => z.loop l _ q hl
  obtain ⟨v, A2, h1, h2, h3⟩ := hgo (A.pushLoop R) hA0 l (fun i B => I i B ∧ B.loops[l]? = some R) (fun i B => E B ∧ B.loops[l]? = some { R with state := .done, pending := some (.exit id) })
    (fun i B C q z => ⟨hIs i B C q.1 (z.mono fun _ w => .inl w), z.loop l _ q.2 hT⟩) (fun i B C ⟨q2, q3⟩ z => ⟨hEs B C q2 (one z), z.loop l _ q3 fun w => w⟩)
    (fun i x B args hx hJ hF hPre hAR => by
      obtain ⟨e0, q1, q2⟩ := hbody i x B args hx hJ.1 (hA0.after0 hF) hPre hAR
      obtain ⟨v, C, y1, b, y2, y3, y4, y5⟩ := ev_yield (P := P) (H := H) (A := B) (l := l) (args := args) (fn := fn) (e0 := e0) (r := R)
        (Q := fun v C => ∃ b, v = .bool b ∧ Fr (orLoop S l) B C ∧ (b = true → (I (i + 1) C ∧ C.loops[l]? = some R) ∧ ∀ r, K r → C.blk[r]? = B.blk[r]?) ∧
          (b = false → E C ∧ C.loops[l]? = some { R with state := .done, pending := some (.exit id) })) hJ.2 hf q1 hps
        (wpC_mono_run q2 fun y e1 B1 ⟨z1, z2, z3⟩ => by
          refine ⟨z1, R, keep hJ.2 z2, rfl, wpC_mono_run (z3 _ (Fr.setLoop B1 l _)) fun y e2 B2 ⟨w1, w2⟩ => ?_⟩
          have g1 := setLoop_get (r' := { R with state := .busy }) (keep hJ.2 z2)
          have g2 := keep g1 w1
          have fr : Fr (orLoop S l) B (B2.setLoop l { R with state := if (jumpOf y).isNone then .ready else .done, pending := jumpOf y }) :=
            (((z2.mono fun _ q => .inl q).trans (Fr.setLoop B1 l _) fun _ q => .inl (.inr q)).trans w1 fun _ q => .inl (.inl q)).trans (Fr.setLoop B2 l _) fun _ q => .inl (.inr q)
          refine ⟨_, g2, _, rfl, fr, fun hb => ?_, fun hb => ?_⟩
          · rcases w2 with ⟨rfl, w2, w3⟩ | ⟨rfl, w2⟩
            · exact ⟨⟨hIs _ _ _ w2 ((Fr.setLoop B2 l _).mono fun _ q => .inr q), setLoop_get g2⟩, w3⟩
            · simp [jumpOf] at hb
          · rcases w2 with ⟨rfl, w2, w3⟩ | ⟨rfl, w2⟩
            · simp [jumpOf] at hb
            · exact ⟨hEs _ _ w2 (Fr.setLoop B2 l _), setLoop_get g2⟩)
      subst y2
      exact ⟨b, C, y1, y3, y4, y5⟩) ⟨hIs _ _ _ hI (hA0.mono fun _ q => q.elim), hget0⟩
  have hbase : ∀ r, Fr S A (A2.setLoop l r) := fun r =>
    (((hA0.mono fun _ q => q.elim : Fr S A _).trans h2 fun x q => q.elim .inl fun w => .inr (by subst w; simp only [Loc.newTo]; omega))).trans (Fr.setLoop A2 l r) fun x w => .inr (by subst w; simp only [Loc.newTo]; omega)
  rcases h3 with ⟨⟨h3, h4⟩, h5⟩ | ⟨i, hi, h3, h4⟩
  · refine run_range (v := v) (A2 := A2) (r := R) hg (by rw [hlen]; exact h1) (by rw [hlen]; exact h4) (by simp [R]) ?_
    show Run P H f fn.ntmps (.blk id :: k) .normal e _ Q
    rw [hlen, run_blk_normal]
    exact hend _ (hEs _ _ (hIE _ h3 h5) (Fr.setLoop A2 l _)) (hbase _)
  · refine run_range (v := v) (A2 := A2) (r := { R with state := .done, pending := some (.exit id) }) hg (by rw [hlen]; exact h1) (by rw [hlen]; exact h4) (by simp [R]) ?_
    rw [hlen]
    show Run P H f fn.ntmps (.blk id :: k) (.exit id) e _ Q
    rw [run_blk_exit, if_pos rfl]
    exact hend _ (hEs _ _ h3 (Fr.setLoop A2 l _)) (hbase _)
end

/-- What is written but into variables: rows that came in, or were made. -/
def arrHp (A : AS) : Hp := fun b => match A.blk[b]? with
  | some ⟨cs, .ro⟩ => some cs
  | some ⟨cs, .arr _ _⟩ => some cs
  | _ => none
theorem arrHp_on (A : AS) : (arrHp A).on A := by
  intro b cs h
  unfold arrHp at h
  split at h
  · rename_i c hb; cases h; exact ⟨.ro, hb⟩
  · rename_i c f base hb; cases h; exact ⟨.arr f base, hb⟩
  · simp at h
theorem arrHp_var {A : AS} {b : Nat} {cs : List V} (h : A.blk[b]? = some ⟨cs, .var⟩) : arrHp A b = none := by
  unfold arrHp; rw [h]
theorem arrHp_le {S : Loc → Prop} {A A' : AS} (hf : Fr S A A') (hs : ∀ b, S (.row b) → arrHp A b = none) : (arrHp A).le (arrHp A') := by
  intro b cs h
  have hn : ¬ S (.row b) := fun q => by rw [hs b q] at h; simp at h
  unfold arrHp at h ⊢
  split at h
  · rename_i c hb; cases h; rw [hf.row b _ hb hn]
  · rename_i c f base hb; cases h; rw [hf.row b _ hb hn]
  · simp at h
theorem arrHp_sub {A : AS} {m : Hp} (hm : m.on A) (hv : ∀ b cs, A.blk[b]? = some ⟨cs, .var⟩ → m b = none) : m.le (arrHp A) := by
  intro b cs h
  obtain ⟨k, hk⟩ := hm b cs h
  unfold arrHp
  cases k with
  | var => rw [hv b cs hk] at h; simp at h
  | ro => rw [hk]
  | arr f base => rw [hk]
theorem Own.arrHp {τ : Type} {E : Enc τ} {N : Nat} {A : AS} {v : V} {n : Nat} {cs : List V} {l : List τ} (h : Own N A v n E.sz cs) (hl : l.length = n)
    (hR : ∀ (i : Nat) x, l[i]? = some x → E.R (arrHp A) ((cs.drop (i * E.sz)).take E.sz) x) : Slc E (arrHp A) v l := by
  obtain ⟨h1, h0, ⟨rfl, rfl⟩ | ⟨b, f, base, rfl, h3, _⟩⟩ := h
  · exact .inl ⟨rfl, List.eq_nil_of_length_eq_zero hl⟩
  · refine .inr ⟨b, 0, cs, by rw [hl], by unfold Sv.arrHp; rw [h3], by rw [hl]; omega, fun i x hx => ?_⟩
    rw [Nat.zero_add]; exact hR i x hx
theorem Own.arrBts {N : Nat} {A : AS} {v : V} {l : Bts} (h : Own N A v l.length 1 (bc l)) : Slc eU8 (Sv.arrHp A) v l :=
  Own.arrHp (E := eU8) h rfl fun i x hx => by
    show ((bc l).drop (i * 1)).take 1 = _
    rw [Nat.mul_one, List.take_one, List.head?_drop, bc_get, hx]; rfl
theorem roHp_arr (A : AS) : (roHp A).le (arrHp A) := by
  intro b cs h
  unfold roHp at h
  split at h
  · rename_i c hb; cases h; unfold arrHp; rw [hb]
  · simp at h
/-- A row that was just made, in the part that is written no more. -/
theorem new_arrBts (A : AS) (l : Bts) {sz : Nat} (hsz : sz = 1) : Slc eU8 (arrHp (A.push ⟨bc l, .arr A.blk.length 0⟩)) (.sl A.blk.length 0 l.length sz) l := by
  subst hsz
  refine .inr ⟨A.blk.length, 0, bc l, rfl, by unfold arrHp; rw [push_row], by simp [eU8, bc_len], fun i x hx => ?_⟩
  show ((bc l).drop (0 + i * 1)).take 1 = _
  rw [Nat.mul_one, Nat.zero_add, List.take_one, List.head?_drop, bc_get, hx]; rfl

/-- A slice of one thing that takes several cells. -/
theorem bsl_one {P : Program} {t e : TypeId} {s : Nat} {zc cs : List V} (hu : P.underlying t = some (.slice e)) (hs : szT P e = some (s + 1)) (hz : (zeroT P e).bind V.cells = some zc) (hzl : zc.length = s + 1) (hc : cs.length = s + 1) (hb : s + 1 ≤ 16777216) :
    bsl P t 1 (some [(0, .agg cs)]) = some (.newSl cs 1 (s + 1)) := by
  unfold bsl
  simp only [hu, hs, hz]
  rw [if_pos ⟨hzl, by omega⟩]
  have e1 : zeros zc 1 = zc := by simp [zeros]
  rw [e1]
  unfold fillV
  simp only [V.cells, Nat.zero_mul]
  rw [if_pos ⟨hc, by omega⟩]
  unfold fillV
  rw [putAt_all (by omega)]; rfl

/-- What is written but into variables, of rows from a number on. -/
def arrHq (N : Nat) (A : AS) : Hp := fun b => if N ≤ b then arrHp A b else none
theorem arrHq_arr (N : Nat) (A : AS) : (arrHq N A).le (arrHp A) := by
  intro b cs h
  unfold arrHq at h
  split at h
  · exact h
  · simp at h
theorem arrHq_on (N : Nat) (A : AS) : (arrHq N A).on A := fun b cs h => arrHp_on A b cs (arrHq_arr N A b cs h)
theorem arrHq_var {N : Nat} {A : AS} {b : Nat} {cs : List V} (h : A.blk[b]? = some ⟨cs, .var⟩) : arrHq N A b = none := by
  unfold arrHq; rw [arrHp_var h]; simp
theorem arrHq_le {N : Nat} {S : Loc → Prop} {A A' : AS} (hf : Fr S A A') (hs : ∀ b, S (.row b) → arrHq N A b = none) : (arrHq N A).le (arrHq N A') := by
  intro b cs h
  have hn : ¬ S (.row b) := fun q => by rw [hs b q] at h; simp at h
  unfold arrHq at h ⊢
  split at h
  · rename_i hN
    rw [if_pos hN]
    unfold arrHp at h ⊢
    split at h
    · rename_i c hb; cases h; rw [hf.row b _ hb hn]
    · rename_i c f base hb; cases h; rw [hf.row b _ hb hn]
    · simp at h
  · simp at h
theorem Own.arrHq {τ : Type} {E : Enc τ} {N N' : Nat} {A : AS} {v : V} {n : Nat} {cs : List V} {l : List τ} (h : Own N' A v n E.sz cs) (hN : N ≤ N') (hl : l.length = n)
    (hR : ∀ (i : Nat) x, l[i]? = some x → E.R (Sv.arrHq N A) ((cs.drop (i * E.sz)).take E.sz) x) : Slc E (Sv.arrHq N A) v l := by
  obtain ⟨h1, h0, ⟨rfl, rfl⟩ | ⟨b, f, base, rfl, h3, h4, _⟩⟩ := h
  · exact .inl ⟨rfl, List.eq_nil_of_length_eq_zero hl⟩
  · refine .inr ⟨b, 0, cs, by rw [hl], by unfold Sv.arrHq Sv.arrHp; rw [h3, if_pos (by omega)], by rw [hl]; omega, fun i x hx => ?_⟩
    rw [Nat.zero_add]; exact hR i x hx
theorem Own.arrBtsQ {N N' : Nat} {A : AS} {v : V} {l : Bts} (h : Own N' A v l.length 1 (bc l)) (hN : N ≤ N') : Slc eU8 (Sv.arrHq N A) v l :=
  Own.arrHq (E := eU8) h hN rfl fun i x hx => by
    show ((bc l).drop (i * 1)).take 1 = _
    rw [Nat.mul_one, List.take_one, List.head?_drop, bc_get, hx]; rfl

/-- A store into a row of whose family the others are empty. -/
def Sole0 (A : AS) (b f : Nat) : Prop := f < A.blk.length ∧ ∀ (i : Nat) k base', i ≠ b → A.blk[i]? = some k → k.kind = .arr f base' → k.cells = []
theorem Sole0.fr {S : Loc → Prop} {A A' : AS} {b f : Nat} (h : Sole0 A b f) (hf : Fr S A A') (hs : ¬ S (.fam f)) : Sole0 A' b f := by
  refine ⟨by have := hf.len; have := h.1; omega, fun i k base' hne hi hk => ?_⟩
  rcases Nat.lt_or_ge i A.blk.length with q | q
  · obtain ⟨cs', q1, q2⟩ := hf.kind i _ (List.getElem?_eq_getElem q)
    rw [hi] at q1; cases q1
    have := h.2 i _ base' hne (List.getElem?_eq_getElem q) hk
    rw [this] at q2
    exact List.eq_nil_of_length_eq_zero (by simpa using q2)
  · obtain ⟨_, r | r⟩ := hf.new i k f base' hi q hk
    · have := h.1; omega
    · exact (hs r).elim
theorem store_sole0 {P : Program} {A : AS} {b o f base : Nat} {cells cs : List V} {t : TypeId} {x : V} (h : Sole0 A b f) (hb : A.blk[b]? = some ⟨cells, .arr f base⟩) (hx : x.cells = some cs) (hsz : szT P t = some cs.length) (ho : o + cs.length ≤ cells.length) (h1 : cs.all V.one = true) :
    ∃ A', evStore P t (.ptr b o) x A = some A' ∧ Fr (· = .row b) A A' ∧ A'.blk[b]? = some ⟨putAt cells o cs, .arr f base⟩ ∧ Sole0 A' b f := by
  have hpo : ∀ lo hi, (A.setBlk b (putAt cells o cs)).poison f lo hi (some b) = A.setBlk b (putAt cells o cs) := by
    intro lo hi
    have : ((A.setBlk b (putAt cells o cs)).poison f lo hi (some b)).blk = (A.setBlk b (putAt cells o cs)).blk := by
      apply List.ext_getElem?; intro i
      unfold AS.poison
      simp only [List.getElem?_mapIdx]
      cases hi : (A.setBlk b (putAt cells o cs)).blk[i]? with
      | none => rfl
      | some k =>
        simp only [Option.map_some]
        split
        · rfl
        · rename_i hne
          have hib : i ≠ b := fun q => hne (by rw [q])
          rw [setBlk_blk, if_neg hib] at hi
          obtain ⟨kc, kk⟩ := k
          cases kk with
          | var => rfl
          | ro => rfl
          | arr g base' =>
            unfold poisonBlk
            simp only []
            split
            · rename_i hg
              subst hg
              have := h.2 i _ base' hib hi rfl
              simp only [] at this
              subst this; rfl
            · rfl
    show { A.setBlk b (putAt cells o cs) with blk := ((A.setBlk b (putAt cells o cs)).poison f lo hi (some b)).blk } = _
    rw [this]
  refine ⟨A.setBlk b (putAt cells o cs), ?_, Fr.setBlk hb (putAt_length ho), by rw [setBlk_blk, hb]; simp, ?_⟩
  · unfold evStore
    rw [hsz, hx]
    simp only [if_true]
    unfold AS.put
    rw [hb]
    simp only []
    rw [if_pos ⟨ho, h1⟩, hpo]
  · exact h.fr (Fr.setBlk hb (putAt_length ho)) fun q => by cases q

/-- Appending to a row just made that is empty. -/
theorem append_empty {P : Program} {C : AS} {v : V} {t tx e : TypeId} {bt k : Nat} {new : List V} (hT : SlT P t e 1 bt) (hw : WF C) (hsrc : srcV P tx 1 v (C.push ⟨[], .arr C.blk.length 0⟩) = some (k, new)) (hk : new.length = k) (hk0 : k ≠ 0) (hn : new.all V.one = true) (hb1 : k * bt ≤ 140737488355328) (hb2 : k ≤ 4611686018427387903) :
    ∃ D, evAppend P t tx (.sl C.blk.length 0 0 1) v (C.push ⟨[], .arr C.blk.length 0⟩) = some (.sl (C.blk.length + 1) 0 k 1, D) ∧ Fr S0 C D ∧ D.blk[C.blk.length + 1]? = some ⟨new, .arr C.blk.length 0⟩ ∧ Sole0 D (C.blk.length + 1) C.blk.length := by
  obtain ⟨zc, z1, z2⟩ := hT.z
  have q1 := Fr.pushArr C []
  have hrow := push_row C ⟨[], .arr C.blk.length 0⟩
  have hlen := push_len C ⟨[], .arr C.blk.length 0⟩
  rw [evAppend_src (z := 0) hT.u hT.s hT.b z1 z2 hsrc hn]
  have hrg : (C.push ⟨[], .arr C.blk.length 0⟩).range C.blk.length 0 (0 * (0 + 1)) = some [] := by
    unfold AS.range; rw [hrow]; rfl
  have hpois : ∀ lo hi, (C.push ⟨[], .arr C.blk.length 0⟩).poison C.blk.length lo hi none = C.push ⟨[], .arr C.blk.length 0⟩ := by
    intro lo hi
    have : ((C.push ⟨[], .arr C.blk.length 0⟩).poison C.blk.length lo hi none).blk = (C.push ⟨[], .arr C.blk.length 0⟩).blk := by
      apply List.ext_getElem?; intro i
      rw [poison_blk]
      cases h : (C.push ⟨[], .arr C.blk.length 0⟩).blk[i]? with
      | none => rfl
      | some x =>
        simp only [Option.map_some]
        rw [push_blk] at h
        split at h
        · cases h
          unfold poisonBlk poisonCells; simp
        · rw [poisonBlk_id fun base' hk => by have := hw i x _ base' h hk; omega]
    show { C.push ⟨[], .arr C.blk.length 0⟩ with blk := ((C.push ⟨[], .arr C.blk.length 0⟩).poison C.blk.length lo hi none).blk } = _
    rw [this]
  simp only [hrow, hrg]
  rw [if_neg (by simp), if_neg hk0]
  simp only [List.all_nil, Nat.zero_add, true_and, List.nil_append]
  rw [if_pos ⟨hb1, hb2⟩, hpois, hlen]
  refine ⟨_, rfl, ?_, ?_, ?_⟩
  · refine q1.trans (Fr.mono (S := fun x => x = .fam C.blk.length) ?_ fun _ q => q) (fun x q => .inr (by subst q; exact Nat.le_refl _))
    constructor
    · intro i x hi _; rw [push_blk, if_neg (by have := (List.getElem?_eq_some_iff.1 hi).1; omega)]; exact hi
    · intro i x hi; exact ⟨x.cells, by rw [push_blk, if_neg (by have := (List.getElem?_eq_some_iff.1 hi).1; omega), hi], rfl⟩
    · intro i x f base hi hge hx
      rw [push_blk] at hi
      split at hi
      · cases hi; simp at hx; rw [push_len, hlen, ← hx.1]; exact ⟨by omega, .inr rfl⟩
      · have := (List.getElem?_eq_some_iff.1 hi).1; omega
    · intro r m hr _; exact hr
    · exact Nat.le_refl _
    · intro r m hr _; exact hr
    · exact Nat.le_refl _
    · intro r m hr _; exact hr
    · exact Nat.le_refl _
  · rw [← hlen]; exact push_row _ _
  · refine ⟨by rw [push_len, hlen]; omega, fun i x base' hne hi hx => ?_⟩
    rw [push_blk, hlen, if_neg hne, push_blk] at hi
    split at hi
    · cases hi; rfl
    · have := hw i x _ base' hi hx; omega

end Go.Sv
