/- The document's way of reading: runs, numbers, sums. -/
import Derived.Test.YtnogkphkjkbbhaaRead
namespace Go.Sv.Try
open Go Go.Proofs
set_option linter.unusedVariables false
set_option linter.unusedSimpArgs false
theorem putAt_bc {l : Bts} {i : Nat} {x : UInt8} (hi : i < l.length) : putAt (bc l) i [.int .u8 (x.toNat : Int)] = bc (l.set i x) := by
  unfold putAt
  simp only [List.length_singleton, bc]
  rw [List.map_set, List.set_eq_take_append_cons_drop, if_pos (by simpa using hi)]
  simp
end Go.Sv.Try
namespace Go.Sv.Try
open Go Go.Proofs
set_option linter.unusedVariables false
set_option linter.unusedSimpArgs false
end Go.Sv.Try
namespace Go.Sv.Try
open Go Go.Proofs
set_option linter.unusedVariables false
set_option linter.unusedSimpArgs false
end Go.Sv.Try
namespace Go.Sv.Try
open Go Go.Proofs
set_option linter.unusedVariables false
set_option linter.unusedSimpArgs false
theorem M.ext' {x y : Go.Sv.M} (h0 : x.kind = y.kind) (h1 : x.who = y.who) (h2 : x.height = y.height) (h3 : x.round = y.round) (h4 : x.valid = y.valid) (h5 : x.num = y.num) (h6 : x.id = y.id) (h7 : x.data = y.data) (h8 : x.ids = y.ids) (h9 : x.list = y.list) : x = y := by
  cases x; cases y; simp at h0 h1 h2 h3 h4 h5 h6 h7 h8 h9; simp [*]
end Go.Sv.Try
namespace Go.Sv
open Go
set_option linter.unusedVariables false
set_option linter.unusedSimpArgs false
end Go.Sv
