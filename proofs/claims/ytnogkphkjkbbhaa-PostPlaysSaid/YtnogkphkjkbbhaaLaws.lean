/- Laws of messages that go through bytes and back. -/
import Derived.Test.YtnogkphkjkbbhaaRef
namespace Go.Sv.Try
open Go Go.Proofs
set_option linter.unusedVariables false
set_option linter.unusedSimpArgs false
theorem writeB_len {x : Go.Sv.M} {m : Hp} {dv iv lv : V} (h : MsgIn m x dv iv lv) (hok : OkM x) : (writeB x).length ≤ 1800091 := by
  have h1 := fieldsB_len (P9 x) 1 (P9_size hok h.id (eId_len h.ids))
  have h3 : (P9 x).length = 9 := rfl
  rw [h3] at h1
  simp only [writeB, fieldList, List.length_cons]; omega
end Go.Sv.Try
namespace Go.Sv.Try
open Go Go.Proofs
set_option linter.unusedVariables false
set_option linter.unusedSimpArgs false
end Go.Sv.Try
