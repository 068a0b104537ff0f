/- The seat's own facts: the order of each drawing region, what fixed runs come to, sizes of types. -/
import Derived.Test.YtnogkphkjkbbhaaSv4
import Derived.Test.YtnogkphkjkbbhaaChecked
import Derived.KernelRfl
namespace Go.Sv.Try
open Go Go.Proofs
set_option linter.unusedVariables false
def planTab : List (Nat × Nat × Plan) :=
  [(3, 9, (List.range' 0 18).map fun i => (i, [])),
   (5, 12, [(0, []), (1, []), (2, []), (3, []), (4, []), (5, []), (6, []), (7, []), (8, [0, 2]), (9, [])]),
   (7, 9, [(0, []), (1, []), (2, []), (3, []), (4, []), (5, []), (6, []), (7, []), (8, []), (9, []), (10, [4, 6]), (11, []), (12, [])]),
   (14, 28, [(0, []), (2, []), (1, [2]), (3, [])]),
   (14, 41, [(0, []), (2, []), (3, []), (4, []), (5, []), (1, [5]), (6, [])]),
   (16, 33, (List.range' 0 7).map fun i => (i, [])),
   (16, 36, [(0, []), (1, []), (2, []), (3, []), (4, []), (5, []), (7, []), (6, [7]), (8, []), (9, []), (10, [])]),
   (19, 9, (List.range' 0 35).map fun i => (i, [])),
   (23, 7, [(0, []), (1, []), (2, []), (3, []), (5, []), (6, []), (4, [6]), (7, []), (8, []), (9, [])]),
   (24, 10, [(0, []), (1, []), (2, []), (3, []), (4, []), (5, []), (6, []), (7, []), (8, []), (9, []), (10, [5]), (11, []), (12, []), (13, [])]),
   (26, 8, [(0, []), (2, []), (1, [2]), (3, []), (4, [])]),
   (30, 14, [(0, []), (1, []), (2, []), (3, []), (4, []), (5, []), (6, [3]), (7, []), (8, [])]),
   (30, 26, (List.range' 0 10).map fun i => (i, [])),
   (30, 32, (List.range' 0 8).map fun i => (i, [])),
   (30, 33, [(0, []), (1, []), (2, []), (3, []), (4, [1]), (5, []), (6, []), (7, []), (8, [])]),
   (30, 36, [(0, []), (1, []), (2, [0]), (3, []), (4, []), (5, [])]),
   (30, 38, [(0, []), (1, []), (2, []), (3, []), (4, []), (5, [1, 4]), (6, [])]),
   (32, 6, (List.range' 0 11).map fun i => (i, [])),
   (32, 11, (List.range' 0 13).map fun i => (i, [])),
   (36, 8, (List.range' 0 15).map fun i => (i, [])),
   (38, 4, (List.range' 0 11).map fun i => (i, [])),
   (40, 4, (List.range' 0 19).map fun i => (i, [])),
   (45, 4, [(0, []), (1, []), (2, []), (3, []), (4, []), (6, []), (7, []), (8, []), (9, []), (5, [9]), (10, []), (11, []), (12, [])]),
   (51, 14, [(0, []), (1, []), (2, []), (3, []), (4, []), (5, []), (6, []), (7, []), (8, []), (9, []), (10, [4, 6, 8]), (11, []), (12, []), (13, []), (14, []), (15, []), (16, [])]),
   (54, 9, (List.range' 0 14).map fun i => (i, [])),
   (59, 1, [(0, []), (1, []), (3, []), (4, []), (6, []), (7, []), (9, []), (10, []), (12, []), (13, []), (15, []), (16, []), (17, []), (2, [4, 7, 10, 13, 16, 17]), (5, [7, 10, 13, 16, 17]), (8, [10, 13, 16, 17]), (11, [13, 16, 17]), (14, [16, 17]), (18, []), (19, [])]),
   (59, 7, [(0, []), (1, []), (2, []), (3, []), (4, []), (5, []), (6, []), (7, []), (8, [2]), (9, []), (10, []), (11, [])]),
   (59, 11, [(0, []), (1, []), (2, []), (3, []), (4, []), (5, []), (6, []), (7, []), (8, []), (9, [2]), (10, []), (11, []), (12, [])]),
   (61, 4, [(0, []), (1, []), (2, []), (3, []), (4, []), (5, []), (6, []), (7, []), (8, []), (9, []), (10, []), (11, []), (12, []), (13, []), (14, []), (16, []), (17, []), (15, [17]), (18, []), (19, []), (20, [])]),
   (66, 3, (List.range' 0 14).map fun i => (i, [])),
   (66, 7, (List.range' 0 10).map fun i => (i, [])),
   (69, 5, (List.range' 0 26).map fun i => (i, [])),
   (70, 3, (List.range' 0 19).map fun i => (i, [])),
   (71, 29, [(0, []), (1, []), (2, []), (3, []), (4, [1]), (5, []), (6, []), (7, []), (8, [])]),
   (83, 16, (List.range' 0 19).map fun i => (i, [])),
   (83, 17, (List.range' 0 12).map fun i => (i, [])),
   (83, 20, (List.range' 0 21).map fun i => (i, [])),
   (83, 25, (List.range' 0 19).map fun i => (i, [])),
   (83, 26, (List.range' 0 24).map fun i => (i, [])),
   (83, 27, [(0, []), (1, []), (2, []), (3, []), (4, []), (5, []), (7, []), (8, []), (9, []), (12, []), (13, []), (14, []), (18, []), (20, []), (21, []), (22, []), (23, []), (25, []), (26, []), (27, []), (28, []), (6, [2, 9, 14, 23, 28]), (10, [2, 14, 23, 28]), (11, []), (15, [2, 23, 28]), (16, []), (17, []), (19, []), (24, []), (29, []), (30, [])]),
   (83, 28, [(0, []), (1, []), (2, []), (4, []), (5, []), (6, []), (9, []), (10, []), (11, []), (14, []), (3, [6, 11]), (7, [11]), (8, []), (12, []), (13, []), (15, []), (16, [])]),
   (83, 29, (List.range' 0 32).map fun i => (i, [])),
   (83, 33, (List.range' 0 15).map fun i => (i, [])),
   (85, 1, [(0, []), (3, []), (1, [3]), (2, []), (4, []), (5, []), (6, []), (7, [])]),
   (87, 10, (List.range' 0 10).map fun i => (i, [])),
   (87, 12, (List.range' 0 11).map fun i => (i, [])),
   (88, 1, (List.range' 0 6).map fun i => (i, [])),
   (89, 3, (List.range' 0 9).map fun i => (i, [])),
   (95, 1, (List.range' 0 10).map fun i => (i, [])),
   (98, 6, (List.range' 0 40).map fun i => (i, [])),
   (98, 7, (List.range' 0 10).map fun i => (i, [])),
   (98, 10, (List.range' 0 16).map fun i => (i, [])),
   (98, 16, (List.range' 0 6).map fun i => (i, [])),
   (98, 17, [(0, []), (1, []), (2, []), (4, []), (7, []), (11, []), (12, []), (13, []), (14, []), (15, []), (16, []), (17, []), (18, []), (19, []), (20, []), (22, []), (23, []), (24, []), (26, []), (27, []), (28, []), (3, [1, 12, 15, 17, 24, 28]), (5, [1, 12, 15, 17, 24, 28]), (6, []), (8, [1, 12, 15, 17, 24, 28]), (9, []), (10, []), (21, []), (25, []), (29, []), (30, [])]),
   (98, 18, [(0, []), (2, []), (5, []), (8, []), (9, []), (10, []), (11, []), (12, []), (13, []), (14, []), (15, []), (16, []), (17, []), (18, []), (19, []), (1, [10, 13, 16]), (3, [10, 13, 16]), (4, []), (6, [10, 13, 16]), (7, []), (20, []), (21, [])]),
   (98, 24, (List.range' 0 12).map fun i => (i, [])),
   (99, 14, (List.range' 0 5).map fun i => (i, []))]
def planOf (f id : Nat) : Plan := match planTab.find? (fun x => x.1 == f && x.2.1 == id) with
  | some x => x.2.2
  | none => []
def gtab : List (Nat × V) := [(17, .bool true), (22, .bool true), (37, .bool true)]
def HH : Hints := { plan := planOf, ground := findTab gtab }
theorem pl_38_4 : HH.plan 38 4 = (List.range' 0 11).map fun i => (i, []) := by kernel_rfl
theorem pl_40_4 : HH.plan 40 4 = (List.range' 0 19).map fun i => (i, []) := by kernel_rfl
theorem ag3 : aggT Try.prog 3 = some false := by kernel_rfl
theorem ag4 : aggT Try.prog 4 = some false := by kernel_rfl
theorem sz5 : szT Try.prog 5 = some 1 := by kernel_rfl
theorem ag5 : aggT Try.prog 5 = some false := by kernel_rfl
theorem by5 : bytesT Try.prog 5 = some 1 := by kernel_rfl
theorem zc5 : (zeroT Try.prog 5).bind V.cells = some [.int .u8 0] := by kernel_rfl
theorem sz9 : szT Try.prog 9 = some 1 := by kernel_rfl
theorem by9 : bytesT Try.prog 9 = some 16 := by kernel_rfl
theorem zc9 : (zeroT Try.prog 9).bind V.cells = some [.str []] := by kernel_rfl
theorem sz38 : szT Try.prog 38 = some 1 := by kernel_rfl
theorem ag38 : aggT Try.prog 38 = some false := by kernel_rfl
theorem sz79 : szT Try.prog 79 = some 1 := by kernel_rfl
theorem ag79 : aggT Try.prog 79 = some false := by kernel_rfl
theorem zc81 : (zeroT Try.prog 81).bind V.cells = some [.snil] := by kernel_rfl
theorem sz87 : szT Try.prog 87 = some 5 := by kernel_rfl
theorem ag87 : aggT Try.prog 87 = some true := by kernel_rfl
theorem by87 : bytesT Try.prog 87 = some 56 := by kernel_rfl
theorem zc87 : (zeroT Try.prog 87).bind V.cells = some [.bool false, .int .i64 0, .bool false, .int .i64 0, .snil] := by kernel_rfl
theorem ag107 : aggT Try.prog 107 = some false := by kernel_rfl
theorem sl38 : SlT Try.prog 38 5 1 1 := .of _ Try.underlying38 sz5 by5 zc5 rfl (by decide)
theorem sl79 : SlT Try.prog 79 87 5 56 := .of _ Try.underlying79 sz87 by87 zc87 rfl (by decide)
theorem sl82 : SlT Try.prog 82 9 1 16 := .of _ Try.underlying82 sz9 by9 zc9 rfl (by decide)
theorem ok : progOkB Try.prog HH = true := by kernel_rfl
theorem progOk : ProgOk Try.prog HH := progOk_of ok gtab (fun g v h => findTab_mem h) (List.forall_mem_cons.2 ⟨⟨rfl, 200, fun orc odr => by kernel_rfl⟩, List.forall_mem_cons.2 ⟨⟨rfl, 200, fun orc odr => by kernel_rfl⟩, List.forall_mem_cons.2 ⟨⟨rfl, 200, fun orc odr => by kernel_rfl⟩, fun _ h => by simp at h⟩⟩⟩)
end Go.Sv.Try
