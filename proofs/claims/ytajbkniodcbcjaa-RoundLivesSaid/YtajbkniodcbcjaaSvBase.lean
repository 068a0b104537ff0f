/- The seat's own facts: the order of each drawing region, what fixed runs come to, sizes of types. -/
import Derived.Test.YtajbkniodcbcjaaSv4
import Derived.Test.YtajbkniodcbcjaaChecked
import Derived.KernelRfl
namespace Go.Sv.Try
open Go Go.Proofs
set_option linter.unusedVariables false
def planTab : List (Nat × Nat × Plan) :=
  [(3, 24, (List.range' 0 11).map fun i => (i, [])),
   (3, 26, (List.range' 0 18).map fun i => (i, [])),
   (3, 28, [(0, []), (1, []), (2, []), (3, []), (4, []), (5, []), (6, []), (7, []), (8, []), (9, []), (10, []), (11, []), (12, []), (13, []), (14, []), (15, []), (16, []), (17, []), (18, []), (19, []), (20, []), (21, []), (22, [2]), (23, [])]),
   (3, 29, [(0, []), (1, []), (2, []), (3, []), (4, []), (5, []), (6, []), (7, []), (8, []), (9, []), (10, []), (11, []), (12, []), (13, []), (14, []), (15, []), (16, []), (17, []), (18, []), (19, []), (20, [2]), (21, [])]),
   (3, 33, [(0, []), (1, []), (2, [0]), (3, []), (4, []), (5, []), (6, [])]),
   (4, 12, (List.range' 0 13).map fun i => (i, [])),
   (4, 13, (List.range' 0 10).map fun i => (i, [])),
   (4, 14, (List.range' 0 12).map fun i => (i, [])),
   (4, 15, (List.range' 0 9).map fun i => (i, [])),
   (4, 18, [(0, []), (1, []), (2, []), (3, []), (4, []), (5, []), (6, []), (7, []), (8, []), (9, []), (10, [2]), (11, [])]),
   (4, 21, [(0, []), (1, []), (2, []), (3, []), (4, []), (5, []), (6, []), (7, [2]), (8, [])]),
   (4, 23, (List.range' 0 29).map fun i => (i, [])),
   (4, 24, [(0, []), (1, []), (2, []), (3, []), (4, []), (5, []), (6, []), (7, []), (8, []), (9, []), (10, []), (11, [2]), (12, [])]),
   (4, 26, [(0, []), (1, []), (2, []), (4, []), (5, []), (6, []), (7, []), (3, [7]), (8, [])]),
   (4, 27, [(0, []), (1, []), (2, []), (3, []), (4, []), (5, []), (6, []), (7, []), (8, []), (9, []), (10, [2]), (11, [])]),
   (5, 34, [(0, []), (1, []), (2, []), (3, []), (4, []), (5, []), (6, []), (7, []), (8, []), (9, []), (10, [9]), (11, []), (12, []), (13, []), (14, []), (15, []), (16, []), (17, []), (18, [])]),
   (6, 21, [(0, []), (1, []), (2, [1]), (3, [])]),
   (6, 26, (List.range' 0 6).map fun i => (i, [])),
   (13, 3, (List.range' 0 8).map fun i => (i, [])),
   (14, 4, (List.range' 0 9).map fun i => (i, [])),
   (14, 10, (List.range' 0 14).map fun i => (i, [])),
   (16, 2, (List.range' 0 9).map fun i => (i, [])),
   (17, 1, [(0, []), (1, []), (2, []), (3, []), (4, []), (5, []), (6, []), (7, []), (8, []), (9, []), (10, []), (11, []), (12, []), (13, []), (14, []), (15, []), (16, []), (17, []), (18, []), (19, []), (20, []), (21, []), (22, [21]), (23, []), (24, []), (25, []), (26, []), (27, []), (28, []), (29, []), (30, []), (31, []), (32, []), (33, []), (34, [])]),
   (17, 2, (List.range' 0 9).map fun i => (i, [])),
   (19, 1, (List.range' 0 9).map fun i => (i, [])),
   (19, 3, [(0, []), (1, []), (2, []), (3, []), (4, []), (5, []), (6, []), (7, []), (8, []), (9, []), (10, []), (11, []), (12, []), (13, []), (14, []), (15, [2]), (16, [])]),
   (19, 4, [(0, []), (1, []), (2, []), (3, []), (4, []), (5, []), (6, []), (7, []), (8, []), (9, []), (10, []), (11, []), (12, []), (13, [2]), (14, [])]),
   (20, 1, (List.range' 0 10).map fun i => (i, [])),
   (22, 10, (List.range' 0 10).map fun i => (i, [])),
   (23, 5, (List.range' 0 13).map fun i => (i, [])),
   (25, 3, [(0, []), (1, []), (2, []), (3, []), (5, []), (6, []), (7, []), (8, []), (4, [5, 8]), (9, []), (10, [])]),
   (27, 4, (List.range' 0 21).map fun i => (i, [])),
   (27, 5, (List.range' 0 12).map fun i => (i, [])),
   (27, 7, (List.range' 0 25).map fun i => (i, [])),
   (27, 8, [(0, []), (1, []), (2, []), (3, []), (4, []), (5, []), (6, []), (7, []), (8, []), (9, [5]), (10, []), (11, []), (12, [])]),
   (27, 9, [(0, []), (1, []), (2, []), (3, []), (4, []), (5, []), (6, [5]), (7, []), (8, [])]),
   (27, 10, [(0, []), (1, []), (2, []), (3, []), (4, []), (5, []), (6, []), (7, []), (8, []), (9, []), (10, []), (11, []), (12, []), (13, []), (14, []), (15, []), (16, [8, 10, 13]), (17, []), (18, []), (19, [10, 13]), (20, []), (21, []), (22, [13]), (23, []), (24, []), (25, [])]),
   (28, 1, (List.range' 0 10).map fun i => (i, [])),
   (29, 1, [(0, []), (1, []), (2, []), (3, []), (4, []), (5, []), (6, []), (7, []), (8, []), (10, []), (11, []), (12, []), (13, []), (14, []), (15, []), (16, []), (17, []), (18, []), (9, [13, 18]), (19, []), (20, []), (21, [])]),
   (30, 2, (List.range' 0 11).map fun i => (i, [])),
   (32, 3, [(0, []), (1, []), (2, []), (3, []), (4, []), (5, []), (6, []), (7, []), (8, []), (10, []), (11, []), (12, []), (13, []), (9, [13]), (14, [])]),
   (32, 8, (List.range' 0 12).map fun i => (i, [])),
   (32, 9, (List.range' 0 9).map fun i => (i, [])),
   (33, 1, (List.range' 0 16).map fun i => (i, [])),
   (33, 2, (List.range' 0 9).map fun i => (i, [])),
   (37, 1, [(0, []), (1, []), (2, []), (4, []), (3, [4]), (5, []), (6, [])]),
   (41, 12, (List.range' 0 14).map fun i => (i, [])),
   (41, 16, (List.range' 0 11).map fun i => (i, [])),
   (41, 20, (List.range' 0 20).map fun i => (i, [])),
   (41, 22, (List.range' 0 23).map fun i => (i, [])),
   (41, 24, (List.range' 0 31).map fun i => (i, [])),
   (42, 0, (List.range' 0 12).map fun i => (i, [])),
   (42, 1, (List.range' 0 11).map fun i => (i, [])),
   (43, 1, (List.range' 0 11).map fun i => (i, [])),
   (44, 1, (List.range' 0 10).map fun i => (i, [])),
   (46, 2, [(0, []), (1, []), (2, []), (3, []), (4, [0, 3]), (5, []), (6, []), (7, [3]), (8, [])]),
   (48, 2, (List.range' 0 26).map fun i => (i, [])),
   (48, 3, [(0, []), (1, []), (2, []), (3, []), (4, []), (5, []), (6, []), (7, []), (8, []), (9, []), (10, [7]), (11, []), (12, []), (13, [])]),
   (48, 5, [(0, []), (1, []), (2, []), (3, []), (4, []), (5, []), (6, []), (7, []), (8, []), (9, []), (10, [7]), (11, []), (12, []), (13, [])]),
   (48, 8, [(0, []), (1, []), (2, []), (3, []), (4, []), (5, []), (6, []), (7, []), (8, []), (9, []), (10, []), (11, []), (12, []), (13, []), (16, []), (17, []), (18, []), (19, []), (14, [9, 13, 19]), (15, [19]), (20, []), (21, []), (22, []), (23, [])]),
   (48, 11, [(0, []), (1, []), (2, []), (3, []), (4, []), (5, []), (6, []), (7, []), (8, []), (9, []), (10, []), (11, []), (12, []), (13, []), (15, []), (16, []), (17, []), (18, []), (14, [18]), (19, []), (20, []), (21, [])]),
   (48, 13, [(0, []), (1, []), (2, []), (3, []), (4, []), (5, []), (6, []), (7, []), (9, []), (10, []), (11, []), (12, []), (8, [12]), (13, []), (14, [])])]
def planOf (f id : Nat) : Plan := match planTab.find? (fun x => x.1 == f && x.2.1 == id) with
  | some x => x.2.2
  | none => []
def gtab : List (Nat × V) := [(9, .bool true)]
def HH : Hints := { plan := planOf, ground := findTab gtab }
theorem pl_3_24 : HH.plan 3 24 = (List.range' 0 11).map fun i => (i, []) := by kernel_rfl
theorem pl_3_26 : HH.plan 3 26 = (List.range' 0 18).map fun i => (i, []) := by kernel_rfl
theorem pl_3_28 : HH.plan 3 28 = [(0, []), (1, []), (2, []), (3, []), (4, []), (5, []), (6, []), (7, []), (8, []), (9, []), (10, []), (11, []), (12, []), (13, []), (14, []), (15, []), (16, []), (17, []), (18, []), (19, []), (20, []), (21, []), (22, [2]), (23, [])] := by kernel_rfl
theorem pl_3_29 : HH.plan 3 29 = [(0, []), (1, []), (2, []), (3, []), (4, []), (5, []), (6, []), (7, []), (8, []), (9, []), (10, []), (11, []), (12, []), (13, []), (14, []), (15, []), (16, []), (17, []), (18, []), (19, []), (20, [2]), (21, [])] := by kernel_rfl
theorem pl_3_33 : HH.plan 3 33 = [(0, []), (1, []), (2, [0]), (3, []), (4, []), (5, []), (6, [])] := by kernel_rfl
theorem pl_13_3 : HH.plan 13 3 = (List.range' 0 8).map fun i => (i, []) := by kernel_rfl
theorem pl_14_4 : HH.plan 14 4 = (List.range' 0 9).map fun i => (i, []) := by kernel_rfl
theorem pl_14_10 : HH.plan 14 10 = (List.range' 0 14).map fun i => (i, []) := by kernel_rfl
theorem pl_16_2 : HH.plan 16 2 = (List.range' 0 9).map fun i => (i, []) := by kernel_rfl
theorem pl_17_1 : HH.plan 17 1 = [(0, []), (1, []), (2, []), (3, []), (4, []), (5, []), (6, []), (7, []), (8, []), (9, []), (10, []), (11, []), (12, []), (13, []), (14, []), (15, []), (16, []), (17, []), (18, []), (19, []), (20, []), (21, []), (22, [21]), (23, []), (24, []), (25, []), (26, []), (27, []), (28, []), (29, []), (30, []), (31, []), (32, []), (33, []), (34, [])] := by kernel_rfl
theorem pl_17_2 : HH.plan 17 2 = (List.range' 0 9).map fun i => (i, []) := by kernel_rfl
theorem pl_22_10 : HH.plan 22 10 = (List.range' 0 10).map fun i => (i, []) := by kernel_rfl
theorem pl_23_5 : HH.plan 23 5 = (List.range' 0 13).map fun i => (i, []) := by kernel_rfl
theorem pl_25_3 : HH.plan 25 3 = [(0, []), (1, []), (2, []), (3, []), (5, []), (6, []), (7, []), (8, []), (4, [5, 8]), (9, []), (10, [])] := by kernel_rfl
theorem pl_30_2 : HH.plan 30 2 = (List.range' 0 11).map fun i => (i, []) := by kernel_rfl
theorem pl_32_3 : HH.plan 32 3 = [(0, []), (1, []), (2, []), (3, []), (4, []), (5, []), (6, []), (7, []), (8, []), (10, []), (11, []), (12, []), (13, []), (9, [13]), (14, [])] := by kernel_rfl
theorem pl_32_8 : HH.plan 32 8 = (List.range' 0 12).map fun i => (i, []) := by kernel_rfl
theorem pl_32_9 : HH.plan 32 9 = (List.range' 0 9).map fun i => (i, []) := by kernel_rfl
theorem pl_33_1 : HH.plan 33 1 = (List.range' 0 16).map fun i => (i, []) := by kernel_rfl
theorem pl_33_2 : HH.plan 33 2 = (List.range' 0 9).map fun i => (i, []) := by kernel_rfl
theorem pl_37_1 : HH.plan 37 1 = [(0, []), (1, []), (2, []), (4, []), (3, [4]), (5, []), (6, [])] := by kernel_rfl
theorem pl_41_12 : HH.plan 41 12 = (List.range' 0 14).map fun i => (i, []) := by kernel_rfl
theorem pl_41_16 : HH.plan 41 16 = (List.range' 0 11).map fun i => (i, []) := by kernel_rfl
theorem pl_41_20 : HH.plan 41 20 = (List.range' 0 20).map fun i => (i, []) := by kernel_rfl
theorem pl_41_22 : HH.plan 41 22 = (List.range' 0 23).map fun i => (i, []) := by kernel_rfl
theorem pl_41_24 : HH.plan 41 24 = (List.range' 0 31).map fun i => (i, []) := by kernel_rfl
theorem pl_42_0 : HH.plan 42 0 = (List.range' 0 12).map fun i => (i, []) := by kernel_rfl
theorem pl_42_1 : HH.plan 42 1 = (List.range' 0 11).map fun i => (i, []) := by kernel_rfl
theorem pl_43_1 : HH.plan 43 1 = (List.range' 0 11).map fun i => (i, []) := by kernel_rfl
theorem pl_44_1 : HH.plan 44 1 = (List.range' 0 10).map fun i => (i, []) := by kernel_rfl
theorem pl_46_2 : HH.plan 46 2 = [(0, []), (1, []), (2, []), (3, []), (4, [0, 3]), (5, []), (6, []), (7, [3]), (8, [])] := by kernel_rfl
theorem pl_48_2 : HH.plan 48 2 = (List.range' 0 26).map fun i => (i, []) := by kernel_rfl
theorem pl_48_3 : HH.plan 48 3 = [(0, []), (1, []), (2, []), (3, []), (4, []), (5, []), (6, []), (7, []), (8, []), (9, []), (10, [7]), (11, []), (12, []), (13, [])] := by kernel_rfl
theorem pl_48_5 : HH.plan 48 5 = [(0, []), (1, []), (2, []), (3, []), (4, []), (5, []), (6, []), (7, []), (8, []), (9, []), (10, [7]), (11, []), (12, []), (13, [])] := by kernel_rfl
theorem pl_48_8 : HH.plan 48 8 = [(0, []), (1, []), (2, []), (3, []), (4, []), (5, []), (6, []), (7, []), (8, []), (9, []), (10, []), (11, []), (12, []), (13, []), (16, []), (17, []), (18, []), (19, []), (14, [9, 13, 19]), (15, [19]), (20, []), (21, []), (22, []), (23, [])] := by kernel_rfl
theorem pl_48_11 : HH.plan 48 11 = [(0, []), (1, []), (2, []), (3, []), (4, []), (5, []), (6, []), (7, []), (8, []), (9, []), (10, []), (11, []), (12, []), (13, []), (15, []), (16, []), (17, []), (18, []), (14, [18]), (19, []), (20, []), (21, [])] := by kernel_rfl
theorem pl_48_13 : HH.plan 48 13 = [(0, []), (1, []), (2, []), (3, []), (4, []), (5, []), (6, []), (7, []), (9, []), (10, []), (11, []), (12, []), (8, [12]), (13, []), (14, [])] := by kernel_rfl
theorem sz3 : szT Try.prog 3 = some 1 := by kernel_rfl
theorem ag3 : aggT Try.prog 3 = some false := by kernel_rfl
theorem zc3 : (zeroT Try.prog 3).bind V.cells = some [.int .i64 0] := by kernel_rfl
theorem sz4 : szT Try.prog 4 = some 1 := by kernel_rfl
theorem ag4 : aggT Try.prog 4 = some false := by kernel_rfl
theorem zc4 : (zeroT Try.prog 4).bind V.cells = some [.bool false] := by kernel_rfl
theorem sz26 : szT Try.prog 26 = some 1 := by kernel_rfl
theorem ag26 : aggT Try.prog 26 = some false := by kernel_rfl
theorem sz27 : szT Try.prog 27 = some 1 := by kernel_rfl
theorem ag27 : aggT Try.prog 27 = some false := by kernel_rfl
theorem sz28 : szT Try.prog 28 = some 1 := by kernel_rfl
theorem ag28 : aggT Try.prog 28 = some false := by kernel_rfl
theorem sz31 : szT Try.prog 31 = some 1 := by kernel_rfl
theorem ag31 : aggT Try.prog 31 = some false := by kernel_rfl
theorem by31 : bytesT Try.prog 31 = some 8 := by kernel_rfl
theorem zc31 : (zeroT Try.prog 31).bind V.cells = some [.pnil] := by kernel_rfl
theorem sz35 : szT Try.prog 35 = some 1 := by kernel_rfl
theorem ag35 : aggT Try.prog 35 = some false := by kernel_rfl
theorem sz39 : szT Try.prog 39 = some 32 := by kernel_rfl
theorem ag39 : aggT Try.prog 39 = some true := by kernel_rfl
theorem by39 : bytesT Try.prog 39 = some 32 := by kernel_rfl
theorem zc39 : (zeroT Try.prog 39).bind V.cells = some [.int .u8 0, .int .u8 0, .int .u8 0, .int .u8 0, .int .u8 0, .int .u8 0, .int .u8 0, .int .u8 0, .int .u8 0, .int .u8 0, .int .u8 0, .int .u8 0, .int .u8 0, .int .u8 0, .int .u8 0, .int .u8 0, .int .u8 0, .int .u8 0, .int .u8 0, .int .u8 0, .int .u8 0, .int .u8 0, .int .u8 0, .int .u8 0, .int .u8 0, .int .u8 0, .int .u8 0, .int .u8 0, .int .u8 0, .int .u8 0, .int .u8 0, .int .u8 0] := by kernel_rfl
theorem sz42 : szT Try.prog 42 = some 36 := by kernel_rfl
theorem ag42 : aggT Try.prog 42 = some true := by kernel_rfl
theorem by42 : bytesT Try.prog 42 = some 64 := by kernel_rfl
theorem zc42 : (zeroT Try.prog 42).bind V.cells = some [.int .i64 0, .int .i64 0, .int .i64 0, .int .i64 0, .int .u8 0, .int .u8 0, .int .u8 0, .int .u8 0, .int .u8 0, .int .u8 0, .int .u8 0, .int .u8 0, .int .u8 0, .int .u8 0, .int .u8 0, .int .u8 0, .int .u8 0, .int .u8 0, .int .u8 0, .int .u8 0, .int .u8 0, .int .u8 0, .int .u8 0, .int .u8 0, .int .u8 0, .int .u8 0, .int .u8 0, .int .u8 0, .int .u8 0, .int .u8 0, .int .u8 0, .int .u8 0, .int .u8 0, .int .u8 0, .int .u8 0, .int .u8 0] := by kernel_rfl
theorem sz44 : szT Try.prog 44 = some 38 := by kernel_rfl
theorem ag44 : aggT Try.prog 44 = some true := by kernel_rfl
theorem by44 : bytesT Try.prog 44 = some 80 := by kernel_rfl
theorem zc44 : (zeroT Try.prog 44).bind V.cells = some [.int .i64 0, .int .i64 0, .int .i64 0, .int .i64 0, .int .i64 0, .int .i64 0, .int .u8 0, .int .u8 0, .int .u8 0, .int .u8 0, .int .u8 0, .int .u8 0, .int .u8 0, .int .u8 0, .int .u8 0, .int .u8 0, .int .u8 0, .int .u8 0, .int .u8 0, .int .u8 0, .int .u8 0, .int .u8 0, .int .u8 0, .int .u8 0, .int .u8 0, .int .u8 0, .int .u8 0, .int .u8 0, .int .u8 0, .int .u8 0, .int .u8 0, .int .u8 0, .int .u8 0, .int .u8 0, .int .u8 0, .int .u8 0, .int .u8 0, .int .u8 0] := by kernel_rfl
theorem ag59 : aggT Try.prog 59 = some false := by kernel_rfl
theorem sz79 : szT Try.prog 79 = some 34 := by kernel_rfl
theorem ag79 : aggT Try.prog 79 = some true := by kernel_rfl
theorem sz81 : szT Try.prog 81 = some 3 := by kernel_rfl
theorem sz89 : szT Try.prog 89 = some 1 := by kernel_rfl
theorem ag89 : aggT Try.prog 89 = some false := by kernel_rfl
theorem sz90 : szT Try.prog 90 = some 2 := by kernel_rfl
theorem sz96 : szT Try.prog 96 = some 33 := by kernel_rfl
theorem ag96 : aggT Try.prog 96 = some true := by kernel_rfl
theorem sl26 : SlT Try.prog 26 39 32 32 := .of _ Try.underlying26 sz39 by39 zc39 rfl (by decide)
theorem sl27 : SlT Try.prog 27 31 1 8 := .of _ Try.underlying27 sz31 by31 zc31 rfl (by decide)
theorem sl28 : SlT Try.prog 28 44 38 80 := .of _ Try.underlying28 sz44 by44 zc44 rfl (by decide)
theorem sl35 : SlT Try.prog 35 42 36 64 := .of _ Try.underlying35 sz42 by42 zc42 rfl (by decide)
theorem ok : progOkB Try.prog HH = true := by kernel_rfl
theorem progOk : ProgOk Try.prog HH := progOk_of ok gtab (fun g v h => findTab_mem h) (List.forall_mem_cons.2 ⟨⟨rfl, 200, fun orc odr => by kernel_rfl⟩, fun _ h => by simp at h⟩)
end Go.Sv.Try
