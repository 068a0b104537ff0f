/- The seat's own facts: the order of each drawing region, what fixed runs come to, sizes of types. -/
import Derived.Test.YtnogkphkjkbbhaaSv4
import Derived.Test.YtnogkphkjkbbhaaChecked
import Derived.KernelRfl
namespace Go.Sv.Try
open Go Go.Proofs
set_option linter.unusedVariables false
/-- The order in which a drawing region is gone through. -/
def planTab : List (Nat × Nat × Plan) :=
  [(3, 9, (List.range' 0 18).map fun i => (i, [])),
   (5, 12, [(0, []), (1, []), (2, []), (3, []), (4, []), (5, []), (6, []), (7, []), (8, [0, 2]), (9, [])]),
   (7, 9, [(0, []), (1, []), (2, []), (3, []), (4, []), (5, []), (6, []), (7, []), (8, []), (9, []), (10, [4, 6]), (11, []), (12, [])]),
   (14, 28, [(0, []), (2, []), (1, [2]), (3, [])]),
   (14, 41, [(0, []), (2, []), (3, []), (4, []), (5, []), (1, [5]), (6, [])]),
   (16, 33, (List.range' 0 7).map fun i => (i, [])),
   (16, 36, [(0, []), (1, []), (2, []), (3, []), (4, []), (5, []), (7, []), (6, [7]), (8, []), (9, []), (10, [])]),
   (19, 9, (List.range' 0 35).map fun i => (i, [])),
   (23, 7, [(0, []), (1, []), (2, []), (3, []), (5, []), (6, []), (4, [6]), (7, []), (8, []), (9, [])]),
   (24, 10, [(0, []), (1, []), (2, []), (3, []), (4, []), (5, []), (6, []), (7, []), (8, []), (9, []), (10, [5]), (11, []), (12, []), (13, [])]),
   (26, 8, [(0, []), (2, []), (1, [2]), (3, []), (4, [])]),
   (30, 14, [(0, []), (1, []), (2, []), (3, []), (4, []), (5, []), (6, [3]), (7, []), (8, [])]),
   (30, 26, (List.range' 0 10).map fun i => (i, [])),
   (30, 32, (List.range' 0 8).map fun i => (i, [])),
   (30, 33, [(0, []), (1, []), (2, []), (3, []), (4, [1]), (5, []), (6, []), (7, []), (8, [])]),
   (30, 36, [(0, []), (1, []), (2, [0]), (3, []), (4, []), (5, [])]),
   (30, 38, [(0, []), (1, []), (2, []), (3, []), (4, []), (5, [1, 4]), (6, [])]),
   (32, 6, (List.range' 0 11).map fun i => (i, [])),
   (32, 11, (List.range' 0 13).map fun i => (i, [])),
   (36, 8, (List.range' 0 15).map fun i => (i, [])),
   (38, 4, (List.range' 0 11).map fun i => (i, [])),
   (40, 4, (List.range' 0 19).map fun i => (i, [])),
   (45, 4, [(0, []), (1, []), (2, []), (3, []), (4, []), (6, []), (7, []), (8, []), (9, []), (5, [9]), (10, []), (11, []), (12, [])]),
   (51, 14, [(0, []), (1, []), (2, []), (3, []), (4, []), (5, []), (6, []), (7, []), (8, []), (9, []), (10, [4, 6, 8]), (11, []), (12, []), (13, []), (14, []), (15, []), (16, [])]),
   (54, 9, (List.range' 0 14).map fun i => (i, [])),
   (59, 1, [(0, []), (1, []), (3, []), (4, []), (6, []), (7, []), (9, []), (10, []), (12, []), (13, []), (15, []), (16, []), (17, []), (2, [4, 7, 10, 13, 16, 17]), (5, [7, 10, 13, 16, 17]), (8, [10, 13, 16, 17]), (11, [13, 16, 17]), (14, [16, 17]), (18, []), (19, [])]),
   (59, 7, [(0, []), (1, []), (2, []), (3, []), (4, []), (5, []), (6, []), (7, []), (8, [2]), (9, []), (10, []), (11, [])]),
   (59, 11, [(0, []), (1, []), (2, []), (3, []), (4, []), (5, []), (6, []), (7, []), (8, []), (9, [2]), (10, []), (11, []), (12, [])]),
   (61, 4, [(0, []), (1, []), (2, []), (3, []), (4, []), (5, []), (6, []), (7, []), (8, []), (9, []), (10, []), (11, []), (12, []), (13, []), (14, []), (16, []), (17, []), (15, [17]), (18, []), (19, []), (20, [])]),
   (66, 3, (List.range' 0 14).map fun i => (i, [])),
   (66, 7, (List.range' 0 10).map fun i => (i, [])),
   (69, 5, (List.range' 0 26).map fun i => (i, [])),
   (70, 3, (List.range' 0 19).map fun i => (i, [])),
   (71, 29, [(0, []), (1, []), (2, []), (3, []), (4, [1]), (5, []), (6, []), (7, []), (8, [])]),
   (83, 16, (List.range' 0 19).map fun i => (i, [])),
   (83, 17, (List.range' 0 12).map fun i => (i, [])),
   (83, 20, (List.range' 0 21).map fun i => (i, [])),
   (83, 25, (List.range' 0 19).map fun i => (i, [])),
   (83, 26, (List.range' 0 24).map fun i => (i, [])),
   (83, 27, [(0, []), (1, []), (2, []), (3, []), (4, []), (5, []), (7, []), (8, []), (9, []), (12, []), (13, []), (14, []), (18, []), (20, []), (21, []), (22, []), (23, []), (25, []), (26, []), (27, []), (28, []), (6, [2, 9, 14, 23, 28]), (10, [2, 14, 23, 28]), (11, []), (15, [2, 23, 28]), (16, []), (17, []), (19, []), (24, []), (29, []), (30, [])]),
   (83, 28, [(0, []), (1, []), (2, []), (4, []), (5, []), (6, []), (9, []), (10, []), (11, []), (14, []), (3, [6, 11]), (7, [11]), (8, []), (12, []), (13, []), (15, []), (16, [])]),
   (83, 29, (List.range' 0 32).map fun i => (i, [])),
   (83, 33, (List.range' 0 15).map fun i => (i, [])),
   (85, 1, [(0, []), (3, []), (1, [3]), (2, []), (4, []), (5, []), (6, []), (7, [])]),
   (87, 10, (List.range' 0 10).map fun i => (i, [])),
   (87, 12, (List.range' 0 11).map fun i => (i, [])),
   (88, 1, (List.range' 0 6).map fun i => (i, [])),
   (89, 3, (List.range' 0 9).map fun i => (i, [])),
   (95, 1, (List.range' 0 10).map fun i => (i, [])),
   (98, 6, (List.range' 0 40).map fun i => (i, [])),
   (98, 7, (List.range' 0 10).map fun i => (i, [])),
   (98, 10, (List.range' 0 16).map fun i => (i, [])),
   (98, 16, (List.range' 0 6).map fun i => (i, [])),
   (98, 17, [(0, []), (1, []), (2, []), (4, []), (7, []), (11, []), (12, []), (13, []), (14, []), (15, []), (16, []), (17, []), (18, []), (19, []), (20, []), (22, []), (23, []), (24, []), (26, []), (27, []), (28, []), (3, [1, 12, 15, 17, 24, 28]), (5, [1, 12, 15, 17, 24, 28]), (6, []), (8, [1, 12, 15, 17, 24, 28]), (9, []), (10, []), (21, []), (25, []), (29, []), (30, [])]),
   (98, 18, [(0, []), (2, []), (5, []), (8, []), (9, []), (10, []), (11, []), (12, []), (13, []), (14, []), (15, []), (16, []), (17, []), (18, []), (19, []), (1, [10, 13, 16]), (3, [10, 13, 16]), (4, []), (6, [10, 13, 16]), (7, []), (20, []), (21, [])]),
   (98, 24, (List.range' 0 12).map fun i => (i, [])),
   (99, 14, (List.range' 0 5).map fun i => (i, []))]
def planOf (f id : Nat) : Plan := match planTab.find? (fun x => x.1 == f && x.2.1 == id) with
  | some x => x.2.2
  | none => []
/-- Functions that run one fixed run. -/
def gtab : List (Nat × V) := [(17, .bool true), (22, .bool true), (37, .bool true)]
def HH : Hints := { plan := planOf, ground := findTab gtab }
theorem pl_3_9 : HH.plan 3 9 = (List.range' 0 18).map fun i => (i, []) := by kernel_rfl
theorem pl_5_12 : HH.plan 5 12 = [(0, []), (1, []), (2, []), (3, []), (4, []), (5, []), (6, []), (7, []), (8, [0, 2]), (9, [])] := by kernel_rfl
theorem pl_7_9 : HH.plan 7 9 = [(0, []), (1, []), (2, []), (3, []), (4, []), (5, []), (6, []), (7, []), (8, []), (9, []), (10, [4, 6]), (11, []), (12, [])] := by kernel_rfl
theorem pl_14_28 : HH.plan 14 28 = [(0, []), (2, []), (1, [2]), (3, [])] := by kernel_rfl
theorem pl_14_41 : HH.plan 14 41 = [(0, []), (2, []), (3, []), (4, []), (5, []), (1, [5]), (6, [])] := by kernel_rfl
theorem pl_16_33 : HH.plan 16 33 = (List.range' 0 7).map fun i => (i, []) := by kernel_rfl
theorem pl_16_36 : HH.plan 16 36 = [(0, []), (1, []), (2, []), (3, []), (4, []), (5, []), (7, []), (6, [7]), (8, []), (9, []), (10, [])] := by kernel_rfl
theorem pl_19_9 : HH.plan 19 9 = (List.range' 0 35).map fun i => (i, []) := by kernel_rfl
theorem pl_23_7 : HH.plan 23 7 = [(0, []), (1, []), (2, []), (3, []), (5, []), (6, []), (4, [6]), (7, []), (8, []), (9, [])] := by kernel_rfl
theorem pl_24_10 : HH.plan 24 10 = [(0, []), (1, []), (2, []), (3, []), (4, []), (5, []), (6, []), (7, []), (8, []), (9, []), (10, [5]), (11, []), (12, []), (13, [])] := by kernel_rfl
theorem pl_26_8 : HH.plan 26 8 = [(0, []), (2, []), (1, [2]), (3, []), (4, [])] := by kernel_rfl
theorem pl_30_14 : HH.plan 30 14 = [(0, []), (1, []), (2, []), (3, []), (4, []), (5, []), (6, [3]), (7, []), (8, [])] := by kernel_rfl
theorem pl_30_26 : HH.plan 30 26 = (List.range' 0 10).map fun i => (i, []) := by kernel_rfl
theorem pl_30_32 : HH.plan 30 32 = (List.range' 0 8).map fun i => (i, []) := by kernel_rfl
theorem pl_30_33 : HH.plan 30 33 = [(0, []), (1, []), (2, []), (3, []), (4, [1]), (5, []), (6, []), (7, []), (8, [])] := by kernel_rfl
theorem pl_30_36 : HH.plan 30 36 = [(0, []), (1, []), (2, [0]), (3, []), (4, []), (5, [])] := by kernel_rfl
theorem pl_30_38 : HH.plan 30 38 = [(0, []), (1, []), (2, []), (3, []), (4, []), (5, [1, 4]), (6, [])] := by kernel_rfl
theorem pl_32_6 : HH.plan 32 6 = (List.range' 0 11).map fun i => (i, []) := by kernel_rfl
theorem pl_32_11 : HH.plan 32 11 = (List.range' 0 13).map fun i => (i, []) := by kernel_rfl
theorem pl_36_8 : HH.plan 36 8 = (List.range' 0 15).map fun i => (i, []) := by kernel_rfl
theorem pl_38_4 : HH.plan 38 4 = (List.range' 0 11).map fun i => (i, []) := by kernel_rfl
theorem pl_40_4 : HH.plan 40 4 = (List.range' 0 19).map fun i => (i, []) := by kernel_rfl
theorem pl_45_4 : HH.plan 45 4 = [(0, []), (1, []), (2, []), (3, []), (4, []), (6, []), (7, []), (8, []), (9, []), (5, [9]), (10, []), (11, []), (12, [])] := by kernel_rfl
theorem pl_51_14 : HH.plan 51 14 = [(0, []), (1, []), (2, []), (3, []), (4, []), (5, []), (6, []), (7, []), (8, []), (9, []), (10, [4, 6, 8]), (11, []), (12, []), (13, []), (14, []), (15, []), (16, [])] := by kernel_rfl
theorem pl_54_9 : HH.plan 54 9 = (List.range' 0 14).map fun i => (i, []) := by kernel_rfl
theorem pl_59_1 : HH.plan 59 1 = [(0, []), (1, []), (3, []), (4, []), (6, []), (7, []), (9, []), (10, []), (12, []), (13, []), (15, []), (16, []), (17, []), (2, [4, 7, 10, 13, 16, 17]), (5, [7, 10, 13, 16, 17]), (8, [10, 13, 16, 17]), (11, [13, 16, 17]), (14, [16, 17]), (18, []), (19, [])] := by kernel_rfl
theorem pl_59_7 : HH.plan 59 7 = [(0, []), (1, []), (2, []), (3, []), (4, []), (5, []), (6, []), (7, []), (8, [2]), (9, []), (10, []), (11, [])] := by kernel_rfl
theorem pl_59_11 : HH.plan 59 11 = [(0, []), (1, []), (2, []), (3, []), (4, []), (5, []), (6, []), (7, []), (8, []), (9, [2]), (10, []), (11, []), (12, [])] := by kernel_rfl
theorem pl_61_4 : HH.plan 61 4 = [(0, []), (1, []), (2, []), (3, []), (4, []), (5, []), (6, []), (7, []), (8, []), (9, []), (10, []), (11, []), (12, []), (13, []), (14, []), (16, []), (17, []), (15, [17]), (18, []), (19, []), (20, [])] := by kernel_rfl
theorem pl_66_3 : HH.plan 66 3 = (List.range' 0 14).map fun i => (i, []) := by kernel_rfl
theorem pl_66_7 : HH.plan 66 7 = (List.range' 0 10).map fun i => (i, []) := by kernel_rfl
theorem pl_69_5 : HH.plan 69 5 = (List.range' 0 26).map fun i => (i, []) := by kernel_rfl
theorem pl_70_3 : HH.plan 70 3 = (List.range' 0 19).map fun i => (i, []) := by kernel_rfl
theorem pl_71_29 : HH.plan 71 29 = [(0, []), (1, []), (2, []), (3, []), (4, [1]), (5, []), (6, []), (7, []), (8, [])] := by kernel_rfl
theorem pl_83_16 : HH.plan 83 16 = (List.range' 0 19).map fun i => (i, []) := by kernel_rfl
theorem pl_83_17 : HH.plan 83 17 = (List.range' 0 12).map fun i => (i, []) := by kernel_rfl
theorem pl_83_20 : HH.plan 83 20 = (List.range' 0 21).map fun i => (i, []) := by kernel_rfl
theorem pl_83_25 : HH.plan 83 25 = (List.range' 0 19).map fun i => (i, []) := by kernel_rfl
theorem pl_83_26 : HH.plan 83 26 = (List.range' 0 24).map fun i => (i, []) := by kernel_rfl
theorem pl_83_27 : HH.plan 83 27 = [(0, []), (1, []), (2, []), (3, []), (4, []), (5, []), (7, []), (8, []), (9, []), (12, []), (13, []), (14, []), (18, []), (20, []), (21, []), (22, []), (23, []), (25, []), (26, []), (27, []), (28, []), (6, [2, 9, 14, 23, 28]), (10, [2, 14, 23, 28]), (11, []), (15, [2, 23, 28]), (16, []), (17, []), (19, []), (24, []), (29, []), (30, [])] := by kernel_rfl
theorem pl_83_28 : HH.plan 83 28 = [(0, []), (1, []), (2, []), (4, []), (5, []), (6, []), (9, []), (10, []), (11, []), (14, []), (3, [6, 11]), (7, [11]), (8, []), (12, []), (13, []), (15, []), (16, [])] := by kernel_rfl
theorem pl_83_29 : HH.plan 83 29 = (List.range' 0 32).map fun i => (i, []) := by kernel_rfl
theorem pl_83_33 : HH.plan 83 33 = (List.range' 0 15).map fun i => (i, []) := by kernel_rfl
theorem pl_85_1 : HH.plan 85 1 = [(0, []), (3, []), (1, [3]), (2, []), (4, []), (5, []), (6, []), (7, [])] := by kernel_rfl
theorem pl_87_10 : HH.plan 87 10 = (List.range' 0 10).map fun i => (i, []) := by kernel_rfl
theorem pl_87_12 : HH.plan 87 12 = (List.range' 0 11).map fun i => (i, []) := by kernel_rfl
theorem pl_88_1 : HH.plan 88 1 = (List.range' 0 6).map fun i => (i, []) := by kernel_rfl
theorem pl_89_3 : HH.plan 89 3 = (List.range' 0 9).map fun i => (i, []) := by kernel_rfl
theorem pl_95_1 : HH.plan 95 1 = (List.range' 0 10).map fun i => (i, []) := by kernel_rfl
theorem pl_98_6 : HH.plan 98 6 = (List.range' 0 40).map fun i => (i, []) := by kernel_rfl
theorem pl_98_7 : HH.plan 98 7 = (List.range' 0 10).map fun i => (i, []) := by kernel_rfl
theorem pl_98_10 : HH.plan 98 10 = (List.range' 0 16).map fun i => (i, []) := by kernel_rfl
theorem pl_98_16 : HH.plan 98 16 = (List.range' 0 6).map fun i => (i, []) := by kernel_rfl
theorem pl_98_17 : HH.plan 98 17 = [(0, []), (1, []), (2, []), (4, []), (7, []), (11, []), (12, []), (13, []), (14, []), (15, []), (16, []), (17, []), (18, []), (19, []), (20, []), (22, []), (23, []), (24, []), (26, []), (27, []), (28, []), (3, [1, 12, 15, 17, 24, 28]), (5, [1, 12, 15, 17, 24, 28]), (6, []), (8, [1, 12, 15, 17, 24, 28]), (9, []), (10, []), (21, []), (25, []), (29, []), (30, [])] := by kernel_rfl
theorem pl_98_18 : HH.plan 98 18 = [(0, []), (2, []), (5, []), (8, []), (9, []), (10, []), (11, []), (12, []), (13, []), (14, []), (15, []), (16, []), (17, []), (18, []), (19, []), (1, [10, 13, 16]), (3, [10, 13, 16]), (4, []), (6, [10, 13, 16]), (7, []), (20, []), (21, [])] := by kernel_rfl
theorem pl_98_24 : HH.plan 98 24 = (List.range' 0 12).map fun i => (i, []) := by kernel_rfl
theorem pl_99_14 : HH.plan 99 14 = (List.range' 0 5).map fun i => (i, []) := by kernel_rfl
theorem sz0 : szT Try.prog 0 = some 1 := by kernel_rfl
theorem ag0 : aggT Try.prog 0 = some false := by kernel_rfl
theorem by0 : bytesT Try.prog 0 = some 0 := by kernel_rfl
theorem sz1 : szT Try.prog 1 = some 1 := by kernel_rfl
theorem ag1 : aggT Try.prog 1 = some false := by kernel_rfl
theorem by1 : bytesT Try.prog 1 = some 8 := by kernel_rfl
theorem zc1 : (zeroT Try.prog 1).bind V.cells = some [.fnil] := by kernel_rfl
theorem sz2 : szT Try.prog 2 = some 1 := by kernel_rfl
theorem ag2 : aggT Try.prog 2 = some false := by kernel_rfl
theorem by2 : bytesT Try.prog 2 = some 8 := by kernel_rfl
theorem zc2 : (zeroT Try.prog 2).bind V.cells = some [.int .i64 0] := by kernel_rfl
theorem sz3 : szT Try.prog 3 = some 1 := by kernel_rfl
theorem ag3 : aggT Try.prog 3 = some false := by kernel_rfl
theorem by3 : bytesT Try.prog 3 = some 8 := by kernel_rfl
theorem zc3 : (zeroT Try.prog 3).bind V.cells = some [.int .i64 0] := by kernel_rfl
theorem sz4 : szT Try.prog 4 = some 1 := by kernel_rfl
theorem ag4 : aggT Try.prog 4 = some false := by kernel_rfl
theorem by4 : bytesT Try.prog 4 = some 1 := by kernel_rfl
theorem zc4 : (zeroT Try.prog 4).bind V.cells = some [.bool false] := by kernel_rfl
theorem sz5 : szT Try.prog 5 = some 1 := by kernel_rfl
theorem ag5 : aggT Try.prog 5 = some false := by kernel_rfl
theorem by5 : bytesT Try.prog 5 = some 1 := by kernel_rfl
theorem zc5 : (zeroT Try.prog 5).bind V.cells = some [.int .u8 0] := by kernel_rfl
theorem sz6 : szT Try.prog 6 = some 1 := by kernel_rfl
theorem ag6 : aggT Try.prog 6 = some false := by kernel_rfl
theorem by6 : bytesT Try.prog 6 = some 1 := by kernel_rfl
theorem zc6 : (zeroT Try.prog 6).bind V.cells = some [.int .u8 0] := by kernel_rfl
theorem sz7 : szT Try.prog 7 = some 4 := by kernel_rfl
theorem ag7 : aggT Try.prog 7 = some true := by kernel_rfl
theorem by7 : bytesT Try.prog 7 = some 24 := by kernel_rfl
theorem zc7 : (zeroT Try.prog 7).bind V.cells = some [.int .i64 0, .int .i64 0, .bool false, .int .u8 0] := by kernel_rfl
theorem sz8 : szT Try.prog 8 = some 4 := by kernel_rfl
theorem ag8 : aggT Try.prog 8 = some true := by kernel_rfl
theorem by8 : bytesT Try.prog 8 = some 24 := by kernel_rfl
theorem zc8 : (zeroT Try.prog 8).bind V.cells = some [.int .i64 0, .int .i64 0, .bool false, .int .u8 0] := by kernel_rfl
theorem sz9 : szT Try.prog 9 = some 1 := by kernel_rfl
theorem ag9 : aggT Try.prog 9 = some false := by kernel_rfl
theorem by9 : bytesT Try.prog 9 = some 16 := by kernel_rfl
theorem zc9 : (zeroT Try.prog 9).bind V.cells = some [.str []] := by kernel_rfl
theorem sz10 : szT Try.prog 10 = some 1 := by kernel_rfl
theorem ag10 : aggT Try.prog 10 = some false := by kernel_rfl
theorem by10 : bytesT Try.prog 10 = some 16 := by kernel_rfl
theorem zc10 : (zeroT Try.prog 10).bind V.cells = some [.str []] := by kernel_rfl
theorem sz11 : szT Try.prog 11 = some 1 := by kernel_rfl
theorem ag11 : aggT Try.prog 11 = some false := by kernel_rfl
theorem by11 : bytesT Try.prog 11 = some 16 := by kernel_rfl
theorem zc11 : (zeroT Try.prog 11).bind V.cells = some [.str []] := by kernel_rfl
theorem sz12 : szT Try.prog 12 = some 1 := by kernel_rfl
theorem ag12 : aggT Try.prog 12 = some false := by kernel_rfl
theorem by12 : bytesT Try.prog 12 = some 8 := by kernel_rfl
theorem zc12 : (zeroT Try.prog 12).bind V.cells = some [.int .u64 0] := by kernel_rfl
theorem sz13 : szT Try.prog 13 = some 2 := by kernel_rfl
theorem ag13 : aggT Try.prog 13 = some true := by kernel_rfl
theorem by13 : bytesT Try.prog 13 = some 24 := by kernel_rfl
theorem zc13 : (zeroT Try.prog 13).bind V.cells = some [.str [], .int .u64 0] := by kernel_rfl
theorem sz14 : szT Try.prog 14 = some 2 := by kernel_rfl
theorem ag14 : aggT Try.prog 14 = some true := by kernel_rfl
theorem by14 : bytesT Try.prog 14 = some 24 := by kernel_rfl
theorem zc14 : (zeroT Try.prog 14).bind V.cells = some [.str [], .int .u64 0] := by kernel_rfl
theorem sz15 : szT Try.prog 15 = some 1 := by kernel_rfl
theorem ag15 : aggT Try.prog 15 = some false := by kernel_rfl
theorem by15 : bytesT Try.prog 15 = some 8 := by kernel_rfl
theorem zc15 : (zeroT Try.prog 15).bind V.cells = some [.pnil] := by kernel_rfl
theorem sz16 : szT Try.prog 16 = some 1 := by kernel_rfl
theorem ag16 : aggT Try.prog 16 = some false := by kernel_rfl
theorem by16 : bytesT Try.prog 16 = some 8 := by kernel_rfl
theorem zc16 : (zeroT Try.prog 16).bind V.cells = some [.pnil] := by kernel_rfl
theorem sz17 : szT Try.prog 17 = some 1 := by kernel_rfl
theorem ag17 : aggT Try.prog 17 = some false := by kernel_rfl
theorem by17 : bytesT Try.prog 17 = some 8 := by kernel_rfl
theorem zc17 : (zeroT Try.prog 17).bind V.cells = some [.pnil] := by kernel_rfl
theorem sz18 : szT Try.prog 18 = some 1 := by kernel_rfl
theorem ag18 : aggT Try.prog 18 = some true := by kernel_rfl
theorem by18 : bytesT Try.prog 18 = some 8 := by kernel_rfl
theorem zc18 : (zeroT Try.prog 18).bind V.cells = some [.pnil] := by kernel_rfl
theorem sz19 : szT Try.prog 19 = some 1 := by kernel_rfl
theorem ag19 : aggT Try.prog 19 = some true := by kernel_rfl
theorem by19 : bytesT Try.prog 19 = some 8 := by kernel_rfl
theorem zc19 : (zeroT Try.prog 19).bind V.cells = some [.pnil] := by kernel_rfl
theorem sz20 : szT Try.prog 20 = some 1 := by kernel_rfl
theorem ag20 : aggT Try.prog 20 = some false := by kernel_rfl
theorem by20 : bytesT Try.prog 20 = some 16 := by kernel_rfl
theorem sz21 : szT Try.prog 21 = some 1 := by kernel_rfl
theorem ag21 : aggT Try.prog 21 = some false := by kernel_rfl
theorem by21 : bytesT Try.prog 21 = some 4 := by kernel_rfl
theorem zc21 : (zeroT Try.prog 21).bind V.cells = some [.int .i32 0] := by kernel_rfl
theorem sz22 : szT Try.prog 22 = some 1 := by kernel_rfl
theorem ag22 : aggT Try.prog 22 = some false := by kernel_rfl
theorem by22 : bytesT Try.prog 22 = some 24 := by kernel_rfl
theorem zc22 : (zeroT Try.prog 22).bind V.cells = some [.snil] := by kernel_rfl
theorem sz23 : szT Try.prog 23 = some 1 := by kernel_rfl
theorem ag23 : aggT Try.prog 23 = some false := by kernel_rfl
theorem by23 : bytesT Try.prog 23 = some 8 := by kernel_rfl
theorem zc23 : (zeroT Try.prog 23).bind V.cells = some [.fnil] := by kernel_rfl
theorem sz24 : szT Try.prog 24 = some 1 := by kernel_rfl
theorem ag24 : aggT Try.prog 24 = some false := by kernel_rfl
theorem by24 : bytesT Try.prog 24 = some 8 := by kernel_rfl
theorem zc24 : (zeroT Try.prog 24).bind V.cells = some [.fnil] := by kernel_rfl
theorem sz25 : szT Try.prog 25 = some 1 := by kernel_rfl
theorem ag25 : aggT Try.prog 25 = some false := by kernel_rfl
theorem by25 : bytesT Try.prog 25 = some 24 := by kernel_rfl
theorem zc25 : (zeroT Try.prog 25).bind V.cells = some [.snil] := by kernel_rfl
theorem sz26 : szT Try.prog 26 = some 1 := by kernel_rfl
theorem ag26 : aggT Try.prog 26 = some false := by kernel_rfl
theorem by26 : bytesT Try.prog 26 = some 8 := by kernel_rfl
theorem zc26 : (zeroT Try.prog 26).bind V.cells = some [.fnil] := by kernel_rfl
theorem sz27 : szT Try.prog 27 = some 1 := by kernel_rfl
theorem ag27 : aggT Try.prog 27 = some false := by kernel_rfl
theorem by27 : bytesT Try.prog 27 = some 8 := by kernel_rfl
theorem zc27 : (zeroT Try.prog 27).bind V.cells = some [.fnil] := by kernel_rfl
theorem sz28 : szT Try.prog 28 = some 1 := by kernel_rfl
theorem ag28 : aggT Try.prog 28 = some false := by kernel_rfl
theorem by28 : bytesT Try.prog 28 = some 8 := by kernel_rfl
theorem zc28 : (zeroT Try.prog 28).bind V.cells = some [.fnil] := by kernel_rfl
theorem sz29 : szT Try.prog 29 = some 1 := by kernel_rfl
theorem ag29 : aggT Try.prog 29 = some false := by kernel_rfl
theorem by29 : bytesT Try.prog 29 = some 8 := by kernel_rfl
theorem zc29 : (zeroT Try.prog 29).bind V.cells = some [.fnil] := by kernel_rfl
theorem sz30 : szT Try.prog 30 = some 3 := by kernel_rfl
theorem ag30 : aggT Try.prog 30 = some true := by kernel_rfl
theorem by30 : bytesT Try.prog 30 = some 24 := by kernel_rfl
theorem zc30 : (zeroT Try.prog 30).bind V.cells = some [.int .i64 0, .int .i64 0, .int .i64 0] := by kernel_rfl
theorem sz31 : szT Try.prog 31 = some 3 := by kernel_rfl
theorem ag31 : aggT Try.prog 31 = some true := by kernel_rfl
theorem by31 : bytesT Try.prog 31 = some 24 := by kernel_rfl
theorem zc31 : (zeroT Try.prog 31).bind V.cells = some [.int .i64 0, .int .i64 0, .int .i64 0] := by kernel_rfl
theorem sz32 : szT Try.prog 32 = some 3 := by kernel_rfl
theorem ag32 : aggT Try.prog 32 = some true := by kernel_rfl
theorem by32 : bytesT Try.prog 32 = some 24 := by kernel_rfl
theorem zc32 : (zeroT Try.prog 32).bind V.cells = some [.int .i64 0, .int .i64 0, .int .i64 0] := by kernel_rfl
theorem sz33 : szT Try.prog 33 = some 1 := by kernel_rfl
theorem ag33 : aggT Try.prog 33 = some false := by kernel_rfl
theorem by33 : bytesT Try.prog 33 = some 24 := by kernel_rfl
theorem zc33 : (zeroT Try.prog 33).bind V.cells = some [.snil] := by kernel_rfl
theorem sz34 : szT Try.prog 34 = some 1 := by kernel_rfl
theorem ag34 : aggT Try.prog 34 = some false := by kernel_rfl
theorem by34 : bytesT Try.prog 34 = some 8 := by kernel_rfl
theorem zc34 : (zeroT Try.prog 34).bind V.cells = some [.fnil] := by kernel_rfl
theorem sz35 : szT Try.prog 35 = some 1 := by kernel_rfl
theorem ag35 : aggT Try.prog 35 = some false := by kernel_rfl
theorem by35 : bytesT Try.prog 35 = some 8 := by kernel_rfl
theorem zc35 : (zeroT Try.prog 35).bind V.cells = some [.fnil] := by kernel_rfl
theorem sz36 : szT Try.prog 36 = some 32 := by kernel_rfl
theorem ag36 : aggT Try.prog 36 = some true := by kernel_rfl
theorem by36 : bytesT Try.prog 36 = some 32 := by kernel_rfl
theorem zc36 : (zeroT Try.prog 36).bind V.cells = some [.int .u8 0, .int .u8 0, .int .u8 0, .int .u8 0, .int .u8 0, .int .u8 0, .int .u8 0, .int .u8 0, .int .u8 0, .int .u8 0, .int .u8 0, .int .u8 0, .int .u8 0, .int .u8 0, .int .u8 0, .int .u8 0, .int .u8 0, .int .u8 0, .int .u8 0, .int .u8 0, .int .u8 0, .int .u8 0, .int .u8 0, .int .u8 0, .int .u8 0, .int .u8 0, .int .u8 0, .int .u8 0, .int .u8 0, .int .u8 0, .int .u8 0, .int .u8 0] := by kernel_rfl
theorem sz37 : szT Try.prog 37 = some 32 := by kernel_rfl
theorem ag37 : aggT Try.prog 37 = some true := by kernel_rfl
theorem by37 : bytesT Try.prog 37 = some 32 := by kernel_rfl
theorem zc37 : (zeroT Try.prog 37).bind V.cells = some [.int .u8 0, .int .u8 0, .int .u8 0, .int .u8 0, .int .u8 0, .int .u8 0, .int .u8 0, .int .u8 0, .int .u8 0, .int .u8 0, .int .u8 0, .int .u8 0, .int .u8 0, .int .u8 0, .int .u8 0, .int .u8 0, .int .u8 0, .int .u8 0, .int .u8 0, .int .u8 0, .int .u8 0, .int .u8 0, .int .u8 0, .int .u8 0, .int .u8 0, .int .u8 0, .int .u8 0, .int .u8 0, .int .u8 0, .int .u8 0, .int .u8 0, .int .u8 0] := by kernel_rfl
theorem sz38 : szT Try.prog 38 = some 1 := by kernel_rfl
theorem ag38 : aggT Try.prog 38 = some false := by kernel_rfl
theorem by38 : bytesT Try.prog 38 = some 24 := by kernel_rfl
theorem zc38 : (zeroT Try.prog 38).bind V.cells = some [.snil] := by kernel_rfl
theorem sz39 : szT Try.prog 39 = some 1 := by kernel_rfl
theorem ag39 : aggT Try.prog 39 = some false := by kernel_rfl
theorem by39 : bytesT Try.prog 39 = some 24 := by kernel_rfl
theorem zc39 : (zeroT Try.prog 39).bind V.cells = some [.snil] := by kernel_rfl
theorem sz40 : szT Try.prog 40 = some 41 := by kernel_rfl
theorem ag40 : aggT Try.prog 40 = some true := by kernel_rfl
theorem by40 : bytesT Try.prog 40 = some 152 := by kernel_rfl
theorem zc40 : (zeroT Try.prog 40).bind V.cells = some [.int .i64 0, .int .i64 0, .int .i64 0, .int .i64 0, .int .i64 0, .int .i64 0, .int .u8 0, .int .u8 0, .int .u8 0, .int .u8 0, .int .u8 0, .int .u8 0, .int .u8 0, .int .u8 0, .int .u8 0, .int .u8 0, .int .u8 0, .int .u8 0, .int .u8 0, .int .u8 0, .int .u8 0, .int .u8 0, .int .u8 0, .int .u8 0, .int .u8 0, .int .u8 0, .int .u8 0, .int .u8 0, .int .u8 0, .int .u8 0, .int .u8 0, .int .u8 0, .int .u8 0, .int .u8 0, .int .u8 0, .int .u8 0, .int .u8 0, .int .u8 0, .snil, .snil, .snil] := by kernel_rfl
theorem sz41 : szT Try.prog 41 = some 41 := by kernel_rfl
theorem ag41 : aggT Try.prog 41 = some true := by kernel_rfl
theorem by41 : bytesT Try.prog 41 = some 152 := by kernel_rfl
theorem zc41 : (zeroT Try.prog 41).bind V.cells = some [.int .i64 0, .int .i64 0, .int .i64 0, .int .i64 0, .int .i64 0, .int .i64 0, .int .u8 0, .int .u8 0, .int .u8 0, .int .u8 0, .int .u8 0, .int .u8 0, .int .u8 0, .int .u8 0, .int .u8 0, .int .u8 0, .int .u8 0, .int .u8 0, .int .u8 0, .int .u8 0, .int .u8 0, .int .u8 0, .int .u8 0, .int .u8 0, .int .u8 0, .int .u8 0, .int .u8 0, .int .u8 0, .int .u8 0, .int .u8 0, .int .u8 0, .int .u8 0, .int .u8 0, .int .u8 0, .int .u8 0, .int .u8 0, .int .u8 0, .int .u8 0, .snil, .snil, .snil] := by kernel_rfl
theorem sz42 : szT Try.prog 42 = some 1 := by kernel_rfl
theorem ag42 : aggT Try.prog 42 = some false := by kernel_rfl
theorem by42 : bytesT Try.prog 42 = some 8 := by kernel_rfl
theorem zc42 : (zeroT Try.prog 42).bind V.cells = some [.int .i64 0] := by kernel_rfl
theorem sz43 : szT Try.prog 43 = some 1 := by kernel_rfl
theorem ag43 : aggT Try.prog 43 = some false := by kernel_rfl
theorem by43 : bytesT Try.prog 43 = some 0 := by kernel_rfl
theorem sz44 : szT Try.prog 44 = some 1 := by kernel_rfl
theorem ag44 : aggT Try.prog 44 = some false := by kernel_rfl
theorem by44 : bytesT Try.prog 44 = some 8 := by kernel_rfl
theorem zc44 : (zeroT Try.prog 44).bind V.cells = some [.fnil] := by kernel_rfl
theorem sz45 : szT Try.prog 45 = some 1 := by kernel_rfl
theorem ag45 : aggT Try.prog 45 = some false := by kernel_rfl
theorem by45 : bytesT Try.prog 45 = some 0 := by kernel_rfl
theorem sz46 : szT Try.prog 46 = some 1 := by kernel_rfl
theorem ag46 : aggT Try.prog 46 = some false := by kernel_rfl
theorem by46 : bytesT Try.prog 46 = some 8 := by kernel_rfl
theorem zc46 : (zeroT Try.prog 46).bind V.cells = some [.fnil] := by kernel_rfl
theorem sz47 : szT Try.prog 47 = some 1 := by kernel_rfl
theorem ag47 : aggT Try.prog 47 = some false := by kernel_rfl
theorem by47 : bytesT Try.prog 47 = some 8 := by kernel_rfl
theorem zc47 : (zeroT Try.prog 47).bind V.cells = some [.fnil] := by kernel_rfl
theorem sz48 : szT Try.prog 48 = some 1 := by kernel_rfl
theorem ag48 : aggT Try.prog 48 = some false := by kernel_rfl
theorem by48 : bytesT Try.prog 48 = some 24 := by kernel_rfl
theorem zc48 : (zeroT Try.prog 48).bind V.cells = some [.snil] := by kernel_rfl
theorem sz49 : szT Try.prog 49 = some 1 := by kernel_rfl
theorem ag49 : aggT Try.prog 49 = some false := by kernel_rfl
theorem by49 : bytesT Try.prog 49 = some 8 := by kernel_rfl
theorem zc49 : (zeroT Try.prog 49).bind V.cells = some [.mnil] := by kernel_rfl
theorem sz50 : szT Try.prog 50 = some 1 := by kernel_rfl
theorem ag50 : aggT Try.prog 50 = some false := by kernel_rfl
theorem by50 : bytesT Try.prog 50 = some 8 := by kernel_rfl
theorem zc50 : (zeroT Try.prog 50).bind V.cells = some [.fnil] := by kernel_rfl
theorem sz51 : szT Try.prog 51 = some 1 := by kernel_rfl
theorem ag51 : aggT Try.prog 51 = some false := by kernel_rfl
theorem by51 : bytesT Try.prog 51 = some 8 := by kernel_rfl
theorem zc51 : (zeroT Try.prog 51).bind V.cells = some [.fnil] := by kernel_rfl
theorem sz52 : szT Try.prog 52 = some 1 := by kernel_rfl
theorem ag52 : aggT Try.prog 52 = some false := by kernel_rfl
theorem by52 : bytesT Try.prog 52 = some 8 := by kernel_rfl
theorem zc52 : (zeroT Try.prog 52).bind V.cells = some [.fnil] := by kernel_rfl
theorem sz53 : szT Try.prog 53 = some 34 := by kernel_rfl
theorem ag53 : aggT Try.prog 53 = some true := by kernel_rfl
theorem by53 : bytesT Try.prog 53 = some 48 := by kernel_rfl
theorem zc53 : (zeroT Try.prog 53).bind V.cells = some [.int .i64 0, .int .i64 0, .int .u8 0, .int .u8 0, .int .u8 0, .int .u8 0, .int .u8 0, .int .u8 0, .int .u8 0, .int .u8 0, .int .u8 0, .int .u8 0, .int .u8 0, .int .u8 0, .int .u8 0, .int .u8 0, .int .u8 0, .int .u8 0, .int .u8 0, .int .u8 0, .int .u8 0, .int .u8 0, .int .u8 0, .int .u8 0, .int .u8 0, .int .u8 0, .int .u8 0, .int .u8 0, .int .u8 0, .int .u8 0, .int .u8 0, .int .u8 0, .int .u8 0, .int .u8 0] := by kernel_rfl
theorem sz54 : szT Try.prog 54 = some 34 := by kernel_rfl
theorem ag54 : aggT Try.prog 54 = some true := by kernel_rfl
theorem by54 : bytesT Try.prog 54 = some 48 := by kernel_rfl
theorem zc54 : (zeroT Try.prog 54).bind V.cells = some [.int .i64 0, .int .i64 0, .int .u8 0, .int .u8 0, .int .u8 0, .int .u8 0, .int .u8 0, .int .u8 0, .int .u8 0, .int .u8 0, .int .u8 0, .int .u8 0, .int .u8 0, .int .u8 0, .int .u8 0, .int .u8 0, .int .u8 0, .int .u8 0, .int .u8 0, .int .u8 0, .int .u8 0, .int .u8 0, .int .u8 0, .int .u8 0, .int .u8 0, .int .u8 0, .int .u8 0, .int .u8 0, .int .u8 0, .int .u8 0, .int .u8 0, .int .u8 0, .int .u8 0, .int .u8 0] := by kernel_rfl
theorem sz55 : szT Try.prog 55 = some 1 := by kernel_rfl
theorem ag55 : aggT Try.prog 55 = some false := by kernel_rfl
theorem by55 : bytesT Try.prog 55 = some 8 := by kernel_rfl
theorem zc55 : (zeroT Try.prog 55).bind V.cells = some [.fnil] := by kernel_rfl
theorem sz56 : szT Try.prog 56 = some 1 := by kernel_rfl
theorem ag56 : aggT Try.prog 56 = some false := by kernel_rfl
theorem by56 : bytesT Try.prog 56 = some 8 := by kernel_rfl
theorem zc56 : (zeroT Try.prog 56).bind V.cells = some [.fnil] := by kernel_rfl
theorem sz57 : szT Try.prog 57 = some 1 := by kernel_rfl
theorem ag57 : aggT Try.prog 57 = some false := by kernel_rfl
theorem by57 : bytesT Try.prog 57 = some 8 := by kernel_rfl
theorem zc57 : (zeroT Try.prog 57).bind V.cells = some [.fnil] := by kernel_rfl
theorem sz58 : szT Try.prog 58 = some 1 := by kernel_rfl
theorem ag58 : aggT Try.prog 58 = some false := by kernel_rfl
theorem by58 : bytesT Try.prog 58 = some 8 := by kernel_rfl
theorem zc58 : (zeroT Try.prog 58).bind V.cells = some [.fnil] := by kernel_rfl
theorem sz59 : szT Try.prog 59 = some 1 := by kernel_rfl
theorem ag59 : aggT Try.prog 59 = some false := by kernel_rfl
theorem by59 : bytesT Try.prog 59 = some 8 := by kernel_rfl
theorem zc59 : (zeroT Try.prog 59).bind V.cells = some [.fnil] := by kernel_rfl
theorem sz60 : szT Try.prog 60 = some 1 := by kernel_rfl
theorem ag60 : aggT Try.prog 60 = some false := by kernel_rfl
theorem by60 : bytesT Try.prog 60 = some 0 := by kernel_rfl
theorem sz61 : szT Try.prog 61 = some 1 := by kernel_rfl
theorem ag61 : aggT Try.prog 61 = some false := by kernel_rfl
theorem by61 : bytesT Try.prog 61 = some 8 := by kernel_rfl
theorem zc61 : (zeroT Try.prog 61).bind V.cells = some [.fnil] := by kernel_rfl
theorem sz62 : szT Try.prog 62 = some 1 := by kernel_rfl
theorem ag62 : aggT Try.prog 62 = some false := by kernel_rfl
theorem by62 : bytesT Try.prog 62 = some 0 := by kernel_rfl
theorem sz63 : szT Try.prog 63 = some 1 := by kernel_rfl
theorem ag63 : aggT Try.prog 63 = some false := by kernel_rfl
theorem by63 : bytesT Try.prog 63 = some 8 := by kernel_rfl
theorem zc63 : (zeroT Try.prog 63).bind V.cells = some [.fnil] := by kernel_rfl
theorem sz64 : szT Try.prog 64 = some 1 := by kernel_rfl
theorem ag64 : aggT Try.prog 64 = some false := by kernel_rfl
theorem by64 : bytesT Try.prog 64 = some 8 := by kernel_rfl
theorem zc64 : (zeroT Try.prog 64).bind V.cells = some [.fnil] := by kernel_rfl
theorem sz65 : szT Try.prog 65 = some 1 := by kernel_rfl
theorem ag65 : aggT Try.prog 65 = some false := by kernel_rfl
theorem by65 : bytesT Try.prog 65 = some 8 := by kernel_rfl
theorem zc65 : (zeroT Try.prog 65).bind V.cells = some [.fnil] := by kernel_rfl
theorem sz66 : szT Try.prog 66 = some 1 := by kernel_rfl
theorem ag66 : aggT Try.prog 66 = some false := by kernel_rfl
theorem by66 : bytesT Try.prog 66 = some 8 := by kernel_rfl
theorem zc66 : (zeroT Try.prog 66).bind V.cells = some [.fnil] := by kernel_rfl
theorem sz67 : szT Try.prog 67 = some 1 := by kernel_rfl
theorem ag67 : aggT Try.prog 67 = some false := by kernel_rfl
theorem by67 : bytesT Try.prog 67 = some 8 := by kernel_rfl
theorem zc67 : (zeroT Try.prog 67).bind V.cells = some [.fnil] := by kernel_rfl
theorem sz68 : szT Try.prog 68 = some 1 := by kernel_rfl
theorem ag68 : aggT Try.prog 68 = some false := by kernel_rfl
theorem by68 : bytesT Try.prog 68 = some 8 := by kernel_rfl
theorem zc68 : (zeroT Try.prog 68).bind V.cells = some [.pnil] := by kernel_rfl
theorem sz69 : szT Try.prog 69 = some 1 := by kernel_rfl
theorem ag69 : aggT Try.prog 69 = some false := by kernel_rfl
theorem by69 : bytesT Try.prog 69 = some 24 := by kernel_rfl
theorem zc69 : (zeroT Try.prog 69).bind V.cells = some [.snil] := by kernel_rfl
theorem sz70 : szT Try.prog 70 = some 1 := by kernel_rfl
theorem ag70 : aggT Try.prog 70 = some false := by kernel_rfl
theorem by70 : bytesT Try.prog 70 = some 8 := by kernel_rfl
theorem zc70 : (zeroT Try.prog 70).bind V.cells = some [.fnil] := by kernel_rfl
theorem sz71 : szT Try.prog 71 = some 1 := by kernel_rfl
theorem ag71 : aggT Try.prog 71 = some false := by kernel_rfl
theorem by71 : bytesT Try.prog 71 = some 8 := by kernel_rfl
theorem zc71 : (zeroT Try.prog 71).bind V.cells = some [.fnil] := by kernel_rfl
theorem sz72 : szT Try.prog 72 = some 1 := by kernel_rfl
theorem ag72 : aggT Try.prog 72 = some false := by kernel_rfl
theorem by72 : bytesT Try.prog 72 = some 0 := by kernel_rfl
theorem sz73 : szT Try.prog 73 = some 1 := by kernel_rfl
theorem ag73 : aggT Try.prog 73 = some false := by kernel_rfl
theorem by73 : bytesT Try.prog 73 = some 8 := by kernel_rfl
theorem zc73 : (zeroT Try.prog 73).bind V.cells = some [.fnil] := by kernel_rfl
theorem sz74 : szT Try.prog 74 = some 1 := by kernel_rfl
theorem ag74 : aggT Try.prog 74 = some false := by kernel_rfl
theorem by74 : bytesT Try.prog 74 = some 0 := by kernel_rfl
theorem sz75 : szT Try.prog 75 = some 1 := by kernel_rfl
theorem ag75 : aggT Try.prog 75 = some false := by kernel_rfl
theorem by75 : bytesT Try.prog 75 = some 8 := by kernel_rfl
theorem zc75 : (zeroT Try.prog 75).bind V.cells = some [.fnil] := by kernel_rfl
theorem sz76 : szT Try.prog 76 = some 1 := by kernel_rfl
theorem ag76 : aggT Try.prog 76 = some false := by kernel_rfl
theorem by76 : bytesT Try.prog 76 = some 0 := by kernel_rfl
theorem sz77 : szT Try.prog 77 = some 1 := by kernel_rfl
theorem ag77 : aggT Try.prog 77 = some false := by kernel_rfl
theorem by77 : bytesT Try.prog 77 = some 8 := by kernel_rfl
theorem zc77 : (zeroT Try.prog 77).bind V.cells = some [.fnil] := by kernel_rfl
theorem sz78 : szT Try.prog 78 = some 1 := by kernel_rfl
theorem ag78 : aggT Try.prog 78 = some false := by kernel_rfl
theorem by78 : bytesT Try.prog 78 = some 8 := by kernel_rfl
theorem zc78 : (zeroT Try.prog 78).bind V.cells = some [.fnil] := by kernel_rfl
theorem sz79 : szT Try.prog 79 = some 1 := by kernel_rfl
theorem ag79 : aggT Try.prog 79 = some false := by kernel_rfl
theorem by79 : bytesT Try.prog 79 = some 24 := by kernel_rfl
theorem zc79 : (zeroT Try.prog 79).bind V.cells = some [.snil] := by kernel_rfl
theorem sz80 : szT Try.prog 80 = some 1 := by kernel_rfl
theorem ag80 : aggT Try.prog 80 = some true := by kernel_rfl
theorem by80 : bytesT Try.prog 80 = some 24 := by kernel_rfl
theorem zc80 : (zeroT Try.prog 80).bind V.cells = some [.snil] := by kernel_rfl
theorem sz81 : szT Try.prog 81 = some 1 := by kernel_rfl
theorem ag81 : aggT Try.prog 81 = some true := by kernel_rfl
theorem by81 : bytesT Try.prog 81 = some 24 := by kernel_rfl
theorem zc81 : (zeroT Try.prog 81).bind V.cells = some [.snil] := by kernel_rfl
theorem sz82 : szT Try.prog 82 = some 1 := by kernel_rfl
theorem ag82 : aggT Try.prog 82 = some false := by kernel_rfl
theorem by82 : bytesT Try.prog 82 = some 24 := by kernel_rfl
theorem zc82 : (zeroT Try.prog 82).bind V.cells = some [.snil] := by kernel_rfl
theorem sz83 : szT Try.prog 83 = some 1 := by kernel_rfl
theorem ag83 : aggT Try.prog 83 = some false := by kernel_rfl
theorem by83 : bytesT Try.prog 83 = some 8 := by kernel_rfl
theorem zc83 : (zeroT Try.prog 83).bind V.cells = some [.fnil] := by kernel_rfl
theorem sz84 : szT Try.prog 84 = some 2 := by kernel_rfl
theorem ag84 : aggT Try.prog 84 = some true := by kernel_rfl
theorem by84 : bytesT Try.prog 84 = some 16 := by kernel_rfl
theorem zc84 : (zeroT Try.prog 84).bind V.cells = some [.bool false, .int .i64 0] := by kernel_rfl
theorem sz85 : szT Try.prog 85 = some 2 := by kernel_rfl
theorem ag85 : aggT Try.prog 85 = some true := by kernel_rfl
theorem by85 : bytesT Try.prog 85 = some 16 := by kernel_rfl
theorem zc85 : (zeroT Try.prog 85).bind V.cells = some [.bool false, .int .i64 0] := by kernel_rfl
theorem sz86 : szT Try.prog 86 = some 5 := by kernel_rfl
theorem ag86 : aggT Try.prog 86 = some true := by kernel_rfl
theorem by86 : bytesT Try.prog 86 = some 56 := by kernel_rfl
theorem zc86 : (zeroT Try.prog 86).bind V.cells = some [.bool false, .int .i64 0, .bool false, .int .i64 0, .snil] := by kernel_rfl
theorem sz87 : szT Try.prog 87 = some 5 := by kernel_rfl
theorem ag87 : aggT Try.prog 87 = some true := by kernel_rfl
theorem by87 : bytesT Try.prog 87 = some 56 := by kernel_rfl
theorem zc87 : (zeroT Try.prog 87).bind V.cells = some [.bool false, .int .i64 0, .bool false, .int .i64 0, .snil] := by kernel_rfl
theorem sz88 : szT Try.prog 88 = some 1 := by kernel_rfl
theorem ag88 : aggT Try.prog 88 = some false := by kernel_rfl
theorem by88 : bytesT Try.prog 88 = some 8 := by kernel_rfl
theorem zc88 : (zeroT Try.prog 88).bind V.cells = some [.fnil] := by kernel_rfl
theorem sz89 : szT Try.prog 89 = some 1 := by kernel_rfl
theorem ag89 : aggT Try.prog 89 = some false := by kernel_rfl
theorem by89 : bytesT Try.prog 89 = some 0 := by kernel_rfl
theorem sz90 : szT Try.prog 90 = some 1 := by kernel_rfl
theorem ag90 : aggT Try.prog 90 = some false := by kernel_rfl
theorem by90 : bytesT Try.prog 90 = some 8 := by kernel_rfl
theorem zc90 : (zeroT Try.prog 90).bind V.cells = some [.fnil] := by kernel_rfl
theorem sz91 : szT Try.prog 91 = some 1 := by kernel_rfl
theorem ag91 : aggT Try.prog 91 = some false := by kernel_rfl
theorem by91 : bytesT Try.prog 91 = some 8 := by kernel_rfl
theorem zc91 : (zeroT Try.prog 91).bind V.cells = some [.fnil] := by kernel_rfl
theorem sz92 : szT Try.prog 92 = some 1 := by kernel_rfl
theorem ag92 : aggT Try.prog 92 = some false := by kernel_rfl
theorem by92 : bytesT Try.prog 92 = some 8 := by kernel_rfl
theorem zc92 : (zeroT Try.prog 92).bind V.cells = some [.fnil] := by kernel_rfl
theorem sz93 : szT Try.prog 93 = some 1 := by kernel_rfl
theorem ag93 : aggT Try.prog 93 = some false := by kernel_rfl
theorem by93 : bytesT Try.prog 93 = some 24 := by kernel_rfl
theorem zc93 : (zeroT Try.prog 93).bind V.cells = some [.snil] := by kernel_rfl
theorem sz94 : szT Try.prog 94 = some 1 := by kernel_rfl
theorem ag94 : aggT Try.prog 94 = some false := by kernel_rfl
theorem by94 : bytesT Try.prog 94 = some 24 := by kernel_rfl
theorem zc94 : (zeroT Try.prog 94).bind V.cells = some [.snil] := by kernel_rfl
theorem sz95 : szT Try.prog 95 = some 48 := by kernel_rfl
theorem ag95 : aggT Try.prog 95 = some true := by kernel_rfl
theorem by95 : bytesT Try.prog 95 = some 224 := by kernel_rfl
theorem zc95 : (zeroT Try.prog 95).bind V.cells = some [.int .i64 0, .int .i64 0, .bool false, .int .i64 0, .bool false, .int .i64 0, .int .i64 0, .int .i64 0, .int .i64 0, .int .i64 0, .int .i64 0, .int .i64 0, .int .u8 0, .int .u8 0, .int .u8 0, .int .u8 0, .int .u8 0, .int .u8 0, .int .u8 0, .int .u8 0, .int .u8 0, .int .u8 0, .int .u8 0, .int .u8 0, .int .u8 0, .int .u8 0, .int .u8 0, .int .u8 0, .int .u8 0, .int .u8 0, .int .u8 0, .int .u8 0, .int .u8 0, .int .u8 0, .int .u8 0, .int .u8 0, .int .u8 0, .int .u8 0, .int .u8 0, .int .u8 0, .int .u8 0, .int .u8 0, .int .u8 0, .int .u8 0, .snil, .snil, .snil, .snil] := by kernel_rfl
theorem sz96 : szT Try.prog 96 = some 48 := by kernel_rfl
theorem ag96 : aggT Try.prog 96 = some true := by kernel_rfl
theorem by96 : bytesT Try.prog 96 = some 224 := by kernel_rfl
theorem zc96 : (zeroT Try.prog 96).bind V.cells = some [.int .i64 0, .int .i64 0, .bool false, .int .i64 0, .bool false, .int .i64 0, .int .i64 0, .int .i64 0, .int .i64 0, .int .i64 0, .int .i64 0, .int .i64 0, .int .u8 0, .int .u8 0, .int .u8 0, .int .u8 0, .int .u8 0, .int .u8 0, .int .u8 0, .int .u8 0, .int .u8 0, .int .u8 0, .int .u8 0, .int .u8 0, .int .u8 0, .int .u8 0, .int .u8 0, .int .u8 0, .int .u8 0, .int .u8 0, .int .u8 0, .int .u8 0, .int .u8 0, .int .u8 0, .int .u8 0, .int .u8 0, .int .u8 0, .int .u8 0, .int .u8 0, .int .u8 0, .int .u8 0, .int .u8 0, .int .u8 0, .int .u8 0, .snil, .snil, .snil, .snil] := by kernel_rfl
theorem sz97 : szT Try.prog 97 = some 1 := by kernel_rfl
theorem ag97 : aggT Try.prog 97 = some false := by kernel_rfl
theorem by97 : bytesT Try.prog 97 = some 0 := by kernel_rfl
theorem sz98 : szT Try.prog 98 = some 1 := by kernel_rfl
theorem ag98 : aggT Try.prog 98 = some false := by kernel_rfl
theorem by98 : bytesT Try.prog 98 = some 8 := by kernel_rfl
theorem zc98 : (zeroT Try.prog 98).bind V.cells = some [.fnil] := by kernel_rfl
theorem sz99 : szT Try.prog 99 = some 5 := by kernel_rfl
theorem ag99 : aggT Try.prog 99 = some true := by kernel_rfl
theorem by99 : bytesT Try.prog 99 = some 40 := by kernel_rfl
theorem zc99 : (zeroT Try.prog 99).bind V.cells = some [.bool false, .bool false, .int .i64 0, .int .i64 0, .str []] := by kernel_rfl
theorem sz100 : szT Try.prog 100 = some 5 := by kernel_rfl
theorem ag100 : aggT Try.prog 100 = some true := by kernel_rfl
theorem by100 : bytesT Try.prog 100 = some 40 := by kernel_rfl
theorem zc100 : (zeroT Try.prog 100).bind V.cells = some [.bool false, .bool false, .int .i64 0, .int .i64 0, .str []] := by kernel_rfl
theorem sz101 : szT Try.prog 101 = some 1 := by kernel_rfl
theorem ag101 : aggT Try.prog 101 = some false := by kernel_rfl
theorem by101 : bytesT Try.prog 101 = some 8 := by kernel_rfl
theorem zc101 : (zeroT Try.prog 101).bind V.cells = some [.fnil] := by kernel_rfl
theorem sz102 : szT Try.prog 102 = some 1 := by kernel_rfl
theorem ag102 : aggT Try.prog 102 = some false := by kernel_rfl
theorem by102 : bytesT Try.prog 102 = some 8 := by kernel_rfl
theorem zc102 : (zeroT Try.prog 102).bind V.cells = some [.fnil] := by kernel_rfl
theorem sz103 : szT Try.prog 103 = some 1 := by kernel_rfl
theorem ag103 : aggT Try.prog 103 = some false := by kernel_rfl
theorem by103 : bytesT Try.prog 103 = some 0 := by kernel_rfl
theorem sz104 : szT Try.prog 104 = some 1 := by kernel_rfl
theorem ag104 : aggT Try.prog 104 = some false := by kernel_rfl
theorem by104 : bytesT Try.prog 104 = some 8 := by kernel_rfl
theorem zc104 : (zeroT Try.prog 104).bind V.cells = some [.fnil] := by kernel_rfl
theorem sz105 : szT Try.prog 105 = some 1 := by kernel_rfl
theorem ag105 : aggT Try.prog 105 = some false := by kernel_rfl
theorem by105 : bytesT Try.prog 105 = some 8 := by kernel_rfl
theorem zc105 : (zeroT Try.prog 105).bind V.cells = some [.fnil] := by kernel_rfl
theorem sz106 : szT Try.prog 106 = some 1 := by kernel_rfl
theorem ag106 : aggT Try.prog 106 = some false := by kernel_rfl
theorem by106 : bytesT Try.prog 106 = some 8 := by kernel_rfl
theorem zc106 : (zeroT Try.prog 106).bind V.cells = some [.fnil] := by kernel_rfl
theorem sz107 : szT Try.prog 107 = some 1 := by kernel_rfl
theorem ag107 : aggT Try.prog 107 = some false := by kernel_rfl
theorem by107 : bytesT Try.prog 107 = some 8 := by kernel_rfl
theorem zc107 : (zeroT Try.prog 107).bind V.cells = some [.pnil] := by kernel_rfl
theorem sz108 : szT Try.prog 108 = some 1 := by kernel_rfl
theorem ag108 : aggT Try.prog 108 = some false := by kernel_rfl
theorem by108 : bytesT Try.prog 108 = some 8 := by kernel_rfl
theorem zc108 : (zeroT Try.prog 108).bind V.cells = some [.fnil] := by kernel_rfl
theorem sz109 : szT Try.prog 109 = some 1 := by kernel_rfl
theorem ag109 : aggT Try.prog 109 = some false := by kernel_rfl
theorem by109 : bytesT Try.prog 109 = some 8 := by kernel_rfl
theorem zc109 : (zeroT Try.prog 109).bind V.cells = some [.fnil] := by kernel_rfl
theorem sz110 : szT Try.prog 110 = some 1 := by kernel_rfl
theorem ag110 : aggT Try.prog 110 = some false := by kernel_rfl
theorem by110 : bytesT Try.prog 110 = some 8 := by kernel_rfl
theorem zc110 : (zeroT Try.prog 110).bind V.cells = some [.fnil] := by kernel_rfl
theorem sz111 : szT Try.prog 111 = some 1 := by kernel_rfl
theorem ag111 : aggT Try.prog 111 = some false := by kernel_rfl
theorem by111 : bytesT Try.prog 111 = some 8 := by kernel_rfl
theorem zc111 : (zeroT Try.prog 111).bind V.cells = some [.fnil] := by kernel_rfl
theorem sz112 : szT Try.prog 112 = some 1 := by kernel_rfl
theorem ag112 : aggT Try.prog 112 = some false := by kernel_rfl
theorem by112 : bytesT Try.prog 112 = some 8 := by kernel_rfl
theorem zc112 : (zeroT Try.prog 112).bind V.cells = some [.fnil] := by kernel_rfl
theorem sz113 : szT Try.prog 113 = some 1 := by kernel_rfl
theorem ag113 : aggT Try.prog 113 = some false := by kernel_rfl
theorem by113 : bytesT Try.prog 113 = some 8 := by kernel_rfl
theorem zc113 : (zeroT Try.prog 113).bind V.cells = some [.pnil] := by kernel_rfl
theorem sz114 : szT Try.prog 114 = some 1 := by kernel_rfl
theorem ag114 : aggT Try.prog 114 = some false := by kernel_rfl
theorem by114 : bytesT Try.prog 114 = some 8 := by kernel_rfl
theorem zc114 : (zeroT Try.prog 114).bind V.cells = some [.fnil] := by kernel_rfl
theorem sz115 : szT Try.prog 115 = some 1 := by kernel_rfl
theorem ag115 : aggT Try.prog 115 = some false := by kernel_rfl
theorem by115 : bytesT Try.prog 115 = some 8 := by kernel_rfl
theorem zc115 : (zeroT Try.prog 115).bind V.cells = some [.fnil] := by kernel_rfl
theorem sz116 : szT Try.prog 116 = some 1 := by kernel_rfl
theorem ag116 : aggT Try.prog 116 = some false := by kernel_rfl
theorem by116 : bytesT Try.prog 116 = some 8 := by kernel_rfl
theorem zc116 : (zeroT Try.prog 116).bind V.cells = some [.fnil] := by kernel_rfl
theorem sz117 : szT Try.prog 117 = some 1 := by kernel_rfl
theorem ag117 : aggT Try.prog 117 = some false := by kernel_rfl
theorem by117 : bytesT Try.prog 117 = some 8 := by kernel_rfl
theorem zc117 : (zeroT Try.prog 117).bind V.cells = some [.fnil] := by kernel_rfl
theorem sz118 : szT Try.prog 118 = some 1 := by kernel_rfl
theorem ag118 : aggT Try.prog 118 = some false := by kernel_rfl
theorem by118 : bytesT Try.prog 118 = some 8 := by kernel_rfl
theorem zc118 : (zeroT Try.prog 118).bind V.cells = some [.fnil] := by kernel_rfl
theorem sz119 : szT Try.prog 119 = some 1 := by kernel_rfl
theorem ag119 : aggT Try.prog 119 = some false := by kernel_rfl
theorem by119 : bytesT Try.prog 119 = some 8 := by kernel_rfl
theorem zc119 : (zeroT Try.prog 119).bind V.cells = some [.fnil] := by kernel_rfl
theorem sz120 : szT Try.prog 120 = some 1 := by kernel_rfl
theorem ag120 : aggT Try.prog 120 = some false := by kernel_rfl
theorem by120 : bytesT Try.prog 120 = some 8 := by kernel_rfl
theorem zc120 : (zeroT Try.prog 120).bind V.cells = some [.fnil] := by kernel_rfl
theorem sz121 : szT Try.prog 121 = some 1 := by kernel_rfl
theorem ag121 : aggT Try.prog 121 = some false := by kernel_rfl
theorem by121 : bytesT Try.prog 121 = some 8 := by kernel_rfl
theorem zc121 : (zeroT Try.prog 121).bind V.cells = some [.fnil] := by kernel_rfl
theorem sz122 : szT Try.prog 122 = some 1 := by kernel_rfl
theorem ag122 : aggT Try.prog 122 = some false := by kernel_rfl
theorem by122 : bytesT Try.prog 122 = some 8 := by kernel_rfl
theorem zc122 : (zeroT Try.prog 122).bind V.cells = some [.fnil] := by kernel_rfl
theorem sz123 : szT Try.prog 123 = some 1 := by kernel_rfl
theorem ag123 : aggT Try.prog 123 = some false := by kernel_rfl
theorem by123 : bytesT Try.prog 123 = some 8 := by kernel_rfl
theorem zc123 : (zeroT Try.prog 123).bind V.cells = some [.fnil] := by kernel_rfl
theorem sz124 : szT Try.prog 124 = some 2 := by kernel_rfl
theorem ag124 : aggT Try.prog 124 = some true := by kernel_rfl
theorem by124 : bytesT Try.prog 124 = some 32 := by kernel_rfl
theorem zc124 : (zeroT Try.prog 124).bind V.cells = some [.int .u8 0, .snil] := by kernel_rfl
theorem sz125 : szT Try.prog 125 = some 2 := by kernel_rfl
theorem ag125 : aggT Try.prog 125 = some true := by kernel_rfl
theorem by125 : bytesT Try.prog 125 = some 32 := by kernel_rfl
theorem zc125 : (zeroT Try.prog 125).bind V.cells = some [.int .u8 0, .snil] := by kernel_rfl
theorem sz126 : szT Try.prog 126 = some 1 := by kernel_rfl
theorem ag126 : aggT Try.prog 126 = some false := by kernel_rfl
theorem by126 : bytesT Try.prog 126 = some 8 := by kernel_rfl
theorem zc126 : (zeroT Try.prog 126).bind V.cells = some [.fnil] := by kernel_rfl
theorem sz127 : szT Try.prog 127 = some 1 := by kernel_rfl
theorem ag127 : aggT Try.prog 127 = some false := by kernel_rfl
theorem by127 : bytesT Try.prog 127 = some 8 := by kernel_rfl
theorem zc127 : (zeroT Try.prog 127).bind V.cells = some [.fnil] := by kernel_rfl
theorem sz128 : szT Try.prog 128 = some 1 := by kernel_rfl
theorem ag128 : aggT Try.prog 128 = some false := by kernel_rfl
theorem by128 : bytesT Try.prog 128 = some 8 := by kernel_rfl
theorem zc128 : (zeroT Try.prog 128).bind V.cells = some [.fnil] := by kernel_rfl
theorem sz129 : szT Try.prog 129 = some 1 := by kernel_rfl
theorem ag129 : aggT Try.prog 129 = some false := by kernel_rfl
theorem by129 : bytesT Try.prog 129 = some 8 := by kernel_rfl
theorem zc129 : (zeroT Try.prog 129).bind V.cells = some [.fnil] := by kernel_rfl
theorem sz130 : szT Try.prog 130 = some 1 := by kernel_rfl
theorem ag130 : aggT Try.prog 130 = some false := by kernel_rfl
theorem by130 : bytesT Try.prog 130 = some 8 := by kernel_rfl
theorem zc130 : (zeroT Try.prog 130).bind V.cells = some [.fnil] := by kernel_rfl
theorem sz131 : szT Try.prog 131 = some 1 := by kernel_rfl
theorem ag131 : aggT Try.prog 131 = some false := by kernel_rfl
theorem by131 : bytesT Try.prog 131 = some 8 := by kernel_rfl
theorem zc131 : (zeroT Try.prog 131).bind V.cells = some [.fnil] := by kernel_rfl
theorem sz132 : szT Try.prog 132 = some 1 := by kernel_rfl
theorem ag132 : aggT Try.prog 132 = some false := by kernel_rfl
theorem by132 : bytesT Try.prog 132 = some 8 := by kernel_rfl
theorem zc132 : (zeroT Try.prog 132).bind V.cells = some [.fnil] := by kernel_rfl
theorem sz133 : szT Try.prog 133 = some 1 := by kernel_rfl
theorem ag133 : aggT Try.prog 133 = some false := by kernel_rfl
theorem by133 : bytesT Try.prog 133 = some 8 := by kernel_rfl
theorem zc133 : (zeroT Try.prog 133).bind V.cells = some [.pnil] := by kernel_rfl
theorem sz134 : szT Try.prog 134 = some 1 := by kernel_rfl
theorem ag134 : aggT Try.prog 134 = some false := by kernel_rfl
theorem by134 : bytesT Try.prog 134 = some 8 := by kernel_rfl
theorem zc134 : (zeroT Try.prog 134).bind V.cells = some [.fnil] := by kernel_rfl
theorem sz135 : szT Try.prog 135 = some 1 := by kernel_rfl
theorem ag135 : aggT Try.prog 135 = some false := by kernel_rfl
theorem by135 : bytesT Try.prog 135 = some 8 := by kernel_rfl
theorem zc135 : (zeroT Try.prog 135).bind V.cells = some [.fnil] := by kernel_rfl
theorem sz136 : szT Try.prog 136 = some 1 := by kernel_rfl
theorem ag136 : aggT Try.prog 136 = some false := by kernel_rfl
theorem by136 : bytesT Try.prog 136 = some 8 := by kernel_rfl
theorem zc136 : (zeroT Try.prog 136).bind V.cells = some [.pnil] := by kernel_rfl
theorem sz137 : szT Try.prog 137 = some 2 := by kernel_rfl
theorem ag137 : aggT Try.prog 137 = some true := by kernel_rfl
theorem by137 : bytesT Try.prog 137 = some 32 := by kernel_rfl
theorem zc137 : (zeroT Try.prog 137).bind V.cells = some [.snil, .int .i64 0] := by kernel_rfl
theorem sz138 : szT Try.prog 138 = some 2 := by kernel_rfl
theorem ag138 : aggT Try.prog 138 = some true := by kernel_rfl
theorem by138 : bytesT Try.prog 138 = some 32 := by kernel_rfl
theorem zc138 : (zeroT Try.prog 138).bind V.cells = some [.snil, .int .i64 0] := by kernel_rfl
theorem sz139 : szT Try.prog 139 = some 5 := by kernel_rfl
theorem ag139 : aggT Try.prog 139 = some true := by kernel_rfl
theorem by139 : bytesT Try.prog 139 = some 40 := by kernel_rfl
theorem zc139 : (zeroT Try.prog 139).bind V.cells = some [.pnil, .pnil, .pnil, .pnil, .pnil] := by kernel_rfl
theorem sz140 : szT Try.prog 140 = some 1 := by kernel_rfl
theorem ag140 : aggT Try.prog 140 = some false := by kernel_rfl
theorem by140 : bytesT Try.prog 140 = some 8 := by kernel_rfl
theorem zc140 : (zeroT Try.prog 140).bind V.cells = some [.fnil] := by kernel_rfl
theorem sz141 : szT Try.prog 141 = some 1 := by kernel_rfl
theorem ag141 : aggT Try.prog 141 = some false := by kernel_rfl
theorem by141 : bytesT Try.prog 141 = some 8 := by kernel_rfl
theorem zc141 : (zeroT Try.prog 141).bind V.cells = some [.fnil] := by kernel_rfl
theorem sz142 : szT Try.prog 142 = some 1 := by kernel_rfl
theorem ag142 : aggT Try.prog 142 = some false := by kernel_rfl
theorem by142 : bytesT Try.prog 142 = some 8 := by kernel_rfl
theorem zc142 : (zeroT Try.prog 142).bind V.cells = some [.fnil] := by kernel_rfl
theorem sz143 : szT Try.prog 143 = some 1 := by kernel_rfl
theorem ag143 : aggT Try.prog 143 = some false := by kernel_rfl
theorem by143 : bytesT Try.prog 143 = some 8 := by kernel_rfl
theorem zc143 : (zeroT Try.prog 143).bind V.cells = some [.fnil] := by kernel_rfl
theorem sz144 : szT Try.prog 144 = some 1 := by kernel_rfl
theorem ag144 : aggT Try.prog 144 = some false := by kernel_rfl
theorem by144 : bytesT Try.prog 144 = some 8 := by kernel_rfl
theorem zc144 : (zeroT Try.prog 144).bind V.cells = some [.fnil] := by kernel_rfl
theorem sz145 : szT Try.prog 145 = some 1 := by kernel_rfl
theorem ag145 : aggT Try.prog 145 = some false := by kernel_rfl
theorem by145 : bytesT Try.prog 145 = some 0 := by kernel_rfl
theorem sz146 : szT Try.prog 146 = some 1 := by kernel_rfl
theorem ag146 : aggT Try.prog 146 = some false := by kernel_rfl
theorem by146 : bytesT Try.prog 146 = some 8 := by kernel_rfl
theorem zc146 : (zeroT Try.prog 146).bind V.cells = some [.fnil] := by kernel_rfl
theorem sz147 : szT Try.prog 147 = some 1 := by kernel_rfl
theorem ag147 : aggT Try.prog 147 = some false := by kernel_rfl
theorem by147 : bytesT Try.prog 147 = some 8 := by kernel_rfl
theorem zc147 : (zeroT Try.prog 147).bind V.cells = some [.fnil] := by kernel_rfl
theorem sz148 : szT Try.prog 148 = some 1 := by kernel_rfl
theorem ag148 : aggT Try.prog 148 = some false := by kernel_rfl
theorem by148 : bytesT Try.prog 148 = some 8 := by kernel_rfl
theorem zc148 : (zeroT Try.prog 148).bind V.cells = some [.mnil] := by kernel_rfl
theorem sz149 : szT Try.prog 149 = some 2 := by kernel_rfl
theorem ag149 : aggT Try.prog 149 = some true := by kernel_rfl
theorem by149 : bytesT Try.prog 149 = some 16 := by kernel_rfl
theorem zc149 : (zeroT Try.prog 149).bind V.cells = some [.int .i64 0, .int .i64 0] := by kernel_rfl
theorem sz150 : szT Try.prog 150 = some 2 := by kernel_rfl
theorem ag150 : aggT Try.prog 150 = some true := by kernel_rfl
theorem by150 : bytesT Try.prog 150 = some 16 := by kernel_rfl
theorem zc150 : (zeroT Try.prog 150).bind V.cells = some [.int .i64 0, .int .i64 0] := by kernel_rfl
theorem sz151 : szT Try.prog 151 = some 1 := by kernel_rfl
theorem ag151 : aggT Try.prog 151 = some false := by kernel_rfl
theorem by151 : bytesT Try.prog 151 = some 8 := by kernel_rfl
theorem zc151 : (zeroT Try.prog 151).bind V.cells = some [.mnil] := by kernel_rfl
theorem sz152 : szT Try.prog 152 = some 1 := by kernel_rfl
theorem ag152 : aggT Try.prog 152 = some false := by kernel_rfl
theorem by152 : bytesT Try.prog 152 = some 8 := by kernel_rfl
theorem zc152 : (zeroT Try.prog 152).bind V.cells = some [.fnil] := by kernel_rfl
theorem sz153 : szT Try.prog 153 = some 1 := by kernel_rfl
theorem ag153 : aggT Try.prog 153 = some false := by kernel_rfl
theorem by153 : bytesT Try.prog 153 = some 8 := by kernel_rfl
theorem zc153 : (zeroT Try.prog 153).bind V.cells = some [.fnil] := by kernel_rfl
theorem sz154 : szT Try.prog 154 = some 1 := by kernel_rfl
theorem ag154 : aggT Try.prog 154 = some false := by kernel_rfl
theorem by154 : bytesT Try.prog 154 = some 24 := by kernel_rfl
theorem zc154 : (zeroT Try.prog 154).bind V.cells = some [.snil] := by kernel_rfl
theorem sz155 : szT Try.prog 155 = some 1 := by kernel_rfl
theorem ag155 : aggT Try.prog 155 = some true := by kernel_rfl
theorem by155 : bytesT Try.prog 155 = some 24 := by kernel_rfl
theorem zc155 : (zeroT Try.prog 155).bind V.cells = some [.snil] := by kernel_rfl
theorem sz156 : szT Try.prog 156 = some 1 := by kernel_rfl
theorem ag156 : aggT Try.prog 156 = some true := by kernel_rfl
theorem by156 : bytesT Try.prog 156 = some 24 := by kernel_rfl
theorem zc156 : (zeroT Try.prog 156).bind V.cells = some [.snil] := by kernel_rfl
theorem sz157 : szT Try.prog 157 = some 1 := by kernel_rfl
theorem ag157 : aggT Try.prog 157 = some false := by kernel_rfl
theorem by157 : bytesT Try.prog 157 = some 8 := by kernel_rfl
theorem zc157 : (zeroT Try.prog 157).bind V.cells = some [.fnil] := by kernel_rfl
theorem sz158 : szT Try.prog 158 = some 1 := by kernel_rfl
theorem ag158 : aggT Try.prog 158 = some false := by kernel_rfl
theorem by158 : bytesT Try.prog 158 = some 8 := by kernel_rfl
theorem zc158 : (zeroT Try.prog 158).bind V.cells = some [.fnil] := by kernel_rfl
theorem sz159 : szT Try.prog 159 = some 1 := by kernel_rfl
theorem ag159 : aggT Try.prog 159 = some false := by kernel_rfl
theorem by159 : bytesT Try.prog 159 = some 8 := by kernel_rfl
theorem zc159 : (zeroT Try.prog 159).bind V.cells = some [.fnil] := by kernel_rfl
theorem sz160 : szT Try.prog 160 = some 3 := by kernel_rfl
theorem ag160 : aggT Try.prog 160 = some true := by kernel_rfl
theorem by160 : bytesT Try.prog 160 = some 40 := by kernel_rfl
theorem zc160 : (zeroT Try.prog 160).bind V.cells = some [.int .i64 0, .int .i64 0, .snil] := by kernel_rfl
theorem sz161 : szT Try.prog 161 = some 3 := by kernel_rfl
theorem ag161 : aggT Try.prog 161 = some true := by kernel_rfl
theorem by161 : bytesT Try.prog 161 = some 40 := by kernel_rfl
theorem zc161 : (zeroT Try.prog 161).bind V.cells = some [.int .i64 0, .int .i64 0, .snil] := by kernel_rfl
theorem sz162 : szT Try.prog 162 = some 5 := by kernel_rfl
theorem ag162 : aggT Try.prog 162 = some true := by kernel_rfl
theorem by162 : bytesT Try.prog 162 = some 40 := by kernel_rfl
theorem zc162 : (zeroT Try.prog 162).bind V.cells = some [.int .i64 0, .int .i64 0, .int .i64 0, .int .i64 0, .int .i64 0] := by kernel_rfl
theorem sz163 : szT Try.prog 163 = some 1 := by kernel_rfl
theorem ag163 : aggT Try.prog 163 = some false := by kernel_rfl
theorem by163 : bytesT Try.prog 163 = some 8 := by kernel_rfl
theorem zc163 : (zeroT Try.prog 163).bind V.cells = some [.fnil] := by kernel_rfl
theorem sz164 : szT Try.prog 164 = some 1 := by kernel_rfl
theorem ag164 : aggT Try.prog 164 = some false := by kernel_rfl
theorem by164 : bytesT Try.prog 164 = some 8 := by kernel_rfl
theorem zc164 : (zeroT Try.prog 164).bind V.cells = some [.fnil] := by kernel_rfl
theorem sz165 : szT Try.prog 165 = some 1 := by kernel_rfl
theorem ag165 : aggT Try.prog 165 = some false := by kernel_rfl
theorem by165 : bytesT Try.prog 165 = some 8 := by kernel_rfl
theorem zc165 : (zeroT Try.prog 165).bind V.cells = some [.int .u64 0] := by kernel_rfl
theorem sz166 : szT Try.prog 166 = some 1 := by kernel_rfl
theorem ag166 : aggT Try.prog 166 = some false := by kernel_rfl
theorem by166 : bytesT Try.prog 166 = some 24 := by kernel_rfl
theorem zc166 : (zeroT Try.prog 166).bind V.cells = some [.snil] := by kernel_rfl
theorem sz167 : szT Try.prog 167 = some 1 := by kernel_rfl
theorem ag167 : aggT Try.prog 167 = some false := by kernel_rfl
theorem by167 : bytesT Try.prog 167 = some 8 := by kernel_rfl
theorem zc167 : (zeroT Try.prog 167).bind V.cells = some [.fnil] := by kernel_rfl
theorem sz168 : szT Try.prog 168 = some 1 := by kernel_rfl
theorem ag168 : aggT Try.prog 168 = some false := by kernel_rfl
theorem by168 : bytesT Try.prog 168 = some 8 := by kernel_rfl
theorem zc168 : (zeroT Try.prog 168).bind V.cells = some [.fnil] := by kernel_rfl
theorem sz169 : szT Try.prog 169 = some 1 := by kernel_rfl
theorem ag169 : aggT Try.prog 169 = some false := by kernel_rfl
theorem by169 : bytesT Try.prog 169 = some 8 := by kernel_rfl
theorem zc169 : (zeroT Try.prog 169).bind V.cells = some [.fnil] := by kernel_rfl
theorem sz170 : szT Try.prog 170 = some 1 := by kernel_rfl
theorem ag170 : aggT Try.prog 170 = some false := by kernel_rfl
theorem by170 : bytesT Try.prog 170 = some 8 := by kernel_rfl
theorem zc170 : (zeroT Try.prog 170).bind V.cells = some [.fnil] := by kernel_rfl
theorem sz171 : szT Try.prog 171 = some 1 := by kernel_rfl
theorem ag171 : aggT Try.prog 171 = some false := by kernel_rfl
theorem by171 : bytesT Try.prog 171 = some 8 := by kernel_rfl
theorem zc171 : (zeroT Try.prog 171).bind V.cells = some [.fnil] := by kernel_rfl
theorem sz172 : szT Try.prog 172 = some 2 := by kernel_rfl
theorem ag172 : aggT Try.prog 172 = some true := by kernel_rfl
theorem by172 : bytesT Try.prog 172 = some 32 := by kernel_rfl
theorem zc172 : (zeroT Try.prog 172).bind V.cells = some [.int .i64 0, .snil] := by kernel_rfl
theorem sz173 : szT Try.prog 173 = some 2 := by kernel_rfl
theorem ag173 : aggT Try.prog 173 = some true := by kernel_rfl
theorem by173 : bytesT Try.prog 173 = some 32 := by kernel_rfl
theorem zc173 : (zeroT Try.prog 173).bind V.cells = some [.int .i64 0, .snil] := by kernel_rfl
theorem sz174 : szT Try.prog 174 = some 1 := by kernel_rfl
theorem ag174 : aggT Try.prog 174 = some false := by kernel_rfl
theorem by174 : bytesT Try.prog 174 = some 8 := by kernel_rfl
theorem zc174 : (zeroT Try.prog 174).bind V.cells = some [.fnil] := by kernel_rfl
theorem sz175 : szT Try.prog 175 = some 1 := by kernel_rfl
theorem ag175 : aggT Try.prog 175 = some false := by kernel_rfl
theorem by175 : bytesT Try.prog 175 = some 8 := by kernel_rfl
theorem zc175 : (zeroT Try.prog 175).bind V.cells = some [.fnil] := by kernel_rfl
theorem sz176 : szT Try.prog 176 = some 1 := by kernel_rfl
theorem ag176 : aggT Try.prog 176 = some false := by kernel_rfl
theorem by176 : bytesT Try.prog 176 = some 8 := by kernel_rfl
theorem zc176 : (zeroT Try.prog 176).bind V.cells = some [.fnil] := by kernel_rfl
theorem sz177 : szT Try.prog 177 = some 1 := by kernel_rfl
theorem ag177 : aggT Try.prog 177 = some false := by kernel_rfl
theorem by177 : bytesT Try.prog 177 = some 8 := by kernel_rfl
theorem zc177 : (zeroT Try.prog 177).bind V.cells = some [.fnil] := by kernel_rfl
theorem sz178 : szT Try.prog 178 = some 1 := by kernel_rfl
theorem ag178 : aggT Try.prog 178 = some false := by kernel_rfl
theorem by178 : bytesT Try.prog 178 = some 8 := by kernel_rfl
theorem zc178 : (zeroT Try.prog 178).bind V.cells = some [.fnil] := by kernel_rfl
theorem sz179 : szT Try.prog 179 = some 1 := by kernel_rfl
theorem ag179 : aggT Try.prog 179 = some false := by kernel_rfl
theorem by179 : bytesT Try.prog 179 = some 24 := by kernel_rfl
theorem zc179 : (zeroT Try.prog 179).bind V.cells = some [.snil] := by kernel_rfl
theorem sz180 : szT Try.prog 180 = some 1 := by kernel_rfl
theorem ag180 : aggT Try.prog 180 = some false := by kernel_rfl
theorem by180 : bytesT Try.prog 180 = some 8 := by kernel_rfl
theorem zc180 : (zeroT Try.prog 180).bind V.cells = some [.fnil] := by kernel_rfl
theorem sz181 : szT Try.prog 181 = some 1 := by kernel_rfl
theorem ag181 : aggT Try.prog 181 = some false := by kernel_rfl
theorem by181 : bytesT Try.prog 181 = some 8 := by kernel_rfl
theorem zc181 : (zeroT Try.prog 181).bind V.cells = some [.int .u64 0] := by kernel_rfl
theorem sz182 : szT Try.prog 182 = some 1 := by kernel_rfl
theorem ag182 : aggT Try.prog 182 = some false := by kernel_rfl
theorem by182 : bytesT Try.prog 182 = some 8 := by kernel_rfl
theorem zc182 : (zeroT Try.prog 182).bind V.cells = some [.fnil] := by kernel_rfl
theorem sz183 : szT Try.prog 183 = some 1 := by kernel_rfl
theorem ag183 : aggT Try.prog 183 = some false := by kernel_rfl
theorem by183 : bytesT Try.prog 183 = some 4 := by kernel_rfl
theorem zc183 : (zeroT Try.prog 183).bind V.cells = some [.int .u32 0] := by kernel_rfl
theorem sz184 : szT Try.prog 184 = some 8 := by kernel_rfl
theorem ag184 : aggT Try.prog 184 = some true := by kernel_rfl
theorem by184 : bytesT Try.prog 184 = some 32 := by kernel_rfl
theorem zc184 : (zeroT Try.prog 184).bind V.cells = some [.int .u32 0, .int .u32 0, .int .u32 0, .int .u32 0, .int .u32 0, .int .u32 0, .int .u32 0, .int .u32 0] := by kernel_rfl
theorem sz185 : szT Try.prog 185 = some 8 := by kernel_rfl
theorem ag185 : aggT Try.prog 185 = some true := by kernel_rfl
theorem by185 : bytesT Try.prog 185 = some 32 := by kernel_rfl
theorem zc185 : (zeroT Try.prog 185).bind V.cells = some [.int .u32 0, .int .u32 0, .int .u32 0, .int .u32 0, .int .u32 0, .int .u32 0, .int .u32 0, .int .u32 0] := by kernel_rfl
theorem sz186 : szT Try.prog 186 = some 1 := by kernel_rfl
theorem ag186 : aggT Try.prog 186 = some false := by kernel_rfl
theorem by186 : bytesT Try.prog 186 = some 8 := by kernel_rfl
theorem zc186 : (zeroT Try.prog 186).bind V.cells = some [.fnil] := by kernel_rfl
theorem sz187 : szT Try.prog 187 = some 1 := by kernel_rfl
theorem ag187 : aggT Try.prog 187 = some false := by kernel_rfl
theorem by187 : bytesT Try.prog 187 = some 8 := by kernel_rfl
theorem zc187 : (zeroT Try.prog 187).bind V.cells = some [.fnil] := by kernel_rfl
theorem sz188 : szT Try.prog 188 = some 1 := by kernel_rfl
theorem ag188 : aggT Try.prog 188 = some false := by kernel_rfl
theorem by188 : bytesT Try.prog 188 = some 8 := by kernel_rfl
theorem zc188 : (zeroT Try.prog 188).bind V.cells = some [.fnil] := by kernel_rfl
theorem sz189 : szT Try.prog 189 = some 64 := by kernel_rfl
theorem ag189 : aggT Try.prog 189 = some true := by kernel_rfl
theorem by189 : bytesT Try.prog 189 = some 64 := by kernel_rfl
theorem zc189 : (zeroT Try.prog 189).bind V.cells = some [.int .u8 0, .int .u8 0, .int .u8 0, .int .u8 0, .int .u8 0, .int .u8 0, .int .u8 0, .int .u8 0, .int .u8 0, .int .u8 0, .int .u8 0, .int .u8 0, .int .u8 0, .int .u8 0, .int .u8 0, .int .u8 0, .int .u8 0, .int .u8 0, .int .u8 0, .int .u8 0, .int .u8 0, .int .u8 0, .int .u8 0, .int .u8 0, .int .u8 0, .int .u8 0, .int .u8 0, .int .u8 0, .int .u8 0, .int .u8 0, .int .u8 0, .int .u8 0, .int .u8 0, .int .u8 0, .int .u8 0, .int .u8 0, .int .u8 0, .int .u8 0, .int .u8 0, .int .u8 0, .int .u8 0, .int .u8 0, .int .u8 0, .int .u8 0, .int .u8 0, .int .u8 0, .int .u8 0, .int .u8 0, .int .u8 0, .int .u8 0, .int .u8 0, .int .u8 0, .int .u8 0, .int .u8 0, .int .u8 0, .int .u8 0, .int .u8 0, .int .u8 0, .int .u8 0, .int .u8 0, .int .u8 0, .int .u8 0, .int .u8 0, .int .u8 0] := by kernel_rfl
theorem sz190 : szT Try.prog 190 = some 1 := by kernel_rfl
theorem ag190 : aggT Try.prog 190 = some false := by kernel_rfl
theorem by190 : bytesT Try.prog 190 = some 8 := by kernel_rfl
theorem zc190 : (zeroT Try.prog 190).bind V.cells = some [.fnil] := by kernel_rfl
theorem sz191 : szT Try.prog 191 = some 1 := by kernel_rfl
theorem ag191 : aggT Try.prog 191 = some false := by kernel_rfl
theorem by191 : bytesT Try.prog 191 = some 8 := by kernel_rfl
theorem zc191 : (zeroT Try.prog 191).bind V.cells = some [.pnil] := by kernel_rfl
theorem sz192 : szT Try.prog 192 = some 1 := by kernel_rfl
theorem ag192 : aggT Try.prog 192 = some false := by kernel_rfl
theorem by192 : bytesT Try.prog 192 = some 8 := by kernel_rfl
theorem zc192 : (zeroT Try.prog 192).bind V.cells = some [.fnil] := by kernel_rfl
theorem sz193 : szT Try.prog 193 = some 1 := by kernel_rfl
theorem ag193 : aggT Try.prog 193 = some false := by kernel_rfl
theorem by193 : bytesT Try.prog 193 = some 8 := by kernel_rfl
theorem zc193 : (zeroT Try.prog 193).bind V.cells = some [.pnil] := by kernel_rfl
theorem sz194 : szT Try.prog 194 = some 64 := by kernel_rfl
theorem ag194 : aggT Try.prog 194 = some true := by kernel_rfl
theorem by194 : bytesT Try.prog 194 = some 256 := by kernel_rfl
theorem zc194 : (zeroT Try.prog 194).bind V.cells = some [.int .u32 0, .int .u32 0, .int .u32 0, .int .u32 0, .int .u32 0, .int .u32 0, .int .u32 0, .int .u32 0, .int .u32 0, .int .u32 0, .int .u32 0, .int .u32 0, .int .u32 0, .int .u32 0, .int .u32 0, .int .u32 0, .int .u32 0, .int .u32 0, .int .u32 0, .int .u32 0, .int .u32 0, .int .u32 0, .int .u32 0, .int .u32 0, .int .u32 0, .int .u32 0, .int .u32 0, .int .u32 0, .int .u32 0, .int .u32 0, .int .u32 0, .int .u32 0, .int .u32 0, .int .u32 0, .int .u32 0, .int .u32 0, .int .u32 0, .int .u32 0, .int .u32 0, .int .u32 0, .int .u32 0, .int .u32 0, .int .u32 0, .int .u32 0, .int .u32 0, .int .u32 0, .int .u32 0, .int .u32 0, .int .u32 0, .int .u32 0, .int .u32 0, .int .u32 0, .int .u32 0, .int .u32 0, .int .u32 0, .int .u32 0, .int .u32 0, .int .u32 0, .int .u32 0, .int .u32 0, .int .u32 0, .int .u32 0, .int .u32 0, .int .u32 0] := by kernel_rfl
theorem sz195 : szT Try.prog 195 = some 1 := by kernel_rfl
theorem ag195 : aggT Try.prog 195 = some false := by kernel_rfl
theorem by195 : bytesT Try.prog 195 = some 8 := by kernel_rfl
theorem zc195 : (zeroT Try.prog 195).bind V.cells = some [.fnil] := by kernel_rfl
theorem sz196 : szT Try.prog 196 = some 1 := by kernel_rfl
theorem ag196 : aggT Try.prog 196 = some false := by kernel_rfl
theorem by196 : bytesT Try.prog 196 = some 8 := by kernel_rfl
theorem zc196 : (zeroT Try.prog 196).bind V.cells = some [.fnil] := by kernel_rfl
theorem sz197 : szT Try.prog 197 = some 4 := by kernel_rfl
theorem ag197 : aggT Try.prog 197 = some true := by kernel_rfl
theorem by197 : bytesT Try.prog 197 = some 40 := by kernel_rfl
theorem zc197 : (zeroT Try.prog 197).bind V.cells = some [.pnil, .pnil, .pnil, .str []] := by kernel_rfl
theorem sz198 : szT Try.prog 198 = some 4 := by kernel_rfl
theorem ag198 : aggT Try.prog 198 = some true := by kernel_rfl
theorem by198 : bytesT Try.prog 198 = some 40 := by kernel_rfl
theorem zc198 : (zeroT Try.prog 198).bind V.cells = some [.pnil, .pnil, .pnil, .str []] := by kernel_rfl
theorem sz199 : szT Try.prog 199 = some 0 := by kernel_rfl
theorem ag199 : aggT Try.prog 199 = some true := by kernel_rfl
theorem by199 : bytesT Try.prog 199 = some 0 := by kernel_rfl
theorem zc199 : (zeroT Try.prog 199).bind V.cells = some [] := by kernel_rfl
theorem sz200 : szT Try.prog 200 = some 0 := by kernel_rfl
theorem ag200 : aggT Try.prog 200 = some true := by kernel_rfl
theorem by200 : bytesT Try.prog 200 = some 0 := by kernel_rfl
theorem zc200 : (zeroT Try.prog 200).bind V.cells = some [] := by kernel_rfl
theorem sz201 : szT Try.prog 201 = some 0 := by kernel_rfl
theorem ag201 : aggT Try.prog 201 = some true := by kernel_rfl
theorem by201 : bytesT Try.prog 201 = some 0 := by kernel_rfl
theorem zc201 : (zeroT Try.prog 201).bind V.cells = some [] := by kernel_rfl
theorem sz202 : szT Try.prog 202 = some 1 := by kernel_rfl
theorem ag202 : aggT Try.prog 202 = some false := by kernel_rfl
theorem by202 : bytesT Try.prog 202 = some 1 := by kernel_rfl
theorem zc202 : (zeroT Try.prog 202).bind V.cells = some [.int .u8 0] := by kernel_rfl
theorem sz203 : szT Try.prog 203 = some 1 := by kernel_rfl
theorem ag203 : aggT Try.prog 203 = some false := by kernel_rfl
theorem by203 : bytesT Try.prog 203 = some 1 := by kernel_rfl
theorem zc203 : (zeroT Try.prog 203).bind V.cells = some [.int .u8 0] := by kernel_rfl
theorem sz204 : szT Try.prog 204 = some 1 := by kernel_rfl
theorem ag204 : aggT Try.prog 204 = some false := by kernel_rfl
theorem by204 : bytesT Try.prog 204 = some 8 := by kernel_rfl
theorem zc204 : (zeroT Try.prog 204).bind V.cells = some [.fnil] := by kernel_rfl
theorem sz205 : szT Try.prog 205 = some 1 := by kernel_rfl
theorem ag205 : aggT Try.prog 205 = some false := by kernel_rfl
theorem by205 : bytesT Try.prog 205 = some 8 := by kernel_rfl
theorem zc205 : (zeroT Try.prog 205).bind V.cells = some [.pnil] := by kernel_rfl
theorem sz206 : szT Try.prog 206 = some 1 := by kernel_rfl
theorem ag206 : aggT Try.prog 206 = some false := by kernel_rfl
theorem by206 : bytesT Try.prog 206 = some 4 := by kernel_rfl
theorem zc206 : (zeroT Try.prog 206).bind V.cells = some [.int .i32 0] := by kernel_rfl
theorem sz207 : szT Try.prog 207 = some 1 := by kernel_rfl
theorem ag207 : aggT Try.prog 207 = some false := by kernel_rfl
theorem by207 : bytesT Try.prog 207 = some 4 := by kernel_rfl
theorem zc207 : (zeroT Try.prog 207).bind V.cells = some [.int .i32 0] := by kernel_rfl
theorem sz208 : szT Try.prog 208 = some 11 := by kernel_rfl
theorem ag208 : aggT Try.prog 208 = some true := by kernel_rfl
theorem by208 : bytesT Try.prog 208 = some 48 := by kernel_rfl
theorem zc208 : (zeroT Try.prog 208).bind V.cells = some [.int .u64 0, .int .u64 0, .int .u32 0, .int .u8 0, .int .u8 0, .int .u8 0, .int .u8 0, .fnil, .pnil, .int .i32 0, .int .i32 0] := by kernel_rfl
theorem sz209 : szT Try.prog 209 = some 11 := by kernel_rfl
theorem ag209 : aggT Try.prog 209 = some true := by kernel_rfl
theorem by209 : bytesT Try.prog 209 = some 48 := by kernel_rfl
theorem zc209 : (zeroT Try.prog 209).bind V.cells = some [.int .u64 0, .int .u64 0, .int .u32 0, .int .u8 0, .int .u8 0, .int .u8 0, .int .u8 0, .fnil, .pnil, .int .i32 0, .int .i32 0] := by kernel_rfl
theorem sz210 : szT Try.prog 210 = some 1 := by kernel_rfl
theorem ag210 : aggT Try.prog 210 = some false := by kernel_rfl
theorem by210 : bytesT Try.prog 210 = some 8 := by kernel_rfl
theorem zc210 : (zeroT Try.prog 210).bind V.cells = some [.pnil] := by kernel_rfl
theorem sl22 : SlT Try.prog 22 33 1 24 := .of _ Try.underlying22 sz33 by33 zc33 rfl (by decide)
theorem sl25 : SlT Try.prog 25 32 3 24 := .of _ Try.underlying25 sz32 by32 zc32 rfl (by decide)
theorem sl33 : SlT Try.prog 33 38 1 24 := .of _ Try.underlying33 sz38 by38 zc38 rfl (by decide)
theorem sl38 : SlT Try.prog 38 5 1 1 := .of _ Try.underlying38 sz5 by5 zc5 rfl (by decide)
theorem sl39 : SlT Try.prog 39 37 32 32 := .of _ Try.underlying39 sz37 by37 zc37 rfl (by decide)
theorem sl48 : SlT Try.prog 48 54 34 48 := .of _ Try.underlying48 sz54 by54 zc54 rfl (by decide)
theorem sl69 : SlT Try.prog 69 68 1 8 := .of _ Try.underlying69 sz68 by68 zc68 rfl (by decide)
theorem sl79 : SlT Try.prog 79 87 5 56 := .of _ Try.underlying79 sz87 by87 zc87 rfl (by decide)
theorem sl82 : SlT Try.prog 82 9 1 16 := .of _ Try.underlying82 sz9 by9 zc9 rfl (by decide)
theorem sl93 : SlT Try.prog 93 96 48 224 := .of _ Try.underlying93 sz96 by96 zc96 rfl (by decide)
theorem sl94 : SlT Try.prog 94 100 5 40 := .of _ Try.underlying94 sz100 by100 zc100 rfl (by decide)
theorem sl154 : SlT Try.prog 154 161 3 40 := .of _ Try.underlying154 sz161 by161 zc161 rfl (by decide)
theorem sl166 : SlT Try.prog 166 3 1 8 := .of _ Try.underlying166 sz3 by3 zc3 rfl (by decide)
theorem sl179 : SlT Try.prog 179 181 1 8 := .of _ Try.underlying179 sz181 by181 zc181 rfl (by decide)
theorem ok : progOkB Try.prog HH = true := by kernel_rfl
theorem progOk : ProgOk Try.prog HH := progOk_of ok gtab (fun g v h => findTab_mem h) (List.forall_mem_cons.2 ⟨⟨rfl, 200, fun orc odr => by kernel_rfl⟩, List.forall_mem_cons.2 ⟨⟨rfl, 200, fun orc odr => by kernel_rfl⟩, List.forall_mem_cons.2 ⟨⟨rfl, 200, fun orc odr => by kernel_rfl⟩, fun _ h => by simp at h⟩⟩⟩)
end Go.Sv.Try
