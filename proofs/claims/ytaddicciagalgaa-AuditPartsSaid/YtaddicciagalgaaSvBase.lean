/- The seat's own facts: the order of each drawing region, what fixed runs come to, sizes of types. -/
import Derived.Test.YtaddicciagalgaaSv3
import Derived.Test.YtaddicciagalgaaChecked
import Derived.KernelRfl
namespace Go.Sv.Try
open Go Go.Proofs
set_option linter.unusedVariables false
/-- The order in which a drawing region is gone through. -/
def planTab : List (Nat × Nat × Plan) :=
  [(3, 9, (List.range' 0 18).map fun i => (i, [])),
   (5, 12, [(0, []), (1, []), (2, []), (3, []), (4, []), (5, []), (6, []), (7, []), (8, [0, 2]), (9, [])]),
   (8, 9, (List.range' 0 35).map fun i => (i, [])),
   (12, 7, [(0, []), (1, []), (2, []), (3, []), (5, []), (6, []), (4, [6]), (7, []), (8, []), (9, [])]),
   (13, 10, [(0, []), (1, []), (2, []), (3, []), (4, []), (5, []), (6, []), (7, []), (8, []), (9, []), (10, [5]), (11, []), (12, []), (13, [])]),
   (15, 8, [(0, []), (2, []), (1, [2]), (3, []), (4, [])]),
   (20, 9, (List.range' 0 14).map fun i => (i, [])),
   (25, 1, [(0, []), (1, []), (3, []), (4, []), (6, []), (7, []), (9, []), (10, []), (12, []), (13, []), (15, []), (16, []), (17, []), (2, [4, 7, 10, 13, 16, 17]), (5, [7, 10, 13, 16, 17]), (8, [10, 13, 16, 17]), (11, [13, 16, 17]), (14, [16, 17]), (18, []), (19, [])]),
   (25, 7, [(0, []), (1, []), (2, []), (3, []), (4, []), (5, []), (6, []), (7, []), (8, [2]), (9, []), (10, []), (11, [])]),
   (25, 11, [(0, []), (1, []), (2, []), (3, []), (4, []), (5, []), (6, []), (7, []), (8, []), (9, [2]), (10, []), (11, []), (12, [])]),
   (27, 4, [(0, []), (1, []), (2, []), (3, []), (4, []), (5, []), (6, []), (7, []), (8, []), (9, []), (10, []), (11, []), (12, []), (13, []), (14, []), (16, []), (17, []), (15, [17]), (18, []), (19, []), (20, [])]),
   (32, 3, (List.range' 0 14).map fun i => (i, [])),
   (32, 7, (List.range' 0 10).map fun i => (i, [])),
   (37, 16, (List.range' 0 19).map fun i => (i, [])),
   (37, 17, (List.range' 0 12).map fun i => (i, [])),
   (37, 20, (List.range' 0 21).map fun i => (i, [])),
   (37, 25, (List.range' 0 19).map fun i => (i, [])),
   (37, 26, (List.range' 0 24).map fun i => (i, [])),
   (37, 27, [(0, []), (1, []), (2, []), (3, []), (4, []), (5, []), (7, []), (8, []), (9, []), (12, []), (13, []), (14, []), (18, []), (20, []), (21, []), (22, []), (23, []), (25, []), (26, []), (27, []), (28, []), (6, [2, 9, 14, 23, 28]), (10, [2, 14, 23, 28]), (11, []), (15, [2, 23, 28]), (16, []), (17, []), (19, []), (24, []), (29, []), (30, [])]),
   (37, 28, [(0, []), (1, []), (2, []), (4, []), (5, []), (6, []), (9, []), (10, []), (11, []), (14, []), (3, [6, 11]), (7, [11]), (8, []), (12, []), (13, []), (15, []), (16, [])]),
   (37, 29, (List.range' 0 32).map fun i => (i, [])),
   (37, 33, (List.range' 0 15).map fun i => (i, [])),
   (39, 1, [(0, []), (3, []), (1, [3]), (2, []), (4, []), (5, []), (6, []), (7, [])]),
   (41, 10, (List.range' 0 10).map fun i => (i, [])),
   (41, 12, (List.range' 0 11).map fun i => (i, [])),
   (42, 1, (List.range' 0 6).map fun i => (i, [])),
   (45, 1, (List.range' 0 10).map fun i => (i, [])),
   (48, 6, (List.range' 0 40).map fun i => (i, [])),
   (48, 7, (List.range' 0 10).map fun i => (i, [])),
   (48, 10, (List.range' 0 16).map fun i => (i, [])),
   (48, 16, (List.range' 0 6).map fun i => (i, [])),
   (48, 17, [(0, []), (1, []), (2, []), (4, []), (7, []), (11, []), (12, []), (13, []), (14, []), (15, []), (16, []), (17, []), (18, []), (19, []), (20, []), (22, []), (23, []), (24, []), (26, []), (27, []), (28, []), (3, [1, 12, 15, 17, 24, 28]), (5, [1, 12, 15, 17, 24, 28]), (6, []), (8, [1, 12, 15, 17, 24, 28]), (9, []), (10, []), (21, []), (25, []), (29, []), (30, [])]),
   (48, 18, [(0, []), (2, []), (5, []), (8, []), (9, []), (10, []), (11, []), (12, []), (13, []), (14, []), (15, []), (16, []), (17, []), (18, []), (19, []), (1, [10, 13, 16]), (3, [10, 13, 16]), (4, []), (6, [10, 13, 16]), (7, []), (20, []), (21, [])]),
   (48, 24, (List.range' 0 12).map fun i => (i, [])),
   (49, 14, (List.range' 0 5).map fun i => (i, []))]
def planOf (f id : Nat) : Plan := match planTab.find? (fun x => x.1 == f && x.2.1 == id) with
  | some x => x.2.2
  | none => []
/-- Functions that run one fixed run. -/
def gtab : List (Nat × V) := [(6, .bool true), (11, .bool true)]
def HH : Hints := { plan := planOf, ground := findTab gtab }
theorem pl_3_9 : HH.plan 3 9 = (List.range' 0 18).map fun i => (i, []) := by kernel_rfl
theorem pl_5_12 : HH.plan 5 12 = [(0, []), (1, []), (2, []), (3, []), (4, []), (5, []), (6, []), (7, []), (8, [0, 2]), (9, [])] := by kernel_rfl
theorem pl_8_9 : HH.plan 8 9 = (List.range' 0 35).map fun i => (i, []) := by kernel_rfl
theorem pl_12_7 : HH.plan 12 7 = [(0, []), (1, []), (2, []), (3, []), (5, []), (6, []), (4, [6]), (7, []), (8, []), (9, [])] := by kernel_rfl
theorem pl_13_10 : HH.plan 13 10 = [(0, []), (1, []), (2, []), (3, []), (4, []), (5, []), (6, []), (7, []), (8, []), (9, []), (10, [5]), (11, []), (12, []), (13, [])] := by kernel_rfl
theorem pl_15_8 : HH.plan 15 8 = [(0, []), (2, []), (1, [2]), (3, []), (4, [])] := by kernel_rfl
theorem pl_20_9 : HH.plan 20 9 = (List.range' 0 14).map fun i => (i, []) := by kernel_rfl
theorem pl_25_1 : HH.plan 25 1 = [(0, []), (1, []), (3, []), (4, []), (6, []), (7, []), (9, []), (10, []), (12, []), (13, []), (15, []), (16, []), (17, []), (2, [4, 7, 10, 13, 16, 17]), (5, [7, 10, 13, 16, 17]), (8, [10, 13, 16, 17]), (11, [13, 16, 17]), (14, [16, 17]), (18, []), (19, [])] := by kernel_rfl
theorem pl_25_7 : HH.plan 25 7 = [(0, []), (1, []), (2, []), (3, []), (4, []), (5, []), (6, []), (7, []), (8, [2]), (9, []), (10, []), (11, [])] := by kernel_rfl
theorem pl_25_11 : HH.plan 25 11 = [(0, []), (1, []), (2, []), (3, []), (4, []), (5, []), (6, []), (7, []), (8, []), (9, [2]), (10, []), (11, []), (12, [])] := by kernel_rfl
theorem pl_27_4 : HH.plan 27 4 = [(0, []), (1, []), (2, []), (3, []), (4, []), (5, []), (6, []), (7, []), (8, []), (9, []), (10, []), (11, []), (12, []), (13, []), (14, []), (16, []), (17, []), (15, [17]), (18, []), (19, []), (20, [])] := by kernel_rfl
theorem pl_32_3 : HH.plan 32 3 = (List.range' 0 14).map fun i => (i, []) := by kernel_rfl
theorem pl_32_7 : HH.plan 32 7 = (List.range' 0 10).map fun i => (i, []) := by kernel_rfl
theorem pl_37_16 : HH.plan 37 16 = (List.range' 0 19).map fun i => (i, []) := by kernel_rfl
theorem pl_37_17 : HH.plan 37 17 = (List.range' 0 12).map fun i => (i, []) := by kernel_rfl
theorem pl_37_20 : HH.plan 37 20 = (List.range' 0 21).map fun i => (i, []) := by kernel_rfl
theorem pl_37_25 : HH.plan 37 25 = (List.range' 0 19).map fun i => (i, []) := by kernel_rfl
theorem pl_37_26 : HH.plan 37 26 = (List.range' 0 24).map fun i => (i, []) := by kernel_rfl
theorem pl_37_27 : HH.plan 37 27 = [(0, []), (1, []), (2, []), (3, []), (4, []), (5, []), (7, []), (8, []), (9, []), (12, []), (13, []), (14, []), (18, []), (20, []), (21, []), (22, []), (23, []), (25, []), (26, []), (27, []), (28, []), (6, [2, 9, 14, 23, 28]), (10, [2, 14, 23, 28]), (11, []), (15, [2, 23, 28]), (16, []), (17, []), (19, []), (24, []), (29, []), (30, [])] := by kernel_rfl
theorem pl_37_28 : HH.plan 37 28 = [(0, []), (1, []), (2, []), (4, []), (5, []), (6, []), (9, []), (10, []), (11, []), (14, []), (3, [6, 11]), (7, [11]), (8, []), (12, []), (13, []), (15, []), (16, [])] := by kernel_rfl
theorem pl_37_29 : HH.plan 37 29 = (List.range' 0 32).map fun i => (i, []) := by kernel_rfl
theorem pl_37_33 : HH.plan 37 33 = (List.range' 0 15).map fun i => (i, []) := by kernel_rfl
theorem pl_39_1 : HH.plan 39 1 = [(0, []), (3, []), (1, [3]), (2, []), (4, []), (5, []), (6, []), (7, [])] := by kernel_rfl
theorem pl_41_10 : HH.plan 41 10 = (List.range' 0 10).map fun i => (i, []) := by kernel_rfl
theorem pl_41_12 : HH.plan 41 12 = (List.range' 0 11).map fun i => (i, []) := by kernel_rfl
theorem pl_42_1 : HH.plan 42 1 = (List.range' 0 6).map fun i => (i, []) := by kernel_rfl
theorem pl_45_1 : HH.plan 45 1 = (List.range' 0 10).map fun i => (i, []) := by kernel_rfl
theorem pl_48_6 : HH.plan 48 6 = (List.range' 0 40).map fun i => (i, []) := by kernel_rfl
theorem pl_48_7 : HH.plan 48 7 = (List.range' 0 10).map fun i => (i, []) := by kernel_rfl
theorem pl_48_10 : HH.plan 48 10 = (List.range' 0 16).map fun i => (i, []) := by kernel_rfl
theorem pl_48_16 : HH.plan 48 16 = (List.range' 0 6).map fun i => (i, []) := by kernel_rfl
theorem pl_48_17 : HH.plan 48 17 = [(0, []), (1, []), (2, []), (4, []), (7, []), (11, []), (12, []), (13, []), (14, []), (15, []), (16, []), (17, []), (18, []), (19, []), (20, []), (22, []), (23, []), (24, []), (26, []), (27, []), (28, []), (3, [1, 12, 15, 17, 24, 28]), (5, [1, 12, 15, 17, 24, 28]), (6, []), (8, [1, 12, 15, 17, 24, 28]), (9, []), (10, []), (21, []), (25, []), (29, []), (30, [])] := by kernel_rfl
theorem pl_48_18 : HH.plan 48 18 = [(0, []), (2, []), (5, []), (8, []), (9, []), (10, []), (11, []), (12, []), (13, []), (14, []), (15, []), (16, []), (17, []), (18, []), (19, []), (1, [10, 13, 16]), (3, [10, 13, 16]), (4, []), (6, [10, 13, 16]), (7, []), (20, []), (21, [])] := by kernel_rfl
theorem pl_48_24 : HH.plan 48 24 = (List.range' 0 12).map fun i => (i, []) := by kernel_rfl
theorem pl_49_14 : HH.plan 49 14 = (List.range' 0 5).map fun i => (i, []) := by kernel_rfl
theorem sz0 : szT Try.prog 0 = some 1 := by kernel_rfl
theorem ag0 : aggT Try.prog 0 = some false := by kernel_rfl
theorem by0 : bytesT Try.prog 0 = some 0 := by kernel_rfl
theorem sz1 : szT Try.prog 1 = some 1 := by kernel_rfl
theorem ag1 : aggT Try.prog 1 = some false := by kernel_rfl
theorem by1 : bytesT Try.prog 1 = some 8 := by kernel_rfl
theorem zc1 : (zeroT Try.prog 1).bind V.cells = some [.fnil] := by kernel_rfl
theorem sz2 : szT Try.prog 2 = some 1 := by kernel_rfl
theorem ag2 : aggT Try.prog 2 = some false := by kernel_rfl
theorem by2 : bytesT Try.prog 2 = some 8 := by kernel_rfl
theorem zc2 : (zeroT Try.prog 2).bind V.cells = some [.int .i64 0] := by kernel_rfl
theorem sz3 : szT Try.prog 3 = some 1 := by kernel_rfl
theorem ag3 : aggT Try.prog 3 = some false := by kernel_rfl
theorem by3 : bytesT Try.prog 3 = some 8 := by kernel_rfl
theorem zc3 : (zeroT Try.prog 3).bind V.cells = some [.int .i64 0] := by kernel_rfl
theorem sz4 : szT Try.prog 4 = some 1 := by kernel_rfl
theorem ag4 : aggT Try.prog 4 = some false := by kernel_rfl
theorem by4 : bytesT Try.prog 4 = some 1 := by kernel_rfl
theorem zc4 : (zeroT Try.prog 4).bind V.cells = some [.bool false] := by kernel_rfl
theorem sz5 : szT Try.prog 5 = some 1 := by kernel_rfl
theorem ag5 : aggT Try.prog 5 = some false := by kernel_rfl
theorem by5 : bytesT Try.prog 5 = some 1 := by kernel_rfl
theorem zc5 : (zeroT Try.prog 5).bind V.cells = some [.int .u8 0] := by kernel_rfl
theorem sz6 : szT Try.prog 6 = some 1 := by kernel_rfl
theorem ag6 : aggT Try.prog 6 = some false := by kernel_rfl
theorem by6 : bytesT Try.prog 6 = some 1 := by kernel_rfl
theorem zc6 : (zeroT Try.prog 6).bind V.cells = some [.int .u8 0] := by kernel_rfl
theorem sz7 : szT Try.prog 7 = some 4 := by kernel_rfl
theorem ag7 : aggT Try.prog 7 = some true := by kernel_rfl
theorem by7 : bytesT Try.prog 7 = some 24 := by kernel_rfl
theorem zc7 : (zeroT Try.prog 7).bind V.cells = some [.int .i64 0, .int .i64 0, .bool false, .int .u8 0] := by kernel_rfl
theorem sz8 : szT Try.prog 8 = some 4 := by kernel_rfl
theorem ag8 : aggT Try.prog 8 = some true := by kernel_rfl
theorem by8 : bytesT Try.prog 8 = some 24 := by kernel_rfl
theorem zc8 : (zeroT Try.prog 8).bind V.cells = some [.int .i64 0, .int .i64 0, .bool false, .int .u8 0] := by kernel_rfl
theorem sz9 : szT Try.prog 9 = some 1 := by kernel_rfl
theorem ag9 : aggT Try.prog 9 = some false := by kernel_rfl
theorem by9 : bytesT Try.prog 9 = some 16 := by kernel_rfl
theorem zc9 : (zeroT Try.prog 9).bind V.cells = some [.str []] := by kernel_rfl
theorem sz10 : szT Try.prog 10 = some 1 := by kernel_rfl
theorem ag10 : aggT Try.prog 10 = some false := by kernel_rfl
theorem by10 : bytesT Try.prog 10 = some 16 := by kernel_rfl
theorem zc10 : (zeroT Try.prog 10).bind V.cells = some [.str []] := by kernel_rfl
theorem sz11 : szT Try.prog 11 = some 1 := by kernel_rfl
theorem ag11 : aggT Try.prog 11 = some false := by kernel_rfl
theorem by11 : bytesT Try.prog 11 = some 16 := by kernel_rfl
theorem zc11 : (zeroT Try.prog 11).bind V.cells = some [.str []] := by kernel_rfl
theorem sz12 : szT Try.prog 12 = some 1 := by kernel_rfl
theorem ag12 : aggT Try.prog 12 = some false := by kernel_rfl
theorem by12 : bytesT Try.prog 12 = some 8 := by kernel_rfl
theorem zc12 : (zeroT Try.prog 12).bind V.cells = some [.int .u64 0] := by kernel_rfl
theorem sz13 : szT Try.prog 13 = some 2 := by kernel_rfl
theorem ag13 : aggT Try.prog 13 = some true := by kernel_rfl
theorem by13 : bytesT Try.prog 13 = some 24 := by kernel_rfl
theorem zc13 : (zeroT Try.prog 13).bind V.cells = some [.str [], .int .u64 0] := by kernel_rfl
theorem sz14 : szT Try.prog 14 = some 2 := by kernel_rfl
theorem ag14 : aggT Try.prog 14 = some true := by kernel_rfl
theorem by14 : bytesT Try.prog 14 = some 24 := by kernel_rfl
theorem zc14 : (zeroT Try.prog 14).bind V.cells = some [.str [], .int .u64 0] := by kernel_rfl
theorem sz15 : szT Try.prog 15 = some 1 := by kernel_rfl
theorem ag15 : aggT Try.prog 15 = some false := by kernel_rfl
theorem by15 : bytesT Try.prog 15 = some 8 := by kernel_rfl
theorem zc15 : (zeroT Try.prog 15).bind V.cells = some [.pnil] := by kernel_rfl
theorem sz16 : szT Try.prog 16 = some 1 := by kernel_rfl
theorem ag16 : aggT Try.prog 16 = some false := by kernel_rfl
theorem by16 : bytesT Try.prog 16 = some 8 := by kernel_rfl
theorem zc16 : (zeroT Try.prog 16).bind V.cells = some [.pnil] := by kernel_rfl
theorem sz17 : szT Try.prog 17 = some 1 := by kernel_rfl
theorem ag17 : aggT Try.prog 17 = some false := by kernel_rfl
theorem by17 : bytesT Try.prog 17 = some 8 := by kernel_rfl
theorem zc17 : (zeroT Try.prog 17).bind V.cells = some [.pnil] := by kernel_rfl
theorem sz18 : szT Try.prog 18 = some 1 := by kernel_rfl
theorem ag18 : aggT Try.prog 18 = some true := by kernel_rfl
theorem by18 : bytesT Try.prog 18 = some 8 := by kernel_rfl
theorem zc18 : (zeroT Try.prog 18).bind V.cells = some [.pnil] := by kernel_rfl
theorem sz19 : szT Try.prog 19 = some 1 := by kernel_rfl
theorem ag19 : aggT Try.prog 19 = some true := by kernel_rfl
theorem by19 : bytesT Try.prog 19 = some 8 := by kernel_rfl
theorem zc19 : (zeroT Try.prog 19).bind V.cells = some [.pnil] := by kernel_rfl
theorem sz20 : szT Try.prog 20 = some 1 := by kernel_rfl
theorem ag20 : aggT Try.prog 20 = some false := by kernel_rfl
theorem by20 : bytesT Try.prog 20 = some 16 := by kernel_rfl
theorem sz21 : szT Try.prog 21 = some 1 := by kernel_rfl
theorem ag21 : aggT Try.prog 21 = some false := by kernel_rfl
theorem by21 : bytesT Try.prog 21 = some 4 := by kernel_rfl
theorem zc21 : (zeroT Try.prog 21).bind V.cells = some [.int .i32 0] := by kernel_rfl
theorem sz22 : szT Try.prog 22 = some 1 := by kernel_rfl
theorem ag22 : aggT Try.prog 22 = some false := by kernel_rfl
theorem by22 : bytesT Try.prog 22 = some 24 := by kernel_rfl
theorem zc22 : (zeroT Try.prog 22).bind V.cells = some [.snil] := by kernel_rfl
theorem sz23 : szT Try.prog 23 = some 1 := by kernel_rfl
theorem ag23 : aggT Try.prog 23 = some false := by kernel_rfl
theorem by23 : bytesT Try.prog 23 = some 8 := by kernel_rfl
theorem zc23 : (zeroT Try.prog 23).bind V.cells = some [.fnil] := by kernel_rfl
theorem sz24 : szT Try.prog 24 = some 1 := by kernel_rfl
theorem ag24 : aggT Try.prog 24 = some false := by kernel_rfl
theorem by24 : bytesT Try.prog 24 = some 8 := by kernel_rfl
theorem zc24 : (zeroT Try.prog 24).bind V.cells = some [.fnil] := by kernel_rfl
theorem sz25 : szT Try.prog 25 = some 1 := by kernel_rfl
theorem ag25 : aggT Try.prog 25 = some false := by kernel_rfl
theorem by25 : bytesT Try.prog 25 = some 24 := by kernel_rfl
theorem zc25 : (zeroT Try.prog 25).bind V.cells = some [.snil] := by kernel_rfl
theorem sz26 : szT Try.prog 26 = some 1 := by kernel_rfl
theorem ag26 : aggT Try.prog 26 = some false := by kernel_rfl
theorem by26 : bytesT Try.prog 26 = some 8 := by kernel_rfl
theorem zc26 : (zeroT Try.prog 26).bind V.cells = some [.fnil] := by kernel_rfl
theorem sz27 : szT Try.prog 27 = some 1 := by kernel_rfl
theorem ag27 : aggT Try.prog 27 = some false := by kernel_rfl
theorem by27 : bytesT Try.prog 27 = some 8 := by kernel_rfl
theorem zc27 : (zeroT Try.prog 27).bind V.cells = some [.fnil] := by kernel_rfl
theorem sz28 : szT Try.prog 28 = some 1 := by kernel_rfl
theorem ag28 : aggT Try.prog 28 = some false := by kernel_rfl
theorem by28 : bytesT Try.prog 28 = some 8 := by kernel_rfl
theorem zc28 : (zeroT Try.prog 28).bind V.cells = some [.fnil] := by kernel_rfl
theorem sz29 : szT Try.prog 29 = some 1 := by kernel_rfl
theorem ag29 : aggT Try.prog 29 = some false := by kernel_rfl
theorem by29 : bytesT Try.prog 29 = some 8 := by kernel_rfl
theorem zc29 : (zeroT Try.prog 29).bind V.cells = some [.fnil] := by kernel_rfl
theorem sz30 : szT Try.prog 30 = some 3 := by kernel_rfl
theorem ag30 : aggT Try.prog 30 = some true := by kernel_rfl
theorem by30 : bytesT Try.prog 30 = some 24 := by kernel_rfl
theorem zc30 : (zeroT Try.prog 30).bind V.cells = some [.int .i64 0, .int .i64 0, .int .i64 0] := by kernel_rfl
theorem sz31 : szT Try.prog 31 = some 3 := by kernel_rfl
theorem ag31 : aggT Try.prog 31 = some true := by kernel_rfl
theorem by31 : bytesT Try.prog 31 = some 24 := by kernel_rfl
theorem zc31 : (zeroT Try.prog 31).bind V.cells = some [.int .i64 0, .int .i64 0, .int .i64 0] := by kernel_rfl
theorem sz32 : szT Try.prog 32 = some 3 := by kernel_rfl
theorem ag32 : aggT Try.prog 32 = some true := by kernel_rfl
theorem by32 : bytesT Try.prog 32 = some 24 := by kernel_rfl
theorem zc32 : (zeroT Try.prog 32).bind V.cells = some [.int .i64 0, .int .i64 0, .int .i64 0] := by kernel_rfl
theorem sz33 : szT Try.prog 33 = some 1 := by kernel_rfl
theorem ag33 : aggT Try.prog 33 = some false := by kernel_rfl
theorem by33 : bytesT Try.prog 33 = some 24 := by kernel_rfl
theorem zc33 : (zeroT Try.prog 33).bind V.cells = some [.snil] := by kernel_rfl
theorem sz34 : szT Try.prog 34 = some 1 := by kernel_rfl
theorem ag34 : aggT Try.prog 34 = some false := by kernel_rfl
theorem by34 : bytesT Try.prog 34 = some 8 := by kernel_rfl
theorem zc34 : (zeroT Try.prog 34).bind V.cells = some [.fnil] := by kernel_rfl
theorem sz35 : szT Try.prog 35 = some 1 := by kernel_rfl
theorem ag35 : aggT Try.prog 35 = some false := by kernel_rfl
theorem by35 : bytesT Try.prog 35 = some 8 := by kernel_rfl
theorem zc35 : (zeroT Try.prog 35).bind V.cells = some [.fnil] := by kernel_rfl
theorem sz36 : szT Try.prog 36 = some 32 := by kernel_rfl
theorem ag36 : aggT Try.prog 36 = some true := by kernel_rfl
theorem by36 : bytesT Try.prog 36 = some 32 := by kernel_rfl
theorem zc36 : (zeroT Try.prog 36).bind V.cells = some [.int .u8 0, .int .u8 0, .int .u8 0, .int .u8 0, .int .u8 0, .int .u8 0, .int .u8 0, .int .u8 0, .int .u8 0, .int .u8 0, .int .u8 0, .int .u8 0, .int .u8 0, .int .u8 0, .int .u8 0, .int .u8 0, .int .u8 0, .int .u8 0, .int .u8 0, .int .u8 0, .int .u8 0, .int .u8 0, .int .u8 0, .int .u8 0, .int .u8 0, .int .u8 0, .int .u8 0, .int .u8 0, .int .u8 0, .int .u8 0, .int .u8 0, .int .u8 0] := by kernel_rfl
theorem sz37 : szT Try.prog 37 = some 32 := by kernel_rfl
theorem ag37 : aggT Try.prog 37 = some true := by kernel_rfl
theorem by37 : bytesT Try.prog 37 = some 32 := by kernel_rfl
theorem zc37 : (zeroT Try.prog 37).bind V.cells = some [.int .u8 0, .int .u8 0, .int .u8 0, .int .u8 0, .int .u8 0, .int .u8 0, .int .u8 0, .int .u8 0, .int .u8 0, .int .u8 0, .int .u8 0, .int .u8 0, .int .u8 0, .int .u8 0, .int .u8 0, .int .u8 0, .int .u8 0, .int .u8 0, .int .u8 0, .int .u8 0, .int .u8 0, .int .u8 0, .int .u8 0, .int .u8 0, .int .u8 0, .int .u8 0, .int .u8 0, .int .u8 0, .int .u8 0, .int .u8 0, .int .u8 0, .int .u8 0] := by kernel_rfl
theorem sz38 : szT Try.prog 38 = some 1 := by kernel_rfl
theorem ag38 : aggT Try.prog 38 = some false := by kernel_rfl
theorem by38 : bytesT Try.prog 38 = some 24 := by kernel_rfl
theorem zc38 : (zeroT Try.prog 38).bind V.cells = some [.snil] := by kernel_rfl
theorem sz39 : szT Try.prog 39 = some 1 := by kernel_rfl
theorem ag39 : aggT Try.prog 39 = some false := by kernel_rfl
theorem by39 : bytesT Try.prog 39 = some 24 := by kernel_rfl
theorem zc39 : (zeroT Try.prog 39).bind V.cells = some [.snil] := by kernel_rfl
theorem sz40 : szT Try.prog 40 = some 41 := by kernel_rfl
theorem ag40 : aggT Try.prog 40 = some true := by kernel_rfl
theorem by40 : bytesT Try.prog 40 = some 152 := by kernel_rfl
theorem zc40 : (zeroT Try.prog 40).bind V.cells = some [.int .i64 0, .int .i64 0, .int .i64 0, .int .i64 0, .int .i64 0, .int .i64 0, .int .u8 0, .int .u8 0, .int .u8 0, .int .u8 0, .int .u8 0, .int .u8 0, .int .u8 0, .int .u8 0, .int .u8 0, .int .u8 0, .int .u8 0, .int .u8 0, .int .u8 0, .int .u8 0, .int .u8 0, .int .u8 0, .int .u8 0, .int .u8 0, .int .u8 0, .int .u8 0, .int .u8 0, .int .u8 0, .int .u8 0, .int .u8 0, .int .u8 0, .int .u8 0, .int .u8 0, .int .u8 0, .int .u8 0, .int .u8 0, .int .u8 0, .int .u8 0, .snil, .snil, .snil] := by kernel_rfl
theorem sz41 : szT Try.prog 41 = some 41 := by kernel_rfl
theorem ag41 : aggT Try.prog 41 = some true := by kernel_rfl
theorem by41 : bytesT Try.prog 41 = some 152 := by kernel_rfl
theorem zc41 : (zeroT Try.prog 41).bind V.cells = some [.int .i64 0, .int .i64 0, .int .i64 0, .int .i64 0, .int .i64 0, .int .i64 0, .int .u8 0, .int .u8 0, .int .u8 0, .int .u8 0, .int .u8 0, .int .u8 0, .int .u8 0, .int .u8 0, .int .u8 0, .int .u8 0, .int .u8 0, .int .u8 0, .int .u8 0, .int .u8 0, .int .u8 0, .int .u8 0, .int .u8 0, .int .u8 0, .int .u8 0, .int .u8 0, .int .u8 0, .int .u8 0, .int .u8 0, .int .u8 0, .int .u8 0, .int .u8 0, .int .u8 0, .int .u8 0, .int .u8 0, .int .u8 0, .int .u8 0, .int .u8 0, .snil, .snil, .snil] := by kernel_rfl
theorem sz42 : szT Try.prog 42 = some 1 := by kernel_rfl
theorem ag42 : aggT Try.prog 42 = some false := by kernel_rfl
theorem by42 : bytesT Try.prog 42 = some 8 := by kernel_rfl
theorem zc42 : (zeroT Try.prog 42).bind V.cells = some [.int .i64 0] := by kernel_rfl
theorem sz43 : szT Try.prog 43 = some 1 := by kernel_rfl
theorem ag43 : aggT Try.prog 43 = some false := by kernel_rfl
theorem by43 : bytesT Try.prog 43 = some 0 := by kernel_rfl
theorem sz44 : szT Try.prog 44 = some 1 := by kernel_rfl
theorem ag44 : aggT Try.prog 44 = some false := by kernel_rfl
theorem by44 : bytesT Try.prog 44 = some 8 := by kernel_rfl
theorem zc44 : (zeroT Try.prog 44).bind V.cells = some [.fnil] := by kernel_rfl
theorem sz45 : szT Try.prog 45 = some 1 := by kernel_rfl
theorem ag45 : aggT Try.prog 45 = some false := by kernel_rfl
theorem by45 : bytesT Try.prog 45 = some 0 := by kernel_rfl
theorem sz46 : szT Try.prog 46 = some 1 := by kernel_rfl
theorem ag46 : aggT Try.prog 46 = some false := by kernel_rfl
theorem by46 : bytesT Try.prog 46 = some 8 := by kernel_rfl
theorem zc46 : (zeroT Try.prog 46).bind V.cells = some [.fnil] := by kernel_rfl
theorem sz47 : szT Try.prog 47 = some 1 := by kernel_rfl
theorem ag47 : aggT Try.prog 47 = some false := by kernel_rfl
theorem by47 : bytesT Try.prog 47 = some 8 := by kernel_rfl
theorem zc47 : (zeroT Try.prog 47).bind V.cells = some [.fnil] := by kernel_rfl
theorem sz48 : szT Try.prog 48 = some 1 := by kernel_rfl
theorem ag48 : aggT Try.prog 48 = some false := by kernel_rfl
theorem by48 : bytesT Try.prog 48 = some 24 := by kernel_rfl
theorem zc48 : (zeroT Try.prog 48).bind V.cells = some [.snil] := by kernel_rfl
theorem sz49 : szT Try.prog 49 = some 1 := by kernel_rfl
theorem ag49 : aggT Try.prog 49 = some false := by kernel_rfl
theorem by49 : bytesT Try.prog 49 = some 8 := by kernel_rfl
theorem zc49 : (zeroT Try.prog 49).bind V.cells = some [.mnil] := by kernel_rfl
theorem sz50 : szT Try.prog 50 = some 1 := by kernel_rfl
theorem ag50 : aggT Try.prog 50 = some false := by kernel_rfl
theorem by50 : bytesT Try.prog 50 = some 8 := by kernel_rfl
theorem zc50 : (zeroT Try.prog 50).bind V.cells = some [.fnil] := by kernel_rfl
theorem sz51 : szT Try.prog 51 = some 1 := by kernel_rfl
theorem ag51 : aggT Try.prog 51 = some false := by kernel_rfl
theorem by51 : bytesT Try.prog 51 = some 8 := by kernel_rfl
theorem zc51 : (zeroT Try.prog 51).bind V.cells = some [.fnil] := by kernel_rfl
theorem sz52 : szT Try.prog 52 = some 1 := by kernel_rfl
theorem ag52 : aggT Try.prog 52 = some false := by kernel_rfl
theorem by52 : bytesT Try.prog 52 = some 8 := by kernel_rfl
theorem zc52 : (zeroT Try.prog 52).bind V.cells = some [.fnil] := by kernel_rfl
theorem sz53 : szT Try.prog 53 = some 34 := by kernel_rfl
theorem ag53 : aggT Try.prog 53 = some true := by kernel_rfl
theorem by53 : bytesT Try.prog 53 = some 48 := by kernel_rfl
theorem zc53 : (zeroT Try.prog 53).bind V.cells = some [.int .i64 0, .int .i64 0, .int .u8 0, .int .u8 0, .int .u8 0, .int .u8 0, .int .u8 0, .int .u8 0, .int .u8 0, .int .u8 0, .int .u8 0, .int .u8 0, .int .u8 0, .int .u8 0, .int .u8 0, .int .u8 0, .int .u8 0, .int .u8 0, .int .u8 0, .int .u8 0, .int .u8 0, .int .u8 0, .int .u8 0, .int .u8 0, .int .u8 0, .int .u8 0, .int .u8 0, .int .u8 0, .int .u8 0, .int .u8 0, .int .u8 0, .int .u8 0, .int .u8 0, .int .u8 0] := by kernel_rfl
theorem sz54 : szT Try.prog 54 = some 34 := by kernel_rfl
theorem ag54 : aggT Try.prog 54 = some true := by kernel_rfl
theorem by54 : bytesT Try.prog 54 = some 48 := by kernel_rfl
theorem zc54 : (zeroT Try.prog 54).bind V.cells = some [.int .i64 0, .int .i64 0, .int .u8 0, .int .u8 0, .int .u8 0, .int .u8 0, .int .u8 0, .int .u8 0, .int .u8 0, .int .u8 0, .int .u8 0, .int .u8 0, .int .u8 0, .int .u8 0, .int .u8 0, .int .u8 0, .int .u8 0, .int .u8 0, .int .u8 0, .int .u8 0, .int .u8 0, .int .u8 0, .int .u8 0, .int .u8 0, .int .u8 0, .int .u8 0, .int .u8 0, .int .u8 0, .int .u8 0, .int .u8 0, .int .u8 0, .int .u8 0, .int .u8 0, .int .u8 0] := by kernel_rfl
theorem sz55 : szT Try.prog 55 = some 1 := by kernel_rfl
theorem ag55 : aggT Try.prog 55 = some false := by kernel_rfl
theorem by55 : bytesT Try.prog 55 = some 8 := by kernel_rfl
theorem zc55 : (zeroT Try.prog 55).bind V.cells = some [.fnil] := by kernel_rfl
theorem sz56 : szT Try.prog 56 = some 1 := by kernel_rfl
theorem ag56 : aggT Try.prog 56 = some false := by kernel_rfl
theorem by56 : bytesT Try.prog 56 = some 8 := by kernel_rfl
theorem zc56 : (zeroT Try.prog 56).bind V.cells = some [.fnil] := by kernel_rfl
theorem sz57 : szT Try.prog 57 = some 1 := by kernel_rfl
theorem ag57 : aggT Try.prog 57 = some false := by kernel_rfl
theorem by57 : bytesT Try.prog 57 = some 8 := by kernel_rfl
theorem zc57 : (zeroT Try.prog 57).bind V.cells = some [.fnil] := by kernel_rfl
theorem sz58 : szT Try.prog 58 = some 1 := by kernel_rfl
theorem ag58 : aggT Try.prog 58 = some false := by kernel_rfl
theorem by58 : bytesT Try.prog 58 = some 8 := by kernel_rfl
theorem zc58 : (zeroT Try.prog 58).bind V.cells = some [.fnil] := by kernel_rfl
theorem sz59 : szT Try.prog 59 = some 1 := by kernel_rfl
theorem ag59 : aggT Try.prog 59 = some false := by kernel_rfl
theorem by59 : bytesT Try.prog 59 = some 8 := by kernel_rfl
theorem zc59 : (zeroT Try.prog 59).bind V.cells = some [.fnil] := by kernel_rfl
theorem sz60 : szT Try.prog 60 = some 1 := by kernel_rfl
theorem ag60 : aggT Try.prog 60 = some false := by kernel_rfl
theorem by60 : bytesT Try.prog 60 = some 0 := by kernel_rfl
theorem sz61 : szT Try.prog 61 = some 1 := by kernel_rfl
theorem ag61 : aggT Try.prog 61 = some false := by kernel_rfl
theorem by61 : bytesT Try.prog 61 = some 8 := by kernel_rfl
theorem zc61 : (zeroT Try.prog 61).bind V.cells = some [.fnil] := by kernel_rfl
theorem sz62 : szT Try.prog 62 = some 1 := by kernel_rfl
theorem ag62 : aggT Try.prog 62 = some false := by kernel_rfl
theorem by62 : bytesT Try.prog 62 = some 8 := by kernel_rfl
theorem zc62 : (zeroT Try.prog 62).bind V.cells = some [.fnil] := by kernel_rfl
theorem sz63 : szT Try.prog 63 = some 1 := by kernel_rfl
theorem ag63 : aggT Try.prog 63 = some false := by kernel_rfl
theorem by63 : bytesT Try.prog 63 = some 8 := by kernel_rfl
theorem zc63 : (zeroT Try.prog 63).bind V.cells = some [.fnil] := by kernel_rfl
theorem sz64 : szT Try.prog 64 = some 1 := by kernel_rfl
theorem ag64 : aggT Try.prog 64 = some false := by kernel_rfl
theorem by64 : bytesT Try.prog 64 = some 8 := by kernel_rfl
theorem zc64 : (zeroT Try.prog 64).bind V.cells = some [.fnil] := by kernel_rfl
theorem sz65 : szT Try.prog 65 = some 1 := by kernel_rfl
theorem ag65 : aggT Try.prog 65 = some false := by kernel_rfl
theorem by65 : bytesT Try.prog 65 = some 8 := by kernel_rfl
theorem zc65 : (zeroT Try.prog 65).bind V.cells = some [.fnil] := by kernel_rfl
theorem sz66 : szT Try.prog 66 = some 1 := by kernel_rfl
theorem ag66 : aggT Try.prog 66 = some false := by kernel_rfl
theorem by66 : bytesT Try.prog 66 = some 8 := by kernel_rfl
theorem zc66 : (zeroT Try.prog 66).bind V.cells = some [.fnil] := by kernel_rfl
theorem sz67 : szT Try.prog 67 = some 2 := by kernel_rfl
theorem ag67 : aggT Try.prog 67 = some true := by kernel_rfl
theorem by67 : bytesT Try.prog 67 = some 32 := by kernel_rfl
theorem zc67 : (zeroT Try.prog 67).bind V.cells = some [.int .u8 0, .snil] := by kernel_rfl
theorem sz68 : szT Try.prog 68 = some 2 := by kernel_rfl
theorem ag68 : aggT Try.prog 68 = some true := by kernel_rfl
theorem by68 : bytesT Try.prog 68 = some 32 := by kernel_rfl
theorem zc68 : (zeroT Try.prog 68).bind V.cells = some [.int .u8 0, .snil] := by kernel_rfl
theorem sz69 : szT Try.prog 69 = some 1 := by kernel_rfl
theorem ag69 : aggT Try.prog 69 = some false := by kernel_rfl
theorem by69 : bytesT Try.prog 69 = some 8 := by kernel_rfl
theorem zc69 : (zeroT Try.prog 69).bind V.cells = some [.fnil] := by kernel_rfl
theorem sz70 : szT Try.prog 70 = some 1 := by kernel_rfl
theorem ag70 : aggT Try.prog 70 = some false := by kernel_rfl
theorem by70 : bytesT Try.prog 70 = some 8 := by kernel_rfl
theorem zc70 : (zeroT Try.prog 70).bind V.cells = some [.fnil] := by kernel_rfl
theorem sz71 : szT Try.prog 71 = some 1 := by kernel_rfl
theorem ag71 : aggT Try.prog 71 = some false := by kernel_rfl
theorem by71 : bytesT Try.prog 71 = some 24 := by kernel_rfl
theorem zc71 : (zeroT Try.prog 71).bind V.cells = some [.snil] := by kernel_rfl
theorem sz72 : szT Try.prog 72 = some 1 := by kernel_rfl
theorem ag72 : aggT Try.prog 72 = some false := by kernel_rfl
theorem by72 : bytesT Try.prog 72 = some 8 := by kernel_rfl
theorem zc72 : (zeroT Try.prog 72).bind V.cells = some [.fnil] := by kernel_rfl
theorem sz73 : szT Try.prog 73 = some 1 := by kernel_rfl
theorem ag73 : aggT Try.prog 73 = some false := by kernel_rfl
theorem by73 : bytesT Try.prog 73 = some 8 := by kernel_rfl
theorem zc73 : (zeroT Try.prog 73).bind V.cells = some [.fnil] := by kernel_rfl
theorem sz74 : szT Try.prog 74 = some 1 := by kernel_rfl
theorem ag74 : aggT Try.prog 74 = some false := by kernel_rfl
theorem by74 : bytesT Try.prog 74 = some 8 := by kernel_rfl
theorem zc74 : (zeroT Try.prog 74).bind V.cells = some [.fnil] := by kernel_rfl
theorem sz75 : szT Try.prog 75 = some 1 := by kernel_rfl
theorem ag75 : aggT Try.prog 75 = some false := by kernel_rfl
theorem by75 : bytesT Try.prog 75 = some 8 := by kernel_rfl
theorem zc75 : (zeroT Try.prog 75).bind V.cells = some [.fnil] := by kernel_rfl
theorem sz76 : szT Try.prog 76 = some 1 := by kernel_rfl
theorem ag76 : aggT Try.prog 76 = some false := by kernel_rfl
theorem by76 : bytesT Try.prog 76 = some 8 := by kernel_rfl
theorem zc76 : (zeroT Try.prog 76).bind V.cells = some [.fnil] := by kernel_rfl
theorem sz77 : szT Try.prog 77 = some 1 := by kernel_rfl
theorem ag77 : aggT Try.prog 77 = some false := by kernel_rfl
theorem by77 : bytesT Try.prog 77 = some 8 := by kernel_rfl
theorem zc77 : (zeroT Try.prog 77).bind V.cells = some [.fnil] := by kernel_rfl
theorem sz78 : szT Try.prog 78 = some 1 := by kernel_rfl
theorem ag78 : aggT Try.prog 78 = some false := by kernel_rfl
theorem by78 : bytesT Try.prog 78 = some 8 := by kernel_rfl
theorem zc78 : (zeroT Try.prog 78).bind V.cells = some [.pnil] := by kernel_rfl
theorem sz79 : szT Try.prog 79 = some 1 := by kernel_rfl
theorem ag79 : aggT Try.prog 79 = some false := by kernel_rfl
theorem by79 : bytesT Try.prog 79 = some 8 := by kernel_rfl
theorem zc79 : (zeroT Try.prog 79).bind V.cells = some [.fnil] := by kernel_rfl
theorem sz80 : szT Try.prog 80 = some 1 := by kernel_rfl
theorem ag80 : aggT Try.prog 80 = some false := by kernel_rfl
theorem by80 : bytesT Try.prog 80 = some 8 := by kernel_rfl
theorem zc80 : (zeroT Try.prog 80).bind V.cells = some [.fnil] := by kernel_rfl
theorem sz81 : szT Try.prog 81 = some 1 := by kernel_rfl
theorem ag81 : aggT Try.prog 81 = some false := by kernel_rfl
theorem by81 : bytesT Try.prog 81 = some 8 := by kernel_rfl
theorem zc81 : (zeroT Try.prog 81).bind V.cells = some [.mnil] := by kernel_rfl
theorem sz82 : szT Try.prog 82 = some 5 := by kernel_rfl
theorem ag82 : aggT Try.prog 82 = some true := by kernel_rfl
theorem by82 : bytesT Try.prog 82 = some 40 := by kernel_rfl
theorem zc82 : (zeroT Try.prog 82).bind V.cells = some [.int .i64 0, .int .i64 0, .int .i64 0, .int .i64 0, .int .i64 0] := by kernel_rfl
theorem sz83 : szT Try.prog 83 = some 1 := by kernel_rfl
theorem ag83 : aggT Try.prog 83 = some false := by kernel_rfl
theorem by83 : bytesT Try.prog 83 = some 8 := by kernel_rfl
theorem zc83 : (zeroT Try.prog 83).bind V.cells = some [.fnil] := by kernel_rfl
theorem sz84 : szT Try.prog 84 = some 1 := by kernel_rfl
theorem ag84 : aggT Try.prog 84 = some false := by kernel_rfl
theorem by84 : bytesT Try.prog 84 = some 8 := by kernel_rfl
theorem zc84 : (zeroT Try.prog 84).bind V.cells = some [.fnil] := by kernel_rfl
theorem sz85 : szT Try.prog 85 = some 1 := by kernel_rfl
theorem ag85 : aggT Try.prog 85 = some false := by kernel_rfl
theorem by85 : bytesT Try.prog 85 = some 8 := by kernel_rfl
theorem zc85 : (zeroT Try.prog 85).bind V.cells = some [.int .u64 0] := by kernel_rfl
theorem sz86 : szT Try.prog 86 = some 1 := by kernel_rfl
theorem ag86 : aggT Try.prog 86 = some false := by kernel_rfl
theorem by86 : bytesT Try.prog 86 = some 24 := by kernel_rfl
theorem zc86 : (zeroT Try.prog 86).bind V.cells = some [.snil] := by kernel_rfl
theorem sz87 : szT Try.prog 87 = some 1 := by kernel_rfl
theorem ag87 : aggT Try.prog 87 = some false := by kernel_rfl
theorem by87 : bytesT Try.prog 87 = some 8 := by kernel_rfl
theorem zc87 : (zeroT Try.prog 87).bind V.cells = some [.fnil] := by kernel_rfl
theorem sz88 : szT Try.prog 88 = some 1 := by kernel_rfl
theorem ag88 : aggT Try.prog 88 = some false := by kernel_rfl
theorem by88 : bytesT Try.prog 88 = some 8 := by kernel_rfl
theorem zc88 : (zeroT Try.prog 88).bind V.cells = some [.fnil] := by kernel_rfl
theorem sz89 : szT Try.prog 89 = some 1 := by kernel_rfl
theorem ag89 : aggT Try.prog 89 = some false := by kernel_rfl
theorem by89 : bytesT Try.prog 89 = some 8 := by kernel_rfl
theorem zc89 : (zeroT Try.prog 89).bind V.cells = some [.fnil] := by kernel_rfl
theorem sz90 : szT Try.prog 90 = some 1 := by kernel_rfl
theorem ag90 : aggT Try.prog 90 = some false := by kernel_rfl
theorem by90 : bytesT Try.prog 90 = some 8 := by kernel_rfl
theorem zc90 : (zeroT Try.prog 90).bind V.cells = some [.fnil] := by kernel_rfl
theorem sz91 : szT Try.prog 91 = some 1 := by kernel_rfl
theorem ag91 : aggT Try.prog 91 = some false := by kernel_rfl
theorem by91 : bytesT Try.prog 91 = some 8 := by kernel_rfl
theorem zc91 : (zeroT Try.prog 91).bind V.cells = some [.fnil] := by kernel_rfl
theorem sz92 : szT Try.prog 92 = some 2 := by kernel_rfl
theorem ag92 : aggT Try.prog 92 = some true := by kernel_rfl
theorem by92 : bytesT Try.prog 92 = some 32 := by kernel_rfl
theorem zc92 : (zeroT Try.prog 92).bind V.cells = some [.int .i64 0, .snil] := by kernel_rfl
theorem sz93 : szT Try.prog 93 = some 2 := by kernel_rfl
theorem ag93 : aggT Try.prog 93 = some true := by kernel_rfl
theorem by93 : bytesT Try.prog 93 = some 32 := by kernel_rfl
theorem zc93 : (zeroT Try.prog 93).bind V.cells = some [.int .i64 0, .snil] := by kernel_rfl
theorem sz94 : szT Try.prog 94 = some 1 := by kernel_rfl
theorem ag94 : aggT Try.prog 94 = some false := by kernel_rfl
theorem by94 : bytesT Try.prog 94 = some 8 := by kernel_rfl
theorem zc94 : (zeroT Try.prog 94).bind V.cells = some [.fnil] := by kernel_rfl
theorem sz95 : szT Try.prog 95 = some 1 := by kernel_rfl
theorem ag95 : aggT Try.prog 95 = some false := by kernel_rfl
theorem by95 : bytesT Try.prog 95 = some 24 := by kernel_rfl
theorem zc95 : (zeroT Try.prog 95).bind V.cells = some [.snil] := by kernel_rfl
theorem sz96 : szT Try.prog 96 = some 1 := by kernel_rfl
theorem ag96 : aggT Try.prog 96 = some false := by kernel_rfl
theorem by96 : bytesT Try.prog 96 = some 8 := by kernel_rfl
theorem zc96 : (zeroT Try.prog 96).bind V.cells = some [.fnil] := by kernel_rfl
theorem sz97 : szT Try.prog 97 = some 1 := by kernel_rfl
theorem ag97 : aggT Try.prog 97 = some false := by kernel_rfl
theorem by97 : bytesT Try.prog 97 = some 8 := by kernel_rfl
theorem zc97 : (zeroT Try.prog 97).bind V.cells = some [.int .u64 0] := by kernel_rfl
theorem sz98 : szT Try.prog 98 = some 1 := by kernel_rfl
theorem ag98 : aggT Try.prog 98 = some false := by kernel_rfl
theorem by98 : bytesT Try.prog 98 = some 8 := by kernel_rfl
theorem zc98 : (zeroT Try.prog 98).bind V.cells = some [.fnil] := by kernel_rfl
theorem sz99 : szT Try.prog 99 = some 1 := by kernel_rfl
theorem ag99 : aggT Try.prog 99 = some false := by kernel_rfl
theorem by99 : bytesT Try.prog 99 = some 4 := by kernel_rfl
theorem zc99 : (zeroT Try.prog 99).bind V.cells = some [.int .u32 0] := by kernel_rfl
theorem sz100 : szT Try.prog 100 = some 8 := by kernel_rfl
theorem ag100 : aggT Try.prog 100 = some true := by kernel_rfl
theorem by100 : bytesT Try.prog 100 = some 32 := by kernel_rfl
theorem zc100 : (zeroT Try.prog 100).bind V.cells = some [.int .u32 0, .int .u32 0, .int .u32 0, .int .u32 0, .int .u32 0, .int .u32 0, .int .u32 0, .int .u32 0] := by kernel_rfl
theorem sz101 : szT Try.prog 101 = some 8 := by kernel_rfl
theorem ag101 : aggT Try.prog 101 = some true := by kernel_rfl
theorem by101 : bytesT Try.prog 101 = some 32 := by kernel_rfl
theorem zc101 : (zeroT Try.prog 101).bind V.cells = some [.int .u32 0, .int .u32 0, .int .u32 0, .int .u32 0, .int .u32 0, .int .u32 0, .int .u32 0, .int .u32 0] := by kernel_rfl
theorem sz102 : szT Try.prog 102 = some 1 := by kernel_rfl
theorem ag102 : aggT Try.prog 102 = some false := by kernel_rfl
theorem by102 : bytesT Try.prog 102 = some 8 := by kernel_rfl
theorem zc102 : (zeroT Try.prog 102).bind V.cells = some [.fnil] := by kernel_rfl
theorem sz103 : szT Try.prog 103 = some 1 := by kernel_rfl
theorem ag103 : aggT Try.prog 103 = some false := by kernel_rfl
theorem by103 : bytesT Try.prog 103 = some 8 := by kernel_rfl
theorem zc103 : (zeroT Try.prog 103).bind V.cells = some [.fnil] := by kernel_rfl
theorem sz104 : szT Try.prog 104 = some 1 := by kernel_rfl
theorem ag104 : aggT Try.prog 104 = some false := by kernel_rfl
theorem by104 : bytesT Try.prog 104 = some 8 := by kernel_rfl
theorem zc104 : (zeroT Try.prog 104).bind V.cells = some [.fnil] := by kernel_rfl
theorem sz105 : szT Try.prog 105 = some 64 := by kernel_rfl
theorem ag105 : aggT Try.prog 105 = some true := by kernel_rfl
theorem by105 : bytesT Try.prog 105 = some 64 := by kernel_rfl
theorem zc105 : (zeroT Try.prog 105).bind V.cells = some [.int .u8 0, .int .u8 0, .int .u8 0, .int .u8 0, .int .u8 0, .int .u8 0, .int .u8 0, .int .u8 0, .int .u8 0, .int .u8 0, .int .u8 0, .int .u8 0, .int .u8 0, .int .u8 0, .int .u8 0, .int .u8 0, .int .u8 0, .int .u8 0, .int .u8 0, .int .u8 0, .int .u8 0, .int .u8 0, .int .u8 0, .int .u8 0, .int .u8 0, .int .u8 0, .int .u8 0, .int .u8 0, .int .u8 0, .int .u8 0, .int .u8 0, .int .u8 0, .int .u8 0, .int .u8 0, .int .u8 0, .int .u8 0, .int .u8 0, .int .u8 0, .int .u8 0, .int .u8 0, .int .u8 0, .int .u8 0, .int .u8 0, .int .u8 0, .int .u8 0, .int .u8 0, .int .u8 0, .int .u8 0, .int .u8 0, .int .u8 0, .int .u8 0, .int .u8 0, .int .u8 0, .int .u8 0, .int .u8 0, .int .u8 0, .int .u8 0, .int .u8 0, .int .u8 0, .int .u8 0, .int .u8 0, .int .u8 0, .int .u8 0, .int .u8 0] := by kernel_rfl
theorem sz106 : szT Try.prog 106 = some 1 := by kernel_rfl
theorem ag106 : aggT Try.prog 106 = some false := by kernel_rfl
theorem by106 : bytesT Try.prog 106 = some 8 := by kernel_rfl
theorem zc106 : (zeroT Try.prog 106).bind V.cells = some [.fnil] := by kernel_rfl
theorem sz107 : szT Try.prog 107 = some 1 := by kernel_rfl
theorem ag107 : aggT Try.prog 107 = some false := by kernel_rfl
theorem by107 : bytesT Try.prog 107 = some 8 := by kernel_rfl
theorem zc107 : (zeroT Try.prog 107).bind V.cells = some [.pnil] := by kernel_rfl
theorem sz108 : szT Try.prog 108 = some 1 := by kernel_rfl
theorem ag108 : aggT Try.prog 108 = some false := by kernel_rfl
theorem by108 : bytesT Try.prog 108 = some 8 := by kernel_rfl
theorem zc108 : (zeroT Try.prog 108).bind V.cells = some [.fnil] := by kernel_rfl
theorem sz109 : szT Try.prog 109 = some 1 := by kernel_rfl
theorem ag109 : aggT Try.prog 109 = some false := by kernel_rfl
theorem by109 : bytesT Try.prog 109 = some 8 := by kernel_rfl
theorem zc109 : (zeroT Try.prog 109).bind V.cells = some [.pnil] := by kernel_rfl
theorem sz110 : szT Try.prog 110 = some 64 := by kernel_rfl
theorem ag110 : aggT Try.prog 110 = some true := by kernel_rfl
theorem by110 : bytesT Try.prog 110 = some 256 := by kernel_rfl
theorem zc110 : (zeroT Try.prog 110).bind V.cells = some [.int .u32 0, .int .u32 0, .int .u32 0, .int .u32 0, .int .u32 0, .int .u32 0, .int .u32 0, .int .u32 0, .int .u32 0, .int .u32 0, .int .u32 0, .int .u32 0, .int .u32 0, .int .u32 0, .int .u32 0, .int .u32 0, .int .u32 0, .int .u32 0, .int .u32 0, .int .u32 0, .int .u32 0, .int .u32 0, .int .u32 0, .int .u32 0, .int .u32 0, .int .u32 0, .int .u32 0, .int .u32 0, .int .u32 0, .int .u32 0, .int .u32 0, .int .u32 0, .int .u32 0, .int .u32 0, .int .u32 0, .int .u32 0, .int .u32 0, .int .u32 0, .int .u32 0, .int .u32 0, .int .u32 0, .int .u32 0, .int .u32 0, .int .u32 0, .int .u32 0, .int .u32 0, .int .u32 0, .int .u32 0, .int .u32 0, .int .u32 0, .int .u32 0, .int .u32 0, .int .u32 0, .int .u32 0, .int .u32 0, .int .u32 0, .int .u32 0, .int .u32 0, .int .u32 0, .int .u32 0, .int .u32 0, .int .u32 0, .int .u32 0, .int .u32 0] := by kernel_rfl
theorem sz111 : szT Try.prog 111 = some 1 := by kernel_rfl
theorem ag111 : aggT Try.prog 111 = some false := by kernel_rfl
theorem by111 : bytesT Try.prog 111 = some 8 := by kernel_rfl
theorem zc111 : (zeroT Try.prog 111).bind V.cells = some [.fnil] := by kernel_rfl
theorem sz112 : szT Try.prog 112 = some 1 := by kernel_rfl
theorem ag112 : aggT Try.prog 112 = some false := by kernel_rfl
theorem by112 : bytesT Try.prog 112 = some 8 := by kernel_rfl
theorem zc112 : (zeroT Try.prog 112).bind V.cells = some [.fnil] := by kernel_rfl
theorem sz113 : szT Try.prog 113 = some 4 := by kernel_rfl
theorem ag113 : aggT Try.prog 113 = some true := by kernel_rfl
theorem by113 : bytesT Try.prog 113 = some 40 := by kernel_rfl
theorem zc113 : (zeroT Try.prog 113).bind V.cells = some [.pnil, .pnil, .pnil, .str []] := by kernel_rfl
theorem sz114 : szT Try.prog 114 = some 4 := by kernel_rfl
theorem ag114 : aggT Try.prog 114 = some true := by kernel_rfl
theorem by114 : bytesT Try.prog 114 = some 40 := by kernel_rfl
theorem zc114 : (zeroT Try.prog 114).bind V.cells = some [.pnil, .pnil, .pnil, .str []] := by kernel_rfl
theorem sz115 : szT Try.prog 115 = some 0 := by kernel_rfl
theorem ag115 : aggT Try.prog 115 = some true := by kernel_rfl
theorem by115 : bytesT Try.prog 115 = some 0 := by kernel_rfl
theorem zc115 : (zeroT Try.prog 115).bind V.cells = some [] := by kernel_rfl
theorem sz116 : szT Try.prog 116 = some 0 := by kernel_rfl
theorem ag116 : aggT Try.prog 116 = some true := by kernel_rfl
theorem by116 : bytesT Try.prog 116 = some 0 := by kernel_rfl
theorem zc116 : (zeroT Try.prog 116).bind V.cells = some [] := by kernel_rfl
theorem sz117 : szT Try.prog 117 = some 0 := by kernel_rfl
theorem ag117 : aggT Try.prog 117 = some true := by kernel_rfl
theorem by117 : bytesT Try.prog 117 = some 0 := by kernel_rfl
theorem zc117 : (zeroT Try.prog 117).bind V.cells = some [] := by kernel_rfl
theorem sz118 : szT Try.prog 118 = some 1 := by kernel_rfl
theorem ag118 : aggT Try.prog 118 = some false := by kernel_rfl
theorem by118 : bytesT Try.prog 118 = some 8 := by kernel_rfl
theorem zc118 : (zeroT Try.prog 118).bind V.cells = some [.fnil] := by kernel_rfl
theorem sz119 : szT Try.prog 119 = some 1 := by kernel_rfl
theorem ag119 : aggT Try.prog 119 = some false := by kernel_rfl
theorem by119 : bytesT Try.prog 119 = some 1 := by kernel_rfl
theorem zc119 : (zeroT Try.prog 119).bind V.cells = some [.int .u8 0] := by kernel_rfl
theorem sz120 : szT Try.prog 120 = some 1 := by kernel_rfl
theorem ag120 : aggT Try.prog 120 = some false := by kernel_rfl
theorem by120 : bytesT Try.prog 120 = some 1 := by kernel_rfl
theorem zc120 : (zeroT Try.prog 120).bind V.cells = some [.int .u8 0] := by kernel_rfl
theorem sz121 : szT Try.prog 121 = some 1 := by kernel_rfl
theorem ag121 : aggT Try.prog 121 = some false := by kernel_rfl
theorem by121 : bytesT Try.prog 121 = some 8 := by kernel_rfl
theorem zc121 : (zeroT Try.prog 121).bind V.cells = some [.fnil] := by kernel_rfl
theorem sz122 : szT Try.prog 122 = some 1 := by kernel_rfl
theorem ag122 : aggT Try.prog 122 = some false := by kernel_rfl
theorem by122 : bytesT Try.prog 122 = some 8 := by kernel_rfl
theorem zc122 : (zeroT Try.prog 122).bind V.cells = some [.pnil] := by kernel_rfl
theorem sz123 : szT Try.prog 123 = some 1 := by kernel_rfl
theorem ag123 : aggT Try.prog 123 = some false := by kernel_rfl
theorem by123 : bytesT Try.prog 123 = some 4 := by kernel_rfl
theorem zc123 : (zeroT Try.prog 123).bind V.cells = some [.int .i32 0] := by kernel_rfl
theorem sz124 : szT Try.prog 124 = some 1 := by kernel_rfl
theorem ag124 : aggT Try.prog 124 = some false := by kernel_rfl
theorem by124 : bytesT Try.prog 124 = some 4 := by kernel_rfl
theorem zc124 : (zeroT Try.prog 124).bind V.cells = some [.int .i32 0] := by kernel_rfl
theorem sz125 : szT Try.prog 125 = some 11 := by kernel_rfl
theorem ag125 : aggT Try.prog 125 = some true := by kernel_rfl
theorem by125 : bytesT Try.prog 125 = some 48 := by kernel_rfl
theorem zc125 : (zeroT Try.prog 125).bind V.cells = some [.int .u64 0, .int .u64 0, .int .u32 0, .int .u8 0, .int .u8 0, .int .u8 0, .int .u8 0, .fnil, .pnil, .int .i32 0, .int .i32 0] := by kernel_rfl
theorem sz126 : szT Try.prog 126 = some 11 := by kernel_rfl
theorem ag126 : aggT Try.prog 126 = some true := by kernel_rfl
theorem by126 : bytesT Try.prog 126 = some 48 := by kernel_rfl
theorem zc126 : (zeroT Try.prog 126).bind V.cells = some [.int .u64 0, .int .u64 0, .int .u32 0, .int .u8 0, .int .u8 0, .int .u8 0, .int .u8 0, .fnil, .pnil, .int .i32 0, .int .i32 0] := by kernel_rfl
theorem sz127 : szT Try.prog 127 = some 1 := by kernel_rfl
theorem ag127 : aggT Try.prog 127 = some false := by kernel_rfl
theorem by127 : bytesT Try.prog 127 = some 8 := by kernel_rfl
theorem zc127 : (zeroT Try.prog 127).bind V.cells = some [.pnil] := by kernel_rfl
theorem sl22 : SlT Try.prog 22 33 1 24 := .of _ Try.underlying22 sz33 by33 zc33 rfl (by decide)
theorem sl25 : SlT Try.prog 25 32 3 24 := .of _ Try.underlying25 sz32 by32 zc32 rfl (by decide)
theorem sl33 : SlT Try.prog 33 38 1 24 := .of _ Try.underlying33 sz38 by38 zc38 rfl (by decide)
theorem sl38 : SlT Try.prog 38 5 1 1 := .of _ Try.underlying38 sz5 by5 zc5 rfl (by decide)
theorem sl39 : SlT Try.prog 39 37 32 32 := .of _ Try.underlying39 sz37 by37 zc37 rfl (by decide)
theorem sl48 : SlT Try.prog 48 54 34 48 := .of _ Try.underlying48 sz54 by54 zc54 rfl (by decide)
theorem sl71 : SlT Try.prog 71 9 1 16 := .of _ Try.underlying71 sz9 by9 zc9 rfl (by decide)
theorem sl86 : SlT Try.prog 86 3 1 8 := .of _ Try.underlying86 sz3 by3 zc3 rfl (by decide)
theorem sl95 : SlT Try.prog 95 97 1 8 := .of _ Try.underlying95 sz97 by97 zc97 rfl (by decide)
theorem ok : progOkB Try.prog HH = true := by kernel_rfl
theorem progOk : ProgOk Try.prog HH := progOk_of ok gtab (fun g v h => findTab_mem h) (List.forall_mem_cons.2 ⟨⟨rfl, 200, fun orc odr => by kernel_rfl⟩, List.forall_mem_cons.2 ⟨⟨rfl, 200, fun orc odr => by kernel_rfl⟩, fun _ h => by simp at h⟩⟩)
end Go.Sv.Try
