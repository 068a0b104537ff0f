/- The seat's own facts: the order of each drawing region, what fixed runs come to, sizes of types. -/
import Derived.Test.YtjhnciflgaijjaaSv4
import Derived.Test.YtjhnciflgaijjaaChecked
import Derived.KernelRfl
set_option linter.unusedVariables false
namespace Go.Sv.Try
open Go Go.Proofs
def planTab : List (Nat × Nat × Plan) :=
 [(3, 12, [(0, []), (1, []), (2, []), (3, []), (4, []), (5, []), (6, []), (7, []), (8, [0, 2]), (9, [])]),
  (4, 33, (List.range' 0 7).map fun i => (i, [])),
  (4, 36, [(0, []), (1, []), (2, []), (3, []), (4, []), (5, []), (7, []), (6, [7]), (8, []), (9, []), (10, [])]),
  (7, 12, (List.range' 0 18).map fun i => (i, [])),
  (9, 40, [(0, []), (1, []), (2, []), (3, []), (4, []), (5, []), (6, []), (7, []), (10, []), (11, []), (12, []), (8, [11]), (9, []), (13, []), (14, []), (15, [])]),
  (10, 22, (List.range' 0 30).map fun i => (i, [])),
  (10, 29, [(0, []), (1, []), (2, []), (3, []), (4, []), (5, []), (6, []), (7, []), (8, []), (9, []), (10, []), (11, []), (12, []), (13, []), (14, [12]), (15, []), (16, [])]),
  (11, 16, [(0, []), (1, []), (3, []), (4, []), (5, []), (6, []), (7, []), (2, [4]), (8, []), (9, []), (10, []), (12, []), (13, []), (14, []), (11, [13]), (15, []), (16, []), (17, []), (18, []), (20, []), (21, []), (22, []), (19, [21]), (23, []), (24, [])]),
  (11, 32, [(0, []), (1, []), (2, []), (3, []), (4, []), (5, []), (6, []), (7, []), (8, []), (9, [3]), (10, []), (11, []), (12, [])]),
  (12, 26, (List.range' 0 12).map fun i => (i, [])),
  (12, 30, [(0, []), (1, []), (2, []), (3, [1]), (4, []), (5, [])]),
  (13, 22, [(0, []), (1, []), (3, []), (4, []), (5, []), (6, []), (7, []), (2, [3]), (8, [])]),
  (13, 25, [(0, []), (2, []), (3, []), (1, [2]), (4, [])]),
  (13, 31, (List.range' 0 18).map fun i => (i, [])),
  (13, 34, [(0, []), (1, []), (2, []), (3, []), (4, []), (5, []), (6, []), (7, []), (8, []), (11, []), (9, [11]), (10, []), (12, [10]), (13, []), (14, []), (15, [])]),
  (20, 8, [(0, []), (2, []), (1, [2]), (3, []), (4, [])]),
  (26, 14, [(0, []), (1, []), (2, []), (3, []), (4, []), (5, []), (6, []), (7, []), (8, []), (9, []), (10, [4, 6, 8]), (11, []), (12, []), (13, []), (14, []), (15, []), (16, [])]),
  (38, 6, (List.range' 0 11).map fun i => (i, [])),
  (38, 11, (List.range' 0 13).map fun i => (i, [])),
  (44, 6, (List.range' 0 11).map fun i => (i, [])),
  (44, 10, (List.range' 0 11).map fun i => (i, [])),
  (44, 11, [(0, []), (1, []), (2, []), (3, []), (4, []), (5, []), (6, []), (7, [0, 1, 4]), (8, []), (9, [0]), (10, []), (11, []), (12, [])]),
  (44, 12, [(0, []), (1, []), (2, []), (3, []), (4, []), (5, []), (6, [0, 3]), (7, [])]),
  (44, 13, [(0, []), (1, []), (2, []), (3, []), (4, []), (5, []), (6, []), (7, []), (8, []), (9, []), (10, []), (11, []), (12, []), (13, []), (14, []), (15, []), (16, []), (17, []), (18, []), (19, []), (20, [0, 1, 4, 5, 8, 11, 14]), (21, []), (22, []), (23, [0]), (24, []), (25, []), (26, [])]),
  (55, 11, [(0, []), (1, []), (2, []), (3, []), (4, [1]), (5, [])]),
  (55, 15, [(0, []), (1, []), (2, []), (3, []), (4, []), (5, []), (6, []), (7, []), (8, [5]), (9, []), (10, [])]),
  (55, 22, [(0, []), (1, []), (3, []), (4, []), (2, [3, 4]), (5, []), (6, []), (7, [])]),
  (61, 4, [(0, []), (1, []), (2, []), (3, []), (4, []), (5, []), (6, []), (7, []), (8, []), (9, []), (10, []), (11, []), (12, []), (13, []), (14, []), (16, []), (17, []), (15, [17]), (18, []), (19, []), (20, [])]),
  (66, 3, (List.range' 0 14).map fun i => (i, [])),
  (66, 7, (List.range' 0 10).map fun i => (i, [])),
  (70, 9, (List.range' 0 14).map fun i => (i, [])),
  (71, 7, [(0, []), (1, []), (2, []), (3, []), (5, []), (6, []), (4, [6]), (7, []), (8, []), (9, [])]),
  (72, 10, [(0, []), (1, []), (2, []), (3, []), (4, []), (5, []), (6, []), (7, []), (8, []), (9, []), (10, [5]), (11, []), (12, []), (13, [])]),
  (73, 14, [(0, []), (1, []), (2, []), (3, []), (4, []), (5, []), (6, [3]), (7, []), (8, [])]),
  (73, 26, (List.range' 0 10).map fun i => (i, [])),
  (73, 32, (List.range' 0 8).map fun i => (i, [])),
  (73, 33, [(0, []), (1, []), (2, []), (3, []), (4, [1]), (5, []), (6, []), (7, []), (8, [])]),
  (73, 36, [(0, []), (1, []), (2, [0]), (3, []), (4, []), (5, [])]),
  (73, 38, [(0, []), (1, []), (2, []), (3, []), (4, []), (5, [1, 4]), (6, [])]),
  (76, 10, (List.range' 0 10).map fun i => (i, [])),
  (76, 12, (List.range' 0 11).map fun i => (i, [])),
  (79, 6, (List.range' 0 9).map fun i => (i, [])),
  (83, 1, (List.range' 0 6).map fun i => (i, [])),
  (87, 16, (List.range' 0 19).map fun i => (i, [])),
  (87, 17, (List.range' 0 12).map fun i => (i, [])),
  (87, 20, (List.range' 0 21).map fun i => (i, [])),
  (87, 25, (List.range' 0 19).map fun i => (i, [])),
  (87, 26, (List.range' 0 24).map fun i => (i, [])),
  (87, 27, [(0, []), (1, []), (2, []), (3, []), (4, []), (5, []), (7, []), (8, []), (9, []), (12, []), (13, []), (14, []), (18, []), (20, []), (21, []), (22, []), (23, []), (25, []), (26, []), (27, []), (28, []), (6, [2, 9, 14, 23, 28]), (10, [2, 14, 23, 28]), (11, []), (15, [2, 23, 28]), (16, []), (17, []), (19, []), (24, []), (29, []), (30, [])]),
  (87, 28, [(0, []), (1, []), (2, []), (4, []), (5, []), (6, []), (9, []), (10, []), (11, []), (14, []), (3, [6, 11]), (7, [11]), (8, []), (12, []), (13, []), (15, []), (16, [])]),
  (87, 29, (List.range' 0 32).map fun i => (i, [])),
  (87, 33, (List.range' 0 15).map fun i => (i, [])),
  (89, 1, [(0, []), (3, []), (1, [3]), (2, []), (4, []), (5, []), (6, []), (7, [])]),
  (96, 1, [(0, []), (1, []), (3, []), (4, []), (6, []), (7, []), (9, []), (10, []), (12, []), (13, []), (15, []), (16, []), (17, []), (2, [4, 7, 10, 13, 16, 17]), (5, [7, 10, 13, 16, 17]), (8, [10, 13, 16, 17]), (11, [13, 16, 17]), (14, [16, 17]), (18, []), (19, [])]),
  (96, 7, [(0, []), (1, []), (2, []), (3, []), (4, []), (5, []), (6, []), (7, []), (8, [2]), (9, []), (10, []), (11, [])]),
  (96, 11, [(0, []), (1, []), (2, []), (3, []), (4, []), (5, []), (6, []), (7, []), (8, []), (9, [2]), (10, []), (11, []), (12, [])]),
  (100, 5, (List.range' 0 26).map fun i => (i, [])),
  (101, 3, (List.range' 0 19).map fun i => (i, [])),
  (102, 29, [(0, []), (1, []), (2, []), (3, []), (4, [1]), (5, []), (6, []), (7, []), (8, [])]),
  (107, 1, (List.range' 0 10).map fun i => (i, [])),
  (110, 6, (List.range' 0 40).map fun i => (i, [])),
  (110, 7, (List.range' 0 10).map fun i => (i, [])),
  (110, 10, (List.range' 0 16).map fun i => (i, [])),
  (110, 16, (List.range' 0 6).map fun i => (i, [])),
  (110, 17, [(0, []), (1, []), (2, []), (4, []), (7, []), (11, []), (12, []), (13, []), (14, []), (15, []), (16, []), (17, []), (18, []), (19, []), (20, []), (22, []), (23, []), (24, []), (26, []), (27, []), (28, []), (3, [1, 12, 15, 17, 24, 28]), (5, [1, 12, 15, 17, 24, 28]), (6, []), (8, [1, 12, 15, 17, 24, 28]), (9, []), (10, []), (21, []), (25, []), (29, []), (30, [])]),
  (110, 18, [(0, []), (2, []), (5, []), (8, []), (9, []), (10, []), (11, []), (12, []), (13, []), (14, []), (15, []), (16, []), (17, []), (18, []), (19, []), (1, [10, 13, 16]), (3, [10, 13, 16]), (4, []), (6, [10, 13, 16]), (7, []), (20, []), (21, [])]),
  (110, 24, (List.range' 0 12).map fun i => (i, [])),
  (115, 3, (List.range' 0 9).map fun i => (i, [])),
  (118, 14, (List.range' 0 5).map fun i => (i, []))]
def planOf (f id : Nat) : Plan := match planTab.find? (fun x => x.1 == f && x.2.1 == id) with
 | some x => x.2.2
 | none => []
def gtab : List (Nat × V) := [(17, .bool true), (24, .bool true)]
def HH : Hints := { plan := planOf, ground := findTab gtab }
theorem Bq9 : HH.plan 12 26 = (List.range' 0 12).map fun i => (i, []) := by kernel_rfl
theorem Br0 : HH.plan 12 30 = [(0, []), (1, []), (2, []), (3, [1]), (4, []), (5, [])] := by kernel_rfl
theorem BC9 : HH.plan 44 6 = (List.range' 0 11).map fun i => (i, []) := by kernel_rfl
theorem Br1 : HH.plan 44 10 = (List.range' 0 11).map fun i => (i, []) := by kernel_rfl
theorem Br2 : HH.plan 44 11 = [(0, []), (1, []), (2, []), (3, []), (4, []), (5, []), (6, []), (7, [0, 1, 4]), (8, []), (9, [0]), (10, []), (11, []), (12, [])] := by kernel_rfl
theorem Br3 : HH.plan 44 12 = [(0, []), (1, []), (2, []), (3, []), (4, []), (5, []), (6, [0, 3]), (7, [])] := by kernel_rfl
theorem Br4 : HH.plan 44 13 = [(0, []), (1, []), (2, []), (3, []), (4, []), (5, []), (6, []), (7, []), (8, []), (9, []), (10, []), (11, []), (12, []), (13, []), (14, []), (15, []), (16, []), (17, []), (18, []), (19, []), (20, [0, 1, 4, 5, 8, 11, 14]), (21, []), (22, []), (23, [0]), (24, []), (25, []), (26, [])] := by kernel_rfl
theorem Br5 : HH.plan 55 11 = [(0, []), (1, []), (2, []), (3, []), (4, [1]), (5, [])] := by kernel_rfl
theorem Br6 : HH.plan 55 15 = [(0, []), (1, []), (2, []), (3, []), (4, []), (5, []), (6, []), (7, []), (8, [5]), (9, []), (10, [])] := by kernel_rfl
theorem Br7 : HH.plan 55 22 = [(0, []), (1, []), (3, []), (4, []), (2, [3, 4]), (5, []), (6, []), (7, [])] := by kernel_rfl
theorem BD0 : HH.plan 66 3 = (List.range' 0 14).map fun i => (i, []) := by kernel_rfl
theorem BD1 : HH.plan 66 7 = (List.range' 0 10).map fun i => (i, []) := by kernel_rfl
theorem BD2 : HH.plan 71 7 = [(0, []), (1, []), (2, []), (3, []), (5, []), (6, []), (4, [6]), (7, []), (8, []), (9, [])] := by kernel_rfl
theorem Br8 : HH.plan 73 14 = [(0, []), (1, []), (2, []), (3, []), (4, []), (5, []), (6, [3]), (7, []), (8, [])] := by kernel_rfl
theorem Br9 : HH.plan 73 26 = (List.range' 0 10).map fun i => (i, []) := by kernel_rfl
theorem Bs0 : HH.plan 73 32 = (List.range' 0 8).map fun i => (i, []) := by kernel_rfl
theorem Bs1 : HH.plan 73 33 = [(0, []), (1, []), (2, []), (3, []), (4, [1]), (5, []), (6, []), (7, []), (8, [])] := by kernel_rfl
theorem Bs2 : HH.plan 73 36 = [(0, []), (1, []), (2, [0]), (3, []), (4, []), (5, [])] := by kernel_rfl
theorem A65 : HH.plan 73 38 = [(0, []), (1, []), (2, []), (3, []), (4, []), (5, [1, 4]), (6, [])] := by kernel_rfl
theorem Bs3 : HH.plan 76 10 = (List.range' 0 10).map fun i => (i, []) := by kernel_rfl
theorem Bs4 : HH.plan 76 12 = (List.range' 0 11).map fun i => (i, []) := by kernel_rfl
theorem BD3 : HH.plan 83 1 = (List.range' 0 6).map fun i => (i, []) := by kernel_rfl
theorem Bs5 : HH.plan 100 5 = (List.range' 0 26).map fun i => (i, []) := by kernel_rfl
theorem Bs6 : HH.plan 101 3 = (List.range' 0 19).map fun i => (i, []) := by kernel_rfl
theorem Bj3 : HH.plan 102 29 = [(0, []), (1, []), (2, []), (3, []), (4, [1]), (5, []), (6, []), (7, []), (8, [])] := by kernel_rfl
theorem Bs7 : HH.plan 110 6 = (List.range' 0 40).map fun i => (i, []) := by kernel_rfl
theorem Bs8 : HH.plan 110 7 = (List.range' 0 10).map fun i => (i, []) := by kernel_rfl
theorem Bj4 : HH.plan 110 10 = (List.range' 0 16).map fun i => (i, []) := by kernel_rfl
theorem Bj5 : HH.plan 110 16 = (List.range' 0 6).map fun i => (i, []) := by kernel_rfl
theorem Bj6 : HH.plan 110 17 = [(0, []), (1, []), (2, []), (4, []), (7, []), (11, []), (12, []), (13, []), (14, []), (15, []), (16, []), (17, []), (18, []), (19, []), (20, []), (22, []), (23, []), (24, []), (26, []), (27, []), (28, []), (3, [1, 12, 15, 17, 24, 28]), (5, [1, 12, 15, 17, 24, 28]), (6, []), (8, [1, 12, 15, 17, 24, 28]), (9, []), (10, []), (21, []), (25, []), (29, []), (30, [])] := by kernel_rfl
theorem Bj7 : HH.plan 110 18 = [(0, []), (2, []), (5, []), (8, []), (9, []), (10, []), (11, []), (12, []), (13, []), (14, []), (15, []), (16, []), (17, []), (18, []), (19, []), (1, [10, 13, 16]), (3, [10, 13, 16]), (4, []), (6, [10, 13, 16]), (7, []), (20, []), (21, [])] := by kernel_rfl
theorem Bj8 : HH.plan 110 24 = (List.range' 0 12).map fun i => (i, []) := by kernel_rfl
theorem Bs9 : HH.plan 115 3 = (List.range' 0 9).map fun i => (i, []) := by kernel_rfl
theorem Bj9 : HH.plan 118 14 = (List.range' 0 5).map fun i => (i, []) := by kernel_rfl
theorem sz3 : szT Try.prog 3 = some 1 := by kernel_rfl
theorem ag3 : aggT Try.prog 3 = some false := by kernel_rfl
theorem by3 : bytesT Try.prog 3 = some 8 := by kernel_rfl
theorem zc3 : (zeroT Try.prog 3).bind V.cells = some [.int .i64 0] := by kernel_rfl
theorem sz5 : szT Try.prog 5 = some 1 := by kernel_rfl
theorem ag5 : aggT Try.prog 5 = some false := by kernel_rfl
theorem by5 : bytesT Try.prog 5 = some 1 := by kernel_rfl
theorem zc5 : (zeroT Try.prog 5).bind V.cells = some [.int .u8 0] := by kernel_rfl
theorem sz9 : szT Try.prog 9 = some 1 := by kernel_rfl
theorem ag9 : aggT Try.prog 9 = some false := by kernel_rfl
theorem by9 : bytesT Try.prog 9 = some 16 := by kernel_rfl
theorem zc9 : (zeroT Try.prog 9).bind V.cells = some [.str []] := by kernel_rfl
theorem BO8 : szT Try.prog 22 = some 1 := by kernel_rfl
theorem BV0 : aggT Try.prog 22 = some false := by kernel_rfl
theorem B10 : szT Try.prog 23 = some 1 := by kernel_rfl
theorem B11 : aggT Try.prog 23 = some false := by kernel_rfl
theorem As0 : szT Try.prog 32 = some 32 := by kernel_rfl
theorem AW4 : aggT Try.prog 32 = some true := by kernel_rfl
theorem B12 : bytesT Try.prog 32 = some 32 := by kernel_rfl
theorem BX9 : (zeroT Try.prog 32).bind V.cells = some [.int .u8 0, .int .u8 0, .int .u8 0, .int .u8 0, .int .u8 0, .int .u8 0, .int .u8 0, .int .u8 0, .int .u8 0, .int .u8 0, .int .u8 0, .int .u8 0, .int .u8 0, .int .u8 0, .int .u8 0, .int .u8 0, .int .u8 0, .int .u8 0, .int .u8 0, .int .u8 0, .int .u8 0, .int .u8 0, .int .u8 0, .int .u8 0, .int .u8 0, .int .u8 0, .int .u8 0, .int .u8 0, .int .u8 0, .int .u8 0, .int .u8 0, .int .u8 0] := by kernel_rfl
theorem BD7 : szT Try.prog 34 = some 34 := by kernel_rfl
theorem BY0 : aggT Try.prog 34 = some true := by kernel_rfl
theorem B13 : bytesT Try.prog 34 = some 48 := by kernel_rfl
theorem B14 : (zeroT Try.prog 34).bind V.cells = some [.int .i64 0, .int .i64 0, .int .u8 0, .int .u8 0, .int .u8 0, .int .u8 0, .int .u8 0, .int .u8 0, .int .u8 0, .int .u8 0, .int .u8 0, .int .u8 0, .int .u8 0, .int .u8 0, .int .u8 0, .int .u8 0, .int .u8 0, .int .u8 0, .int .u8 0, .int .u8 0, .int .u8 0, .int .u8 0, .int .u8 0, .int .u8 0, .int .u8 0, .int .u8 0, .int .u8 0, .int .u8 0, .int .u8 0, .int .u8 0, .int .u8 0, .int .u8 0, .int .u8 0, .int .u8 0] := by kernel_rfl
theorem BV1 : szT Try.prog 36 = some 1 := by kernel_rfl
theorem BY1 : aggT Try.prog 36 = some false := by kernel_rfl
theorem B15 : aggT Try.prog 43 = some false := by kernel_rfl
theorem A28 : szT Try.prog 44 = some 1 := by kernel_rfl
theorem A66 : aggT Try.prog 44 = some false := by kernel_rfl
theorem B16 : bytesT Try.prog 44 = some 24 := by kernel_rfl
theorem BY2 : (zeroT Try.prog 44).bind V.cells = some [.snil] := by kernel_rfl
theorem BY3 : szT Try.prog 45 = some 1 := by kernel_rfl
theorem BY4 : aggT Try.prog 45 = some false := by kernel_rfl
theorem B17 : (zeroT Try.prog 45).bind V.cells = some [.int .i64 0] := by kernel_rfl
theorem B18 : aggT Try.prog 52 = some false := by kernel_rfl
theorem AP2 : szT Try.prog 70 = some 41 := by kernel_rfl
theorem B19 : aggT Try.prog 70 = some true := by kernel_rfl
theorem B20 : aggT Try.prog 84 = some false := by kernel_rfl
theorem BY5 : szT Try.prog 99 = some 2 := by kernel_rfl
theorem B21 : aggT Try.prog 99 = some true := by kernel_rfl
theorem B22 : (zeroT Try.prog 99).bind V.cells = some [.snil, .snil] := by kernel_rfl
theorem BV2 : aggT Try.prog 125 = some false := by kernel_rfl
theorem BV3 : aggT Try.prog 146 = some false := by kernel_rfl
theorem BO0 : szT Try.prog 150 = some 2 := by kernel_rfl
theorem BO1 : aggT Try.prog 150 = some true := by kernel_rfl
theorem BV4 : szT Try.prog 172 = some 2 := by kernel_rfl
theorem BV5 : (zeroT Try.prog 172).bind V.cells = some [.int .u8 0, .snil] := by kernel_rfl
theorem BV6 : szT Try.prog 176 = some 1 := by kernel_rfl
theorem Bt0 : aggT Try.prog 176 = some false := by kernel_rfl
theorem BV7 : (zeroT Try.prog 176).bind V.cells = some [.pnil] := by kernel_rfl
theorem BV8 : szT Try.prog 179 = some 1 := by kernel_rfl
theorem BV9 : aggT Try.prog 179 = some false := by kernel_rfl
theorem BW0 : szT Try.prog 180 = some 5 := by kernel_rfl
theorem BW1 : (zeroT Try.prog 180).bind V.cells = some [.pnil, .pnil, .pnil, .pnil, .pnil] := by kernel_rfl
theorem BW2 : szT Try.prog 191 = some 1 := by kernel_rfl
theorem BD4 : szT Try.prog 194 = some 1 := by kernel_rfl
theorem BW3 : aggT Try.prog 194 = some false := by kernel_rfl
theorem Bt1 : szT Try.prog 196 = some 8 := by kernel_rfl
theorem BW4 : aggT Try.prog 196 = some true := by kernel_rfl
theorem BD5 : szT Try.prog 200 = some 64 := by kernel_rfl
theorem BW5 : aggT Try.prog 200 = some true := by kernel_rfl
theorem BW6 : szT Try.prog 212 = some 64 := by kernel_rfl
theorem BO2 : SlT Try.prog 22 44 1 24 := .of _ Try.underlying22 A28 B16 BY2 rfl (by decide)
theorem B23 : SlT Try.prog 23 34 34 48 := .of _ Try.underlying23 BD7 B13 B14 rfl (by decide)
theorem Bv2 : SlT Try.prog 36 32 32 32 := .of _ Try.underlying36 As0 B12 BX9 rfl (by decide)
theorem BW7 : SlT Try.prog 43 9 1 16 := .of _ Try.underlying43 sz9 by9 zc9 rfl (by decide)
theorem Bt2 : SlT Try.prog 44 5 1 1 := .of _ Try.underlying44 sz5 by5 zc5 rfl (by decide)
theorem BY6 : SlT Try.prog 52 3 1 8 := .of _ Try.underlying52 sz3 by3 zc3 rfl (by decide)
theorem ok : progOkB Try.prog HH = true := by kernel_rfl
theorem progOk : ProgOk Try.prog HH := Bi0 ok gtab (fun g v h => AF5 h) (List.forall_mem_cons.2 ⟨⟨rfl, 300, fun orc odr => by kernel_rfl⟩, List.forall_mem_cons.2 ⟨⟨rfl, 300, fun orc odr => by kernel_rfl⟩, fun _ h => by simp at h⟩⟩)
end Go.Sv.Try
