/- The seat's own facts: the order of each drawing region, what fixed runs come to, sizes of types. -/
import Derived.Test.YtnikcplcdapjhaaSv4
import Derived.Test.YtnikcplcdapjhaaChecked
import Derived.KernelRfl
set_option linter.unusedVariables false
namespace Go.Sv.Try
open Go Go.Proofs
def planTab : List (Nat × Nat × Plan) :=
 [(4, 22, (List.range' 0 12).map fun i => (i, [])),
  (4, 23, (List.range' 0 14).map fun i => (i, [])),
  (9, 1, (List.range' 0 11).map fun i => (i, [])),
  (10, 1, (List.range' 0 33).map fun i => (i, [])),
  (10, 6, [(0, []), (1, []), (2, []), (3, []), (4, []), (5, []), (6, []), (7, []), (8, []), (9, []), (10, []), (11, []), (12, []), (13, []), (14, []), (15, []), (16, []), (17, []), (18, []), (20, []), (19, []), (21, []), (22, []), (23, []), (24, []), (25, []), (26, []), (27, []), (28, []), (29, []), (30, []), (31, []), (32, [])]),
  (10, 8, [(0, []), (1, []), (2, []), (4, []), (5, []), (6, []), (7, []), (8, []), (9, []), (10, []), (11, []), (12, []), (13, []), (3, [7, 9, 11, 13]), (14, [7, 9, 11]), (15, []), (16, []), (17, [])]),
  (10, 16, (List.range' 0 14).map fun i => (i, [])),
  (12, 6, (List.range' 0 11).map fun i => (i, [])),
  (12, 11, (List.range' 0 13).map fun i => (i, [])),
  (13, 1, (List.range' 0 11).map fun i => (i, [])),
  (15, 1, (List.range' 0 12).map fun i => (i, [])),
  (15, 2, (List.range' 0 9).map fun i => (i, [])),
  (15, 7, (List.range' 0 10).map fun i => (i, [])),
  (15, 8, (List.range' 0 12).map fun i => (i, [])),
  (15, 10, (List.range' 0 17).map fun i => (i, [])),
  (15, 13, [(0, []), (1, []), (2, []), (3, []), (4, []), (5, []), (6, []), (7, []), (8, []), (9, []), (10, []), (11, []), (12, []), (13, []), (14, []), (15, []), (16, []), (17, []), (18, []), (19, [3, 5]), (20, []), (21, [])]),
  (15, 14, [(0, []), (1, []), (2, []), (3, []), (4, []), (5, []), (6, []), (7, []), (8, [2]), (9, [])]),
  (15, 16, [(0, []), (1, []), (2, []), (3, []), (4, [2]), (5, [])]),
  (15, 18, (List.range' 0 12).map fun i => (i, [])),
  (15, 20, (List.range' 0 10).map fun i => (i, [])),
  (15, 21, (List.range' 0 10).map fun i => (i, [])),
  (15, 22, (List.range' 0 9).map fun i => (i, [])),
  (15, 23, [(0, []), (1, []), (2, []), (3, []), (4, []), (5, []), (6, [2]), (7, [2]), (8, [])]),
  (15, 25, (List.range' 0 9).map fun i => (i, [])),
  (15, 26, (List.range' 0 10).map fun i => (i, [])),
  (15, 27, [(0, []), (1, []), (2, []), (3, []), (4, []), (5, []), (6, []), (7, []), (8, []), (9, []), (10, []), (11, []), (12, []), (13, []), (14, []), (15, []), (16, []), (17, []), (18, []), (19, [2]), (20, [])]),
  (18, 4, [(0, []), (1, []), (2, []), (3, []), (4, []), (5, []), (6, []), (7, [5]), (8, []), (9, []), (10, []), (11, [])]),
  (19, 5, [(0, []), (1, []), (2, []), (3, []), (4, []), (5, []), (6, []), (7, [0]), (8, []), (9, [])]),
  (19, 12, (List.range' 0 11).map fun i => (i, [])),
  (19, 13, [(0, []), (1, []), (2, []), (3, []), (4, []), (5, []), (6, []), (7, []), (8, []), (9, []), (10, []), (11, []), (12, []), (13, []), (14, []), (15, []), (16, [1, 4, 5, 8]), (17, []), (18, []), (19, []), (20, [])]),
  (20, 3, (List.range' 0 7).map fun i => (i, [])),
  (20, 6, [(0, []), (1, []), (2, []), (3, []), (4, []), (5, []), (6, []), (7, [3]), (8, [])]),
  (20, 7, [(0, []), (1, []), (2, []), (3, []), (4, []), (5, []), (6, []), (7, []), (8, []), (9, []), (10, [3, 5, 7]), (11, []), (12, [])]),
  (20, 12, (List.range' 0 11).map fun i => (i, [])),
  (21, 4, (List.range' 0 17).map fun i => (i, [])),
  (24, 13, (List.range' 0 8).map fun i => (i, [])),
  (24, 15, (List.range' 0 15).map fun i => (i, [])),
  (26, 1, [(0, []), (1, []), (2, []), (3, []), (4, []), (5, []), (6, []), (7, []), (8, []), (10, []), (11, []), (12, []), (13, []), (14, []), (15, []), (16, []), (17, []), (18, []), (9, [13, 18]), (19, []), (20, []), (21, [])]),
  (27, 3, (List.range' 0 8).map fun i => (i, [])),
  (29, 1, [(0, []), (1, []), (2, []), (3, []), (4, []), (5, []), (6, [3]), (7, []), (8, [])]),
  (30, 1, [(0, []), (1, []), (2, []), (3, []), (4, []), (5, []), (6, []), (7, []), (8, []), (9, []), (10, []), (11, []), (12, []), (13, []), (14, []), (15, []), (16, []), (17, []), (18, []), (19, []), (20, []), (21, []), (22, [21]), (23, []), (24, []), (25, []), (26, []), (27, []), (28, []), (29, []), (30, []), (31, []), (32, []), (33, []), (34, [])]),
  (30, 2, (List.range' 0 9).map fun i => (i, [])),
  (32, 2, (List.range' 0 9).map fun i => (i, [])),
  (33, 0, [(0, []), (1, []), (2, []), (3, []), (4, []), (5, []), (6, []), (7, []), (8, []), (9, []), (10, []), (11, []), (12, []), (13, [3]), (14, []), (15, [])]),
  (33, 8, [(0, []), (1, []), (2, []), (3, []), (4, []), (5, []), (6, []), (7, []), (8, []), (9, []), (10, []), (11, []), (12, []), (13, []), (14, []), (15, []), (16, [3]), (17, []), (18, [])]),
  (36, 3, [(0, []), (1, []), (2, []), (3, []), (4, []), (5, []), (6, [0]), (7, []), (8, []), (9, [])]),
  (38, 1, (List.range' 0 10).map fun i => (i, [])),
  (39, 2, [(0, []), (1, []), (2, []), (3, []), (4, []), (5, []), (6, []), (7, []), (8, []), (9, []), (10, []), (11, []), (12, []), (14, []), (15, []), (16, []), (17, []), (13, [17]), (18, []), (19, [])]),
  (39, 4, [(0, []), (1, []), (2, []), (3, []), (4, []), (5, []), (6, []), (7, []), (8, []), (9, []), (10, []), (11, []), (12, []), (13, []), (14, []), (15, []), (16, []), (17, []), (18, []), (19, []), (20, []), (21, [3, 7, 10, 12]), (22, []), (23, []), (24, [])]),
  (40, 1, (List.range' 0 10).map fun i => (i, [])),
  (41, 2, (List.range' 0 11).map fun i => (i, [])),
  (42, 2, (List.range' 0 11).map fun i => (i, [])),
  (42, 4, [(0, []), (1, []), (2, []), (3, []), (4, []), (5, []), (6, []), (7, [3, 4]), (8, [])]),
  (43, 4, (List.range' 0 21).map fun i => (i, [])),
  (43, 5, (List.range' 0 12).map fun i => (i, [])),
  (43, 7, (List.range' 0 25).map fun i => (i, [])),
  (43, 8, [(0, []), (1, []), (2, []), (3, []), (4, []), (5, []), (6, []), (7, []), (8, []), (9, [5]), (10, []), (11, []), (12, [])]),
  (43, 9, [(0, []), (1, []), (2, []), (3, []), (4, []), (5, []), (6, [5]), (7, []), (8, [])]),
  (43, 10, [(0, []), (1, []), (2, []), (3, []), (4, []), (5, []), (6, []), (7, []), (8, []), (9, []), (10, []), (11, []), (12, []), (13, []), (14, []), (15, []), (16, [8, 10, 13]), (17, []), (18, []), (19, [10, 13]), (20, []), (21, []), (22, [13]), (23, []), (24, []), (25, [])]),
  (44, 10, (List.range' 0 10).map fun i => (i, [])),
  (45, 3, [(0, []), (1, []), (2, []), (3, []), (4, []), (5, []), (6, []), (7, []), (8, []), (9, []), (12, []), (13, []), (10, [4, 8]), (11, []), (14, []), (15, []), (16, []), (17, []), (18, []), (19, [])]),
  (48, 3, [(0, []), (1, []), (2, []), (3, []), (4, []), (5, []), (6, []), (7, []), (8, []), (10, []), (11, []), (12, []), (13, []), (9, [13]), (14, [])]),
  (48, 8, (List.range' 0 12).map fun i => (i, [])),
  (48, 9, (List.range' 0 9).map fun i => (i, [])),
  (52, 5, (List.range' 0 13).map fun i => (i, [])),
  (55, 1, (List.range' 0 7).map fun i => (i, [])),
  (55, 3, (List.range' 0 8).map fun i => (i, [])),
  (57, 1, (List.range' 0 16).map fun i => (i, [])),
  (57, 2, (List.range' 0 9).map fun i => (i, [])),
  (60, 12, (List.range' 0 14).map fun i => (i, [])),
  (60, 16, (List.range' 0 11).map fun i => (i, [])),
  (60, 20, (List.range' 0 20).map fun i => (i, [])),
  (60, 22, (List.range' 0 23).map fun i => (i, [])),
  (60, 24, (List.range' 0 31).map fun i => (i, [])),
  (61, 0, (List.range' 0 12).map fun i => (i, [])),
  (61, 1, (List.range' 0 11).map fun i => (i, [])),
  (62, 1, (List.range' 0 11).map fun i => (i, [])),
  (65, 6, (List.range' 0 40).map fun i => (i, [])),
  (65, 7, (List.range' 0 10).map fun i => (i, [])),
  (65, 10, (List.range' 0 16).map fun i => (i, [])),
  (65, 16, (List.range' 0 6).map fun i => (i, [])),
  (65, 17, [(0, []), (1, []), (2, []), (4, []), (7, []), (11, []), (12, []), (13, []), (14, []), (15, []), (16, []), (17, []), (18, []), (19, []), (20, []), (22, []), (23, []), (24, []), (26, []), (27, []), (28, []), (3, [1, 12, 15, 17, 24, 28]), (5, [1, 12, 15, 17, 24, 28]), (6, []), (8, [1, 12, 15, 17, 24, 28]), (9, []), (10, []), (21, []), (25, []), (29, []), (30, [])]),
  (65, 18, [(0, []), (2, []), (5, []), (8, []), (9, []), (10, []), (11, []), (12, []), (13, []), (14, []), (15, []), (16, []), (17, []), (18, []), (19, []), (1, [10, 13, 16]), (3, [10, 13, 16]), (4, []), (6, [10, 13, 16]), (7, []), (20, []), (21, [])]),
  (65, 24, (List.range' 0 12).map fun i => (i, [])),
  (67, 2, [(0, []), (1, []), (2, []), (3, []), (4, [0, 3]), (5, []), (6, []), (7, [3]), (8, [])]),
  (69, 2, (List.range' 0 26).map fun i => (i, [])),
  (69, 3, [(0, []), (1, []), (2, []), (3, []), (4, []), (5, []), (6, []), (7, []), (8, []), (9, []), (10, [7]), (11, []), (12, []), (13, [])]),
  (69, 5, [(0, []), (1, []), (2, []), (3, []), (4, []), (5, []), (6, []), (7, []), (8, []), (9, []), (10, [7]), (11, []), (12, []), (13, [])]),
  (69, 8, [(0, []), (1, []), (2, []), (3, []), (4, []), (5, []), (6, []), (7, []), (8, []), (9, []), (10, []), (11, []), (12, []), (13, []), (16, []), (17, []), (18, []), (19, []), (14, [9, 13, 19]), (15, [19]), (20, []), (21, []), (22, []), (23, [])]),
  (69, 11, [(0, []), (1, []), (2, []), (3, []), (4, []), (5, []), (6, []), (7, []), (8, []), (9, []), (10, []), (11, []), (12, []), (13, []), (15, []), (16, []), (17, []), (18, []), (14, [18]), (19, []), (20, []), (21, [])]),
  (69, 13, [(0, []), (1, []), (2, []), (3, []), (4, []), (5, []), (6, []), (7, []), (9, []), (10, []), (11, []), (12, []), (8, [12]), (13, []), (14, [])]),
  (70, 14, (List.range' 0 5).map fun i => (i, [])),
  (72, 3, [(0, []), (1, []), (2, []), (3, []), (5, []), (6, []), (7, []), (8, []), (4, [5, 8]), (9, []), (10, [])]),
  (73, 1, [(0, []), (1, []), (2, []), (4, []), (3, [4]), (5, []), (6, [])]),
  (78, 1, (List.range' 0 10).map fun i => (i, []))]
def planOf (f id : Nat) : Plan := match planTab.find? (fun x => x.1 == f && x.2.1 == id) with
 | some x => x.2.2
 | none => []
def gtab : List (Nat × V) := []
def HH : Hints := { plan := planOf, ground := findTab gtab }
theorem BZ4 : HH.plan 9 1 = (List.range' 0 11).map fun i => (i, []) := by kernel_rfl
theorem BJ3 : HH.plan 10 1 = (List.range' 0 33).map fun i => (i, []) := by kernel_rfl
theorem A27 : HH.plan 10 6 = [(0, []), (1, []), (2, []), (3, []), (4, []), (5, []), (6, []), (7, []), (8, []), (9, []), (10, []), (11, []), (12, []), (13, []), (14, []), (15, []), (16, []), (17, []), (18, []), (20, []), (19, []), (21, []), (22, []), (23, []), (24, []), (25, []), (26, []), (27, []), (28, []), (29, []), (30, []), (31, []), (32, [])] := by kernel_rfl
theorem BJ4 : HH.plan 10 8 = [(0, []), (1, []), (2, []), (4, []), (5, []), (6, []), (7, []), (8, []), (9, []), (10, []), (11, []), (12, []), (13, []), (3, [7, 9, 11, 13]), (14, [7, 9, 11]), (15, []), (16, []), (17, [])] := by kernel_rfl
theorem Bw1 : HH.plan 10 16 = (List.range' 0 14).map fun i => (i, []) := by kernel_rfl
theorem BJ5 : HH.plan 12 6 = (List.range' 0 11).map fun i => (i, []) := by kernel_rfl
theorem Bw2 : HH.plan 12 11 = (List.range' 0 13).map fun i => (i, []) := by kernel_rfl
theorem BJ6 : HH.plan 18 4 = [(0, []), (1, []), (2, []), (3, []), (4, []), (5, []), (6, []), (7, [5]), (8, []), (9, []), (10, []), (11, [])] := by kernel_rfl
theorem BJ7 : HH.plan 19 5 = [(0, []), (1, []), (2, []), (3, []), (4, []), (5, []), (6, []), (7, [0]), (8, []), (9, [])] := by kernel_rfl
theorem Bw3 : HH.plan 19 12 = (List.range' 0 11).map fun i => (i, []) := by kernel_rfl
theorem Bw4 : HH.plan 19 13 = [(0, []), (1, []), (2, []), (3, []), (4, []), (5, []), (6, []), (7, []), (8, []), (9, []), (10, []), (11, []), (12, []), (13, []), (14, []), (15, []), (16, [1, 4, 5, 8]), (17, []), (18, []), (19, []), (20, [])] := by kernel_rfl
theorem BJ8 : HH.plan 20 3 = (List.range' 0 7).map fun i => (i, []) := by kernel_rfl
theorem BJ9 : HH.plan 20 6 = [(0, []), (1, []), (2, []), (3, []), (4, []), (5, []), (6, []), (7, [3]), (8, [])] := by kernel_rfl
theorem BK0 : HH.plan 20 7 = [(0, []), (1, []), (2, []), (3, []), (4, []), (5, []), (6, []), (7, []), (8, []), (9, []), (10, [3, 5, 7]), (11, []), (12, [])] := by kernel_rfl
theorem Bw5 : HH.plan 20 12 = (List.range' 0 11).map fun i => (i, []) := by kernel_rfl
theorem Bm6 : HH.plan 21 4 = (List.range' 0 17).map fun i => (i, []) := by kernel_rfl
theorem Bw6 : HH.plan 24 13 = (List.range' 0 8).map fun i => (i, []) := by kernel_rfl
theorem Bw7 : HH.plan 24 15 = (List.range' 0 15).map fun i => (i, []) := by kernel_rfl
theorem BK1 : HH.plan 26 1 = [(0, []), (1, []), (2, []), (3, []), (4, []), (5, []), (6, []), (7, []), (8, []), (10, []), (11, []), (12, []), (13, []), (14, []), (15, []), (16, []), (17, []), (18, []), (9, [13, 18]), (19, []), (20, []), (21, [])] := by kernel_rfl
theorem BK2 : HH.plan 27 3 = (List.range' 0 8).map fun i => (i, []) := by kernel_rfl
theorem BK3 : HH.plan 29 1 = [(0, []), (1, []), (2, []), (3, []), (4, []), (5, []), (6, [3]), (7, []), (8, [])] := by kernel_rfl
theorem Az8 : HH.plan 30 1 = [(0, []), (1, []), (2, []), (3, []), (4, []), (5, []), (6, []), (7, []), (8, []), (9, []), (10, []), (11, []), (12, []), (13, []), (14, []), (15, []), (16, []), (17, []), (18, []), (19, []), (20, []), (21, []), (22, [21]), (23, []), (24, []), (25, []), (26, []), (27, []), (28, []), (29, []), (30, []), (31, []), (32, []), (33, []), (34, [])] := by kernel_rfl
theorem BK4 : HH.plan 30 2 = (List.range' 0 9).map fun i => (i, []) := by kernel_rfl
theorem BK5 : HH.plan 32 2 = (List.range' 0 9).map fun i => (i, []) := by kernel_rfl
theorem BK6 : HH.plan 36 3 = [(0, []), (1, []), (2, []), (3, []), (4, []), (5, []), (6, [0]), (7, []), (8, []), (9, [])] := by kernel_rfl
theorem BK7 : HH.plan 38 1 = (List.range' 0 10).map fun i => (i, []) := by kernel_rfl
theorem Bm7 : HH.plan 39 2 = [(0, []), (1, []), (2, []), (3, []), (4, []), (5, []), (6, []), (7, []), (8, []), (9, []), (10, []), (11, []), (12, []), (14, []), (15, []), (16, []), (17, []), (13, [17]), (18, []), (19, [])] := by kernel_rfl
theorem BK8 : HH.plan 39 4 = [(0, []), (1, []), (2, []), (3, []), (4, []), (5, []), (6, []), (7, []), (8, []), (9, []), (10, []), (11, []), (12, []), (13, []), (14, []), (15, []), (16, []), (17, []), (18, []), (19, []), (20, []), (21, [3, 7, 10, 12]), (22, []), (23, []), (24, [])] := by kernel_rfl
theorem BK9 : HH.plan 40 1 = (List.range' 0 10).map fun i => (i, []) := by kernel_rfl
theorem BL0 : HH.plan 41 2 = (List.range' 0 11).map fun i => (i, []) := by kernel_rfl
theorem Bm8 : HH.plan 42 2 = (List.range' 0 11).map fun i => (i, []) := by kernel_rfl
theorem BL1 : HH.plan 42 4 = [(0, []), (1, []), (2, []), (3, []), (4, []), (5, []), (6, []), (7, [3, 4]), (8, [])] := by kernel_rfl
theorem BL2 : HH.plan 43 4 = (List.range' 0 21).map fun i => (i, []) := by kernel_rfl
theorem BL3 : HH.plan 43 5 = (List.range' 0 12).map fun i => (i, []) := by kernel_rfl
theorem BL4 : HH.plan 43 7 = (List.range' 0 25).map fun i => (i, []) := by kernel_rfl
theorem BL5 : HH.plan 43 8 = [(0, []), (1, []), (2, []), (3, []), (4, []), (5, []), (6, []), (7, []), (8, []), (9, [5]), (10, []), (11, []), (12, [])] := by kernel_rfl
theorem BL6 : HH.plan 43 9 = [(0, []), (1, []), (2, []), (3, []), (4, []), (5, []), (6, [5]), (7, []), (8, [])] := by kernel_rfl
theorem Bw8 : HH.plan 43 10 = [(0, []), (1, []), (2, []), (3, []), (4, []), (5, []), (6, []), (7, []), (8, []), (9, []), (10, []), (11, []), (12, []), (13, []), (14, []), (15, []), (16, [8, 10, 13]), (17, []), (18, []), (19, [10, 13]), (20, []), (21, []), (22, [13]), (23, []), (24, []), (25, [])] := by kernel_rfl
theorem Bw9 : HH.plan 44 10 = (List.range' 0 10).map fun i => (i, []) := by kernel_rfl
theorem BL7 : HH.plan 45 3 = [(0, []), (1, []), (2, []), (3, []), (4, []), (5, []), (6, []), (7, []), (8, []), (9, []), (12, []), (13, []), (10, [4, 8]), (11, []), (14, []), (15, []), (16, []), (17, []), (18, []), (19, [])] := by kernel_rfl
theorem BL8 : HH.plan 48 3 = [(0, []), (1, []), (2, []), (3, []), (4, []), (5, []), (6, []), (7, []), (8, []), (10, []), (11, []), (12, []), (13, []), (9, [13]), (14, [])] := by kernel_rfl
theorem Bm9 : HH.plan 48 8 = (List.range' 0 12).map fun i => (i, []) := by kernel_rfl
theorem Bn0 : HH.plan 48 9 = (List.range' 0 9).map fun i => (i, []) := by kernel_rfl
theorem BL9 : HH.plan 52 5 = (List.range' 0 13).map fun i => (i, []) := by kernel_rfl
theorem Bn1 : HH.plan 55 1 = (List.range' 0 7).map fun i => (i, []) := by kernel_rfl
theorem Bn2 : HH.plan 55 3 = (List.range' 0 8).map fun i => (i, []) := by kernel_rfl
theorem BM0 : HH.plan 57 1 = (List.range' 0 16).map fun i => (i, []) := by kernel_rfl
theorem BM1 : HH.plan 57 2 = (List.range' 0 9).map fun i => (i, []) := by kernel_rfl
theorem Bx0 : HH.plan 60 12 = (List.range' 0 14).map fun i => (i, []) := by kernel_rfl
theorem Bx1 : HH.plan 60 16 = (List.range' 0 11).map fun i => (i, []) := by kernel_rfl
theorem Bx2 : HH.plan 60 20 = (List.range' 0 20).map fun i => (i, []) := by kernel_rfl
theorem AQ4 : HH.plan 60 22 = (List.range' 0 23).map fun i => (i, []) := by kernel_rfl
theorem AQ5 : HH.plan 60 24 = (List.range' 0 31).map fun i => (i, []) := by kernel_rfl
theorem BM2 : HH.plan 61 0 = (List.range' 0 12).map fun i => (i, []) := by kernel_rfl
theorem BM3 : HH.plan 61 1 = (List.range' 0 11).map fun i => (i, []) := by kernel_rfl
theorem BM4 : HH.plan 62 1 = (List.range' 0 11).map fun i => (i, []) := by kernel_rfl
theorem BM5 : HH.plan 65 6 = (List.range' 0 40).map fun i => (i, []) := by kernel_rfl
theorem BM6 : HH.plan 65 7 = (List.range' 0 10).map fun i => (i, []) := by kernel_rfl
theorem Bx3 : HH.plan 65 10 = (List.range' 0 16).map fun i => (i, []) := by kernel_rfl
theorem Bx4 : HH.plan 65 16 = (List.range' 0 6).map fun i => (i, []) := by kernel_rfl
theorem Bx5 : HH.plan 65 17 = [(0, []), (1, []), (2, []), (4, []), (7, []), (11, []), (12, []), (13, []), (14, []), (15, []), (16, []), (17, []), (18, []), (19, []), (20, []), (22, []), (23, []), (24, []), (26, []), (27, []), (28, []), (3, [1, 12, 15, 17, 24, 28]), (5, [1, 12, 15, 17, 24, 28]), (6, []), (8, [1, 12, 15, 17, 24, 28]), (9, []), (10, []), (21, []), (25, []), (29, []), (30, [])] := by kernel_rfl
theorem Bx6 : HH.plan 65 18 = [(0, []), (2, []), (5, []), (8, []), (9, []), (10, []), (11, []), (12, []), (13, []), (14, []), (15, []), (16, []), (17, []), (18, []), (19, []), (1, [10, 13, 16]), (3, [10, 13, 16]), (4, []), (6, [10, 13, 16]), (7, []), (20, []), (21, [])] := by kernel_rfl
theorem Bx7 : HH.plan 65 24 = (List.range' 0 12).map fun i => (i, []) := by kernel_rfl
theorem Bn3 : HH.plan 67 2 = [(0, []), (1, []), (2, []), (3, []), (4, [0, 3]), (5, []), (6, []), (7, [3]), (8, [])] := by kernel_rfl
theorem BM7 : HH.plan 69 2 = (List.range' 0 26).map fun i => (i, []) := by kernel_rfl
theorem BM8 : HH.plan 69 3 = [(0, []), (1, []), (2, []), (3, []), (4, []), (5, []), (6, []), (7, []), (8, []), (9, []), (10, [7]), (11, []), (12, []), (13, [])] := by kernel_rfl
theorem BM9 : HH.plan 69 5 = [(0, []), (1, []), (2, []), (3, []), (4, []), (5, []), (6, []), (7, []), (8, []), (9, []), (10, [7]), (11, []), (12, []), (13, [])] := by kernel_rfl
theorem BN0 : HH.plan 69 8 = [(0, []), (1, []), (2, []), (3, []), (4, []), (5, []), (6, []), (7, []), (8, []), (9, []), (10, []), (11, []), (12, []), (13, []), (16, []), (17, []), (18, []), (19, []), (14, [9, 13, 19]), (15, [19]), (20, []), (21, []), (22, []), (23, [])] := by kernel_rfl
theorem Bx8 : HH.plan 69 11 = [(0, []), (1, []), (2, []), (3, []), (4, []), (5, []), (6, []), (7, []), (8, []), (9, []), (10, []), (11, []), (12, []), (13, []), (15, []), (16, []), (17, []), (18, []), (14, [18]), (19, []), (20, []), (21, [])] := by kernel_rfl
theorem Bx9 : HH.plan 69 13 = [(0, []), (1, []), (2, []), (3, []), (4, []), (5, []), (6, []), (7, []), (9, []), (10, []), (11, []), (12, []), (8, [12]), (13, []), (14, [])] := by kernel_rfl
theorem By0 : HH.plan 70 14 = (List.range' 0 5).map fun i => (i, []) := by kernel_rfl
theorem BN1 : HH.plan 72 3 = [(0, []), (1, []), (2, []), (3, []), (5, []), (6, []), (7, []), (8, []), (4, [5, 8]), (9, []), (10, [])] := by kernel_rfl
theorem BN2 : HH.plan 73 1 = [(0, []), (1, []), (2, []), (4, []), (3, [4]), (5, []), (6, [])] := by kernel_rfl
theorem BN3 : HH.plan 78 1 = (List.range' 0 10).map fun i => (i, []) := by kernel_rfl
theorem sz3 : szT Try.prog 3 = some 1 := by kernel_rfl
theorem ag3 : aggT Try.prog 3 = some false := by kernel_rfl
theorem zc3 : (zeroT Try.prog 3).bind V.cells = some [.int .i64 0] := by kernel_rfl
theorem sz4 : szT Try.prog 4 = some 1 := by kernel_rfl
theorem ag4 : aggT Try.prog 4 = some false := by kernel_rfl
theorem zc4 : (zeroT Try.prog 4).bind V.cells = some [.bool false] := by kernel_rfl
theorem sz5 : szT Try.prog 5 = some 1 := by kernel_rfl
theorem ag5 : aggT Try.prog 5 = some false := by kernel_rfl
theorem by5 : bytesT Try.prog 5 = some 1 := by kernel_rfl
theorem zc5 : (zeroT Try.prog 5).bind V.cells = some [.int .u8 0] := by kernel_rfl
theorem AB0 : szT Try.prog 23 = some 32 := by kernel_rfl
theorem AI3 : aggT Try.prog 23 = some true := by kernel_rfl
theorem Cf3 : bytesT Try.prog 23 = some 32 := by kernel_rfl
theorem B03 : (zeroT Try.prog 23).bind V.cells = some [.int .u8 0, .int .u8 0, .int .u8 0, .int .u8 0, .int .u8 0, .int .u8 0, .int .u8 0, .int .u8 0, .int .u8 0, .int .u8 0, .int .u8 0, .int .u8 0, .int .u8 0, .int .u8 0, .int .u8 0, .int .u8 0, .int .u8 0, .int .u8 0, .int .u8 0, .int .u8 0, .int .u8 0, .int .u8 0, .int .u8 0, .int .u8 0, .int .u8 0, .int .u8 0, .int .u8 0, .int .u8 0, .int .u8 0, .int .u8 0, .int .u8 0, .int .u8 0] := by kernel_rfl
theorem BO1 : szT Try.prog 24 = some 1 := by kernel_rfl
theorem BN4 : aggT Try.prog 24 = some false := by kernel_rfl
theorem Cf4 : bytesT Try.prog 24 = some 24 := by kernel_rfl
theorem Cf5 : (zeroT Try.prog 24).bind V.cells = some [.snil] := by kernel_rfl
theorem Cb3 : szT Try.prog 25 = some 1 := by kernel_rfl
theorem B04 : aggT Try.prog 25 = some false := by kernel_rfl
theorem Cb4 : aggT Try.prog 26 = some false := by kernel_rfl
theorem By1 : szT Try.prog 28 = some 41 := by kernel_rfl
theorem BZ5 : aggT Try.prog 28 = some true := by kernel_rfl
theorem Cf6 : bytesT Try.prog 28 = some 152 := by kernel_rfl
theorem Cb5 : (zeroT Try.prog 28).bind V.cells = some [.int .i64 0, .int .i64 0, .int .i64 0, .int .i64 0, .int .i64 0, .int .i64 0, .int .u8 0, .int .u8 0, .int .u8 0, .int .u8 0, .int .u8 0, .int .u8 0, .int .u8 0, .int .u8 0, .int .u8 0, .int .u8 0, .int .u8 0, .int .u8 0, .int .u8 0, .int .u8 0, .int .u8 0, .int .u8 0, .int .u8 0, .int .u8 0, .int .u8 0, .int .u8 0, .int .u8 0, .int .u8 0, .int .u8 0, .int .u8 0, .int .u8 0, .int .u8 0, .int .u8 0, .int .u8 0, .int .u8 0, .int .u8 0, .int .u8 0, .int .u8 0, .snil, .snil, .snil] := by kernel_rfl
theorem By2 : aggT Try.prog 30 = some false := by kernel_rfl
theorem B05 : szT Try.prog 63 = some 43 := by kernel_rfl
theorem B82 : aggT Try.prog 63 = some true := by kernel_rfl
theorem Cf7 : (zeroT Try.prog 63).bind V.cells = some [.int .i64 0, .int .i64 0, .int .i64 0, .int .i64 0, .int .i64 0, .int .i64 0, .int .i64 0, .int .i64 0, .int .u8 0, .int .u8 0, .int .u8 0, .int .u8 0, .int .u8 0, .int .u8 0, .int .u8 0, .int .u8 0, .int .u8 0, .int .u8 0, .int .u8 0, .int .u8 0, .int .u8 0, .int .u8 0, .int .u8 0, .int .u8 0, .int .u8 0, .int .u8 0, .int .u8 0, .int .u8 0, .int .u8 0, .int .u8 0, .int .u8 0, .int .u8 0, .int .u8 0, .int .u8 0, .int .u8 0, .int .u8 0, .int .u8 0, .int .u8 0, .int .u8 0, .int .u8 0, .snil, .snil, .snil] := by kernel_rfl
theorem Cf8 : aggT Try.prog 68 = some false := by kernel_rfl
theorem Cf9 : aggT Try.prog 71 = some false := by kernel_rfl
theorem Cg0 : aggT Try.prog 72 = some false := by kernel_rfl
theorem Cb6 : szT Try.prog 73 = some 1 := by kernel_rfl
theorem B83 : aggT Try.prog 73 = some false := by kernel_rfl
theorem Cg1 : (zeroT Try.prog 73).bind V.cells = some [.snil] := by kernel_rfl
theorem Cb7 : szT Try.prog 79 = some 1 := by kernel_rfl
theorem B06 : aggT Try.prog 79 = some false := by kernel_rfl
theorem Cg2 : (zeroT Try.prog 79).bind V.cells = some [.snil] := by kernel_rfl
theorem Cb8 : szT Try.prog 81 = some 64 := by kernel_rfl
theorem Cg3 : aggT Try.prog 81 = some true := by kernel_rfl
theorem Cg4 : (zeroT Try.prog 81).bind V.cells = some [.int .u8 0, .int .u8 0, .int .u8 0, .int .u8 0, .int .u8 0, .int .u8 0, .int .u8 0, .int .u8 0, .int .u8 0, .int .u8 0, .int .u8 0, .int .u8 0, .int .u8 0, .int .u8 0, .int .u8 0, .int .u8 0, .int .u8 0, .int .u8 0, .int .u8 0, .int .u8 0, .int .u8 0, .int .u8 0, .int .u8 0, .int .u8 0, .int .u8 0, .int .u8 0, .int .u8 0, .int .u8 0, .int .u8 0, .int .u8 0, .int .u8 0, .int .u8 0, .int .u8 0, .int .u8 0, .int .u8 0, .int .u8 0, .int .u8 0, .int .u8 0, .int .u8 0, .int .u8 0, .int .u8 0, .int .u8 0, .int .u8 0, .int .u8 0, .int .u8 0, .int .u8 0, .int .u8 0, .int .u8 0, .int .u8 0, .int .u8 0, .int .u8 0, .int .u8 0, .int .u8 0, .int .u8 0, .int .u8 0, .int .u8 0, .int .u8 0, .int .u8 0, .int .u8 0, .int .u8 0, .int .u8 0, .int .u8 0, .int .u8 0, .int .u8 0] := by kernel_rfl
theorem BN5 : szT Try.prog 85 = some 34 := by kernel_rfl
theorem B84 : aggT Try.prog 85 = some true := by kernel_rfl
theorem Bn4 : szT Try.prog 109 = some 36 := by kernel_rfl
theorem BZ6 : aggT Try.prog 109 = some true := by kernel_rfl
theorem B85 : bytesT Try.prog 109 = some 64 := by kernel_rfl
theorem BN6 : (zeroT Try.prog 109).bind V.cells = some [.int .i64 0, .int .i64 0, .int .i64 0, .int .i64 0, .int .u8 0, .int .u8 0, .int .u8 0, .int .u8 0, .int .u8 0, .int .u8 0, .int .u8 0, .int .u8 0, .int .u8 0, .int .u8 0, .int .u8 0, .int .u8 0, .int .u8 0, .int .u8 0, .int .u8 0, .int .u8 0, .int .u8 0, .int .u8 0, .int .u8 0, .int .u8 0, .int .u8 0, .int .u8 0, .int .u8 0, .int .u8 0, .int .u8 0, .int .u8 0, .int .u8 0, .int .u8 0, .int .u8 0, .int .u8 0, .int .u8 0, .int .u8 0] := by kernel_rfl
theorem BN7 : aggT Try.prog 112 = some false := by kernel_rfl
theorem B86 : szT Try.prog 116 = some 3 := by kernel_rfl
theorem Bn5 : aggT Try.prog 127 = some false := by kernel_rfl
theorem AW9 : szT Try.prog 130 = some 3 := by kernel_rfl
theorem By3 : aggT Try.prog 130 = some true := by kernel_rfl
theorem B87 : bytesT Try.prog 130 = some 24 := by kernel_rfl
theorem BZ7 : (zeroT Try.prog 130).bind V.cells = some [.int .i64 0, .int .i64 0, .int .i64 0] := by kernel_rfl
theorem BZ8 : szT Try.prog 134 = some 1 := by kernel_rfl
theorem B88 : aggT Try.prog 134 = some false := by kernel_rfl
theorem B89 : szT Try.prog 135 = some 2 := by kernel_rfl
theorem By4 : szT Try.prog 141 = some 33 := by kernel_rfl
theorem B90 : aggT Try.prog 141 = some true := by kernel_rfl
theorem BN8 : szT Try.prog 142 = some 1 := by kernel_rfl
theorem B91 : aggT Try.prog 142 = some false := by kernel_rfl
theorem By5 : szT Try.prog 144 = some 8 := by kernel_rfl
theorem B92 : aggT Try.prog 144 = some true := by kernel_rfl
theorem BN9 : szT Try.prog 148 = some 64 := by kernel_rfl
theorem B93 : aggT Try.prog 148 = some true := by kernel_rfl
theorem B94 : szT Try.prog 156 = some 1 := by kernel_rfl
theorem B95 : szT Try.prog 158 = some 64 := by kernel_rfl
theorem B07 : SlT Try.prog 24 5 1 1 := .of _ Try.underlying24 sz5 by5 zc5 rfl (by decide)
theorem Cb9 : SlT Try.prog 25 23 32 32 := .of _ Try.underlying25 AB0 Cf3 B03 rfl (by decide)
theorem Cg5 : SlT Try.prog 26 24 1 24 := .of _ Try.underlying26 BO1 Cf4 Cf5 rfl (by decide)
theorem B96 : SlT Try.prog 34 28 41 152 := .of _ Try.underlying34 By1 Cf6 Cb5 rfl (by decide)
theorem Cc0 : SlT Try.prog 73 130 3 24 := .of _ Try.underlying73 AW9 B87 BZ7 rfl (by decide)
theorem Cc1 : SlT Try.prog 79 109 36 64 := .of _ Try.underlying79 Bn4 B85 BN6 rfl (by decide)
theorem ok : progOkB Try.prog HH = true := by kernel_rfl
theorem progOk : ProgOk Try.prog HH := Bk9 ok gtab (fun g v h => AG6 h) (fun _ h => by first | (simp at h; done) | cases h | exact h.elim)
end Go.Sv.Try
