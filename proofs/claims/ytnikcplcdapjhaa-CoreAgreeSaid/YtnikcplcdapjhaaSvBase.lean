/- The seat's own facts: the order of each drawing region, what fixed runs come to, sizes of types. -/
import Derived.Test.YtnikcplcdapjhaaSv4
import Derived.Test.YtnikcplcdapjhaaChecked
import Derived.KernelRfl
set_option linter.unusedVariables false
namespace Go.Sv.Try
open Go Go.Proofs
def planTab:List (Nat×Nat×Plan) :=
 [(4,22,(List.range' 0 12).map fun i=>(i,[])),
  (4,23,(List.range' 0 14).map fun i=>(i,[])),
  (9,1,(List.range' 0 11).map fun i=>(i,[])),
  (10,1,(List.range' 0 33).map fun i=>(i,[])),
  (10,6,[(0,[]),(1,[]),(2,[]),(3,[]),(4,[]),(5,[]),(6,[]),(7,[]),(8,[]),(9,[]),(10,[]),(11,[]),(12,[]),(13,[]),(14,[]),(15,[]),(16,[]),(17,[]),(18,[]),(20,[]),(19,[]),(21,[]),(22,[]),(23,[]),(24,[]),(25,[]),(26,[]),(27,[]),(28,[]),(29,[]),(30,[]),(31,[]),(32,[])]),
  (10,8,[(0,[]),(1,[]),(2,[]),(4,[]),(5,[]),(6,[]),(7,[]),(8,[]),(9,[]),(10,[]),(11,[]),(12,[]),(13,[]),(3,[7,9,11,13]),(14,[7,9,11]),(15,[]),(16,[]),(17,[])]),
  (10,16,(List.range' 0 14).map fun i=>(i,[])),
  (12,6,(List.range' 0 11).map fun i=>(i,[])),
  (12,11,(List.range' 0 13).map fun i=>(i,[])),
  (13,1,(List.range' 0 11).map fun i=>(i,[])),
  (15,1,(List.range' 0 12).map fun i=>(i,[])),
  (15,2,(List.range' 0 9).map fun i=>(i,[])),
  (15,7,(List.range' 0 10).map fun i=>(i,[])),
  (15,8,(List.range' 0 12).map fun i=>(i,[])),
  (15,10,(List.range' 0 17).map fun i=>(i,[])),
  (15,13,[(0,[]),(1,[]),(2,[]),(3,[]),(4,[]),(5,[]),(6,[]),(7,[]),(8,[]),(9,[]),(10,[]),(11,[]),(12,[]),(13,[]),(14,[]),(15,[]),(16,[]),(17,[]),(18,[]),(19,[3,5]),(20,[]),(21,[])]),
  (15,14,[(0,[]),(1,[]),(2,[]),(3,[]),(4,[]),(5,[]),(6,[]),(7,[]),(8,[2]),(9,[])]),
  (15,16,[(0,[]),(1,[]),(2,[]),(3,[]),(4,[2]),(5,[])]),
  (15,18,(List.range' 0 12).map fun i=>(i,[])),
  (15,20,(List.range' 0 10).map fun i=>(i,[])),
  (15,21,(List.range' 0 10).map fun i=>(i,[])),
  (15,22,(List.range' 0 9).map fun i=>(i,[])),
  (15,23,[(0,[]),(1,[]),(2,[]),(3,[]),(4,[]),(5,[]),(6,[2]),(7,[2]),(8,[])]),
  (15,25,(List.range' 0 9).map fun i=>(i,[])),
  (15,26,(List.range' 0 10).map fun i=>(i,[])),
  (15,27,[(0,[]),(1,[]),(2,[]),(3,[]),(4,[]),(5,[]),(6,[]),(7,[]),(8,[]),(9,[]),(10,[]),(11,[]),(12,[]),(13,[]),(14,[]),(15,[]),(16,[]),(17,[]),(18,[]),(19,[2]),(20,[])]),
  (18,4,[(0,[]),(1,[]),(2,[]),(3,[]),(4,[]),(5,[]),(6,[]),(7,[5]),(8,[]),(9,[]),(10,[]),(11,[])]),
  (19,5,[(0,[]),(1,[]),(2,[]),(3,[]),(4,[]),(5,[]),(6,[]),(7,[0]),(8,[]),(9,[])]),
  (19,12,(List.range' 0 11).map fun i=>(i,[])),
  (19,13,[(0,[]),(1,[]),(2,[]),(3,[]),(4,[]),(5,[]),(6,[]),(7,[]),(8,[]),(9,[]),(10,[]),(11,[]),(12,[]),(13,[]),(14,[]),(15,[]),(16,[1,4,5,8]),(17,[]),(18,[]),(19,[]),(20,[])]),
  (20,3,(List.range' 0 7).map fun i=>(i,[])),
  (20,6,[(0,[]),(1,[]),(2,[]),(3,[]),(4,[]),(5,[]),(6,[]),(7,[3]),(8,[])]),
  (20,7,[(0,[]),(1,[]),(2,[]),(3,[]),(4,[]),(5,[]),(6,[]),(7,[]),(8,[]),(9,[]),(10,[3,5,7]),(11,[]),(12,[])]),
  (20,12,(List.range' 0 11).map fun i=>(i,[])),
  (21,4,(List.range' 0 17).map fun i=>(i,[])),
  (24,13,(List.range' 0 8).map fun i=>(i,[])),
  (24,15,(List.range' 0 15).map fun i=>(i,[])),
  (26,1,[(0,[]),(1,[]),(2,[]),(3,[]),(4,[]),(5,[]),(6,[]),(7,[]),(8,[]),(10,[]),(11,[]),(12,[]),(13,[]),(14,[]),(15,[]),(16,[]),(17,[]),(18,[]),(9,[13,18]),(19,[]),(20,[]),(21,[])]),
  (27,3,(List.range' 0 8).map fun i=>(i,[])),
  (29,1,[(0,[]),(1,[]),(2,[]),(3,[]),(4,[]),(5,[]),(6,[3]),(7,[]),(8,[])]),
  (30,1,[(0,[]),(1,[]),(2,[]),(3,[]),(4,[]),(5,[]),(6,[]),(7,[]),(8,[]),(9,[]),(10,[]),(11,[]),(12,[]),(13,[]),(14,[]),(15,[]),(16,[]),(17,[]),(18,[]),(19,[]),(20,[]),(21,[]),(22,[21]),(23,[]),(24,[]),(25,[]),(26,[]),(27,[]),(28,[]),(29,[]),(30,[]),(31,[]),(32,[]),(33,[]),(34,[])]),
  (30,2,(List.range' 0 9).map fun i=>(i,[])),
  (32,2,(List.range' 0 9).map fun i=>(i,[])),
  (33,0,[(0,[]),(1,[]),(2,[]),(3,[]),(4,[]),(5,[]),(6,[]),(7,[]),(8,[]),(9,[]),(10,[]),(11,[]),(12,[]),(13,[3]),(14,[]),(15,[])]),
  (33,8,[(0,[]),(1,[]),(2,[]),(3,[]),(4,[]),(5,[]),(6,[]),(7,[]),(8,[]),(9,[]),(10,[]),(11,[]),(12,[]),(13,[]),(14,[]),(15,[]),(16,[3]),(17,[]),(18,[])]),
  (36,3,[(0,[]),(1,[]),(2,[]),(3,[]),(4,[]),(5,[]),(6,[0]),(7,[]),(8,[]),(9,[])]),
  (38,1,(List.range' 0 10).map fun i=>(i,[])),
  (39,2,[(0,[]),(1,[]),(2,[]),(3,[]),(4,[]),(5,[]),(6,[]),(7,[]),(8,[]),(9,[]),(10,[]),(11,[]),(12,[]),(14,[]),(15,[]),(16,[]),(17,[]),(13,[17]),(18,[]),(19,[])]),
  (39,4,[(0,[]),(1,[]),(2,[]),(3,[]),(4,[]),(5,[]),(6,[]),(7,[]),(8,[]),(9,[]),(10,[]),(11,[]),(12,[]),(13,[]),(14,[]),(15,[]),(16,[]),(17,[]),(18,[]),(19,[]),(20,[]),(21,[3,7,10,12]),(22,[]),(23,[]),(24,[])]),
  (40,1,(List.range' 0 10).map fun i=>(i,[])),
  (41,2,(List.range' 0 11).map fun i=>(i,[])),
  (42,2,(List.range' 0 11).map fun i=>(i,[])),
  (42,4,[(0,[]),(1,[]),(2,[]),(3,[]),(4,[]),(5,[]),(6,[]),(7,[3,4]),(8,[])]),
  (43,4,(List.range' 0 21).map fun i=>(i,[])),
  (43,5,(List.range' 0 12).map fun i=>(i,[])),
  (43,7,(List.range' 0 25).map fun i=>(i,[])),
  (43,8,[(0,[]),(1,[]),(2,[]),(3,[]),(4,[]),(5,[]),(6,[]),(7,[]),(8,[]),(9,[5]),(10,[]),(11,[]),(12,[])]),
  (43,9,[(0,[]),(1,[]),(2,[]),(3,[]),(4,[]),(5,[]),(6,[5]),(7,[]),(8,[])]),
  (43,10,[(0,[]),(1,[]),(2,[]),(3,[]),(4,[]),(5,[]),(6,[]),(7,[]),(8,[]),(9,[]),(10,[]),(11,[]),(12,[]),(13,[]),(14,[]),(15,[]),(16,[8,10,13]),(17,[]),(18,[]),(19,[10,13]),(20,[]),(21,[]),(22,[13]),(23,[]),(24,[]),(25,[])]),
  (44,10,(List.range' 0 10).map fun i=>(i,[])),
  (45,3,[(0,[]),(1,[]),(2,[]),(3,[]),(4,[]),(5,[]),(6,[]),(7,[]),(8,[]),(9,[]),(12,[]),(13,[]),(10,[4,8]),(11,[]),(14,[]),(15,[]),(16,[]),(17,[]),(18,[]),(19,[])]),
  (48,3,[(0,[]),(1,[]),(2,[]),(3,[]),(4,[]),(5,[]),(6,[]),(7,[]),(8,[]),(10,[]),(11,[]),(12,[]),(13,[]),(9,[13]),(14,[])]),
  (48,8,(List.range' 0 12).map fun i=>(i,[])),
  (48,9,(List.range' 0 9).map fun i=>(i,[])),
  (52,5,(List.range' 0 13).map fun i=>(i,[])),
  (55,1,(List.range' 0 7).map fun i=>(i,[])),
  (55,3,(List.range' 0 8).map fun i=>(i,[])),
  (57,1,(List.range' 0 16).map fun i=>(i,[])),
  (57,2,(List.range' 0 9).map fun i=>(i,[])),
  (60,12,(List.range' 0 14).map fun i=>(i,[])),
  (60,16,(List.range' 0 11).map fun i=>(i,[])),
  (60,20,(List.range' 0 20).map fun i=>(i,[])),
  (60,22,(List.range' 0 23).map fun i=>(i,[])),
  (60,24,(List.range' 0 31).map fun i=>(i,[])),
  (61,0,(List.range' 0 12).map fun i=>(i,[])),
  (61,1,(List.range' 0 11).map fun i=>(i,[])),
  (62,1,(List.range' 0 11).map fun i=>(i,[])),
  (65,6,(List.range' 0 40).map fun i=>(i,[])),
  (65,7,(List.range' 0 10).map fun i=>(i,[])),
  (65,10,(List.range' 0 16).map fun i=>(i,[])),
  (65,16,(List.range' 0 6).map fun i=>(i,[])),
  (65,17,[(0,[]),(1,[]),(2,[]),(4,[]),(7,[]),(11,[]),(12,[]),(13,[]),(14,[]),(15,[]),(16,[]),(17,[]),(18,[]),(19,[]),(20,[]),(22,[]),(23,[]),(24,[]),(26,[]),(27,[]),(28,[]),(3,[1,12,15,17,24,28]),(5,[1,12,15,17,24,28]),(6,[]),(8,[1,12,15,17,24,28]),(9,[]),(10,[]),(21,[]),(25,[]),(29,[]),(30,[])]),
  (65,18,[(0,[]),(2,[]),(5,[]),(8,[]),(9,[]),(10,[]),(11,[]),(12,[]),(13,[]),(14,[]),(15,[]),(16,[]),(17,[]),(18,[]),(19,[]),(1,[10,13,16]),(3,[10,13,16]),(4,[]),(6,[10,13,16]),(7,[]),(20,[]),(21,[])]),
  (65,24,(List.range' 0 12).map fun i=>(i,[])),
  (67,2,[(0,[]),(1,[]),(2,[]),(3,[]),(4,[0,3]),(5,[]),(6,[]),(7,[3]),(8,[])]),
  (69,2,(List.range' 0 26).map fun i=>(i,[])),
  (69,3,[(0,[]),(1,[]),(2,[]),(3,[]),(4,[]),(5,[]),(6,[]),(7,[]),(8,[]),(9,[]),(10,[7]),(11,[]),(12,[]),(13,[])]),
  (69,5,[(0,[]),(1,[]),(2,[]),(3,[]),(4,[]),(5,[]),(6,[]),(7,[]),(8,[]),(9,[]),(10,[7]),(11,[]),(12,[]),(13,[])]),
  (69,8,[(0,[]),(1,[]),(2,[]),(3,[]),(4,[]),(5,[]),(6,[]),(7,[]),(8,[]),(9,[]),(10,[]),(11,[]),(12,[]),(13,[]),(16,[]),(17,[]),(18,[]),(19,[]),(14,[9,13,19]),(15,[19]),(20,[]),(21,[]),(22,[]),(23,[])]),
  (69,11,[(0,[]),(1,[]),(2,[]),(3,[]),(4,[]),(5,[]),(6,[]),(7,[]),(8,[]),(9,[]),(10,[]),(11,[]),(12,[]),(13,[]),(15,[]),(16,[]),(17,[]),(18,[]),(14,[18]),(19,[]),(20,[]),(21,[])]),
  (69,13,[(0,[]),(1,[]),(2,[]),(3,[]),(4,[]),(5,[]),(6,[]),(7,[]),(9,[]),(10,[]),(11,[]),(12,[]),(8,[12]),(13,[]),(14,[])]),
  (70,14,(List.range' 0 5).map fun i=>(i,[])),
  (72,3,[(0,[]),(1,[]),(2,[]),(3,[]),(5,[]),(6,[]),(7,[]),(8,[]),(4,[5,8]),(9,[]),(10,[])]),
  (73,1,[(0,[]),(1,[]),(2,[]),(4,[]),(3,[4]),(5,[]),(6,[])]),
  (78,1,(List.range' 0 10).map fun i=>(i,[]))]
def planOf (f id:Nat):Plan:=match planTab.find? (fun x=>x.1 == f && x.2.1 == id) with
 | some x=>x.2.2
 | none=>[]
def gtab:List (Nat×V):=[]
def HH:Hints:={ plan:=planOf,ground:=findTab gtab }
theorem BI9:HH.plan 4 22=(List.range' 0 12).map fun i=>(i,[]):=by kernel_rfl
theorem BJ0:HH.plan 4 23=(List.range' 0 14).map fun i=>(i,[]):=by kernel_rfl
theorem B04:HH.plan 9 1=(List.range' 0 11).map fun i=>(i,[]):=by kernel_rfl
theorem BJ1:HH.plan 10 1=(List.range' 0 33).map fun i=>(i,[]):=by kernel_rfl
theorem A29:HH.plan 10 6=[(0,[]),(1,[]),(2,[]),(3,[]),(4,[]),(5,[]),(6,[]),(7,[]),(8,[]),(9,[]),(10,[]),(11,[]),(12,[]),(13,[]),(14,[]),(15,[]),(16,[]),(17,[]),(18,[]),(20,[]),(19,[]),(21,[]),(22,[]),(23,[]),(24,[]),(25,[]),(26,[]),(27,[]),(28,[]),(29,[]),(30,[]),(31,[]),(32,[])]:=by kernel_rfl
theorem BJ2:HH.plan 10 8=[(0,[]),(1,[]),(2,[]),(4,[]),(5,[]),(6,[]),(7,[]),(8,[]),(9,[]),(10,[]),(11,[]),(12,[]),(13,[]),(3,[7,9,11,13]),(14,[7,9,11]),(15,[]),(16,[]),(17,[])]:=by kernel_rfl
theorem Bu9:HH.plan 10 16=(List.range' 0 14).map fun i=>(i,[]):=by kernel_rfl
theorem BJ3:HH.plan 13 1=(List.range' 0 11).map fun i=>(i,[]):=by kernel_rfl
theorem BJ4:HH.plan 15 1=(List.range' 0 12).map fun i=>(i,[]):=by kernel_rfl
theorem BJ5:HH.plan 15 2=(List.range' 0 9).map fun i=>(i,[]):=by kernel_rfl
theorem BJ6:HH.plan 15 7=(List.range' 0 10).map fun i=>(i,[]):=by kernel_rfl
theorem BJ7:HH.plan 15 8=(List.range' 0 12).map fun i=>(i,[]):=by kernel_rfl
theorem Bv0:HH.plan 15 10=(List.range' 0 17).map fun i=>(i,[]):=by kernel_rfl
theorem Bv1:HH.plan 15 13=[(0,[]),(1,[]),(2,[]),(3,[]),(4,[]),(5,[]),(6,[]),(7,[]),(8,[]),(9,[]),(10,[]),(11,[]),(12,[]),(13,[]),(14,[]),(15,[]),(16,[]),(17,[]),(18,[]),(19,[3,5]),(20,[]),(21,[])]:=by kernel_rfl
theorem Bv2:HH.plan 15 14=[(0,[]),(1,[]),(2,[]),(3,[]),(4,[]),(5,[]),(6,[]),(7,[]),(8,[2]),(9,[])]:=by kernel_rfl
theorem Bv3:HH.plan 15 16=[(0,[]),(1,[]),(2,[]),(3,[]),(4,[2]),(5,[])]:=by kernel_rfl
theorem Bv4:HH.plan 15 18=(List.range' 0 12).map fun i=>(i,[]):=by kernel_rfl
theorem Bv5:HH.plan 15 20=(List.range' 0 10).map fun i=>(i,[]):=by kernel_rfl
theorem Bv6:HH.plan 15 21=(List.range' 0 10).map fun i=>(i,[]):=by kernel_rfl
theorem Bv7:HH.plan 15 22=(List.range' 0 9).map fun i=>(i,[]):=by kernel_rfl
theorem Bv8:HH.plan 15 23=[(0,[]),(1,[]),(2,[]),(3,[]),(4,[]),(5,[]),(6,[2]),(7,[2]),(8,[])]:=by kernel_rfl
theorem Bv9:HH.plan 15 25=(List.range' 0 9).map fun i=>(i,[]):=by kernel_rfl
theorem Bw0:HH.plan 15 26=(List.range' 0 10).map fun i=>(i,[]):=by kernel_rfl
theorem Bw1:HH.plan 15 27=[(0,[]),(1,[]),(2,[]),(3,[]),(4,[]),(5,[]),(6,[]),(7,[]),(8,[]),(9,[]),(10,[]),(11,[]),(12,[]),(13,[]),(14,[]),(15,[]),(16,[]),(17,[]),(18,[]),(19,[2]),(20,[])]:=by kernel_rfl
theorem BJ8:HH.plan 18 4=[(0,[]),(1,[]),(2,[]),(3,[]),(4,[]),(5,[]),(6,[]),(7,[5]),(8,[]),(9,[]),(10,[]),(11,[])]:=by kernel_rfl
theorem BJ9:HH.plan 19 5=[(0,[]),(1,[]),(2,[]),(3,[]),(4,[]),(5,[]),(6,[]),(7,[0]),(8,[]),(9,[])]:=by kernel_rfl
theorem Bw2:HH.plan 19 12=(List.range' 0 11).map fun i=>(i,[]):=by kernel_rfl
theorem Bw3:HH.plan 19 13=[(0,[]),(1,[]),(2,[]),(3,[]),(4,[]),(5,[]),(6,[]),(7,[]),(8,[]),(9,[]),(10,[]),(11,[]),(12,[]),(13,[]),(14,[]),(15,[]),(16,[1,4,5,8]),(17,[]),(18,[]),(19,[]),(20,[])]:=by kernel_rfl
theorem BK0:HH.plan 20 3=(List.range' 0 7).map fun i=>(i,[]):=by kernel_rfl
theorem BK1:HH.plan 20 6=[(0,[]),(1,[]),(2,[]),(3,[]),(4,[]),(5,[]),(6,[]),(7,[3]),(8,[])]:=by kernel_rfl
theorem BK2:HH.plan 20 7=[(0,[]),(1,[]),(2,[]),(3,[]),(4,[]),(5,[]),(6,[]),(7,[]),(8,[]),(9,[]),(10,[3,5,7]),(11,[]),(12,[])]:=by kernel_rfl
theorem Bw4:HH.plan 20 12=(List.range' 0 11).map fun i=>(i,[]):=by kernel_rfl
theorem Bw5:HH.plan 24 13=(List.range' 0 8).map fun i=>(i,[]):=by kernel_rfl
theorem Bw6:HH.plan 24 15=(List.range' 0 15).map fun i=>(i,[]):=by kernel_rfl
theorem BK3:HH.plan 26 1=[(0,[]),(1,[]),(2,[]),(3,[]),(4,[]),(5,[]),(6,[]),(7,[]),(8,[]),(10,[]),(11,[]),(12,[]),(13,[]),(14,[]),(15,[]),(16,[]),(17,[]),(18,[]),(9,[13,18]),(19,[]),(20,[]),(21,[])]:=by kernel_rfl
theorem BK4:HH.plan 27 3=(List.range' 0 8).map fun i=>(i,[]):=by kernel_rfl
theorem BK5:HH.plan 29 1=[(0,[]),(1,[]),(2,[]),(3,[]),(4,[]),(5,[]),(6,[3]),(7,[]),(8,[])]:=by kernel_rfl
theorem AA2:HH.plan 30 1=[(0,[]),(1,[]),(2,[]),(3,[]),(4,[]),(5,[]),(6,[]),(7,[]),(8,[]),(9,[]),(10,[]),(11,[]),(12,[]),(13,[]),(14,[]),(15,[]),(16,[]),(17,[]),(18,[]),(19,[]),(20,[]),(21,[]),(22,[21]),(23,[]),(24,[]),(25,[]),(26,[]),(27,[]),(28,[]),(29,[]),(30,[]),(31,[]),(32,[]),(33,[]),(34,[])]:=by kernel_rfl
theorem BK6:HH.plan 30 2=(List.range' 0 9).map fun i=>(i,[]):=by kernel_rfl
theorem BK7:HH.plan 32 2=(List.range' 0 9).map fun i=>(i,[]):=by kernel_rfl
theorem BK8:HH.plan 33 0=[(0,[]),(1,[]),(2,[]),(3,[]),(4,[]),(5,[]),(6,[]),(7,[]),(8,[]),(9,[]),(10,[]),(11,[]),(12,[]),(13,[3]),(14,[]),(15,[])]:=by kernel_rfl
theorem BK9:HH.plan 33 8=[(0,[]),(1,[]),(2,[]),(3,[]),(4,[]),(5,[]),(6,[]),(7,[]),(8,[]),(9,[]),(10,[]),(11,[]),(12,[]),(13,[]),(14,[]),(15,[]),(16,[3]),(17,[]),(18,[])]:=by kernel_rfl
theorem BL0:HH.plan 36 3=[(0,[]),(1,[]),(2,[]),(3,[]),(4,[]),(5,[]),(6,[0]),(7,[]),(8,[]),(9,[])]:=by kernel_rfl
theorem BL1:HH.plan 38 1=(List.range' 0 10).map fun i=>(i,[]):=by kernel_rfl
theorem Bm0:HH.plan 39 2=[(0,[]),(1,[]),(2,[]),(3,[]),(4,[]),(5,[]),(6,[]),(7,[]),(8,[]),(9,[]),(10,[]),(11,[]),(12,[]),(14,[]),(15,[]),(16,[]),(17,[]),(13,[17]),(18,[]),(19,[])]:=by kernel_rfl
theorem BL2:HH.plan 39 4=[(0,[]),(1,[]),(2,[]),(3,[]),(4,[]),(5,[]),(6,[]),(7,[]),(8,[]),(9,[]),(10,[]),(11,[]),(12,[]),(13,[]),(14,[]),(15,[]),(16,[]),(17,[]),(18,[]),(19,[]),(20,[]),(21,[3,7,10,12]),(22,[]),(23,[]),(24,[])]:=by kernel_rfl
theorem BL3:HH.plan 40 1=(List.range' 0 10).map fun i=>(i,[]):=by kernel_rfl
theorem BL4:HH.plan 41 2=(List.range' 0 11).map fun i=>(i,[]):=by kernel_rfl
theorem Bm1:HH.plan 42 2=(List.range' 0 11).map fun i=>(i,[]):=by kernel_rfl
theorem BL5:HH.plan 42 4=[(0,[]),(1,[]),(2,[]),(3,[]),(4,[]),(5,[]),(6,[]),(7,[3,4]),(8,[])]:=by kernel_rfl
theorem BL6:HH.plan 43 4=(List.range' 0 21).map fun i=>(i,[]):=by kernel_rfl
theorem BL7:HH.plan 43 5=(List.range' 0 12).map fun i=>(i,[]):=by kernel_rfl
theorem BL8:HH.plan 43 7=(List.range' 0 25).map fun i=>(i,[]):=by kernel_rfl
theorem BL9:HH.plan 43 8=[(0,[]),(1,[]),(2,[]),(3,[]),(4,[]),(5,[]),(6,[]),(7,[]),(8,[]),(9,[5]),(10,[]),(11,[]),(12,[])]:=by kernel_rfl
theorem BM0:HH.plan 43 9=[(0,[]),(1,[]),(2,[]),(3,[]),(4,[]),(5,[]),(6,[5]),(7,[]),(8,[])]:=by kernel_rfl
theorem Bw7:HH.plan 43 10=[(0,[]),(1,[]),(2,[]),(3,[]),(4,[]),(5,[]),(6,[]),(7,[]),(8,[]),(9,[]),(10,[]),(11,[]),(12,[]),(13,[]),(14,[]),(15,[]),(16,[8,10,13]),(17,[]),(18,[]),(19,[10,13]),(20,[]),(21,[]),(22,[13]),(23,[]),(24,[]),(25,[])]:=by kernel_rfl
theorem Bw8:HH.plan 44 10=(List.range' 0 10).map fun i=>(i,[]):=by kernel_rfl
theorem BM1:HH.plan 45 3=[(0,[]),(1,[]),(2,[]),(3,[]),(4,[]),(5,[]),(6,[]),(7,[]),(8,[]),(9,[]),(12,[]),(13,[]),(10,[4,8]),(11,[]),(14,[]),(15,[]),(16,[]),(17,[]),(18,[]),(19,[])]:=by kernel_rfl
theorem BM2:HH.plan 48 3=[(0,[]),(1,[]),(2,[]),(3,[]),(4,[]),(5,[]),(6,[]),(7,[]),(8,[]),(10,[]),(11,[]),(12,[]),(13,[]),(9,[13]),(14,[])]:=by kernel_rfl
theorem Bm2:HH.plan 48 8=(List.range' 0 12).map fun i=>(i,[]):=by kernel_rfl
theorem Bm3:HH.plan 48 9=(List.range' 0 9).map fun i=>(i,[]):=by kernel_rfl
theorem BM3:HH.plan 52 5=(List.range' 0 13).map fun i=>(i,[]):=by kernel_rfl
theorem Bm4:HH.plan 55 1=(List.range' 0 7).map fun i=>(i,[]):=by kernel_rfl
theorem Bm5:HH.plan 55 3=(List.range' 0 8).map fun i=>(i,[]):=by kernel_rfl
theorem BM4:HH.plan 57 1=(List.range' 0 16).map fun i=>(i,[]):=by kernel_rfl
theorem BM5:HH.plan 57 2=(List.range' 0 9).map fun i=>(i,[]):=by kernel_rfl
theorem Bw9:HH.plan 60 12=(List.range' 0 14).map fun i=>(i,[]):=by kernel_rfl
theorem Bx0:HH.plan 60 16=(List.range' 0 11).map fun i=>(i,[]):=by kernel_rfl
theorem Bx1:HH.plan 60 20=(List.range' 0 20).map fun i=>(i,[]):=by kernel_rfl
theorem AQ7:HH.plan 60 22=(List.range' 0 23).map fun i=>(i,[]):=by kernel_rfl
theorem AQ8:HH.plan 60 24=(List.range' 0 31).map fun i=>(i,[]):=by kernel_rfl
theorem BM6:HH.plan 61 0=(List.range' 0 12).map fun i=>(i,[]):=by kernel_rfl
theorem BM7:HH.plan 61 1=(List.range' 0 11).map fun i=>(i,[]):=by kernel_rfl
theorem BM8:HH.plan 62 1=(List.range' 0 11).map fun i=>(i,[]):=by kernel_rfl
theorem BM9:HH.plan 65 6=(List.range' 0 40).map fun i=>(i,[]):=by kernel_rfl
theorem BN0:HH.plan 65 7=(List.range' 0 10).map fun i=>(i,[]):=by kernel_rfl
theorem Bx2:HH.plan 65 10=(List.range' 0 16).map fun i=>(i,[]):=by kernel_rfl
theorem Bx3:HH.plan 65 16=(List.range' 0 6).map fun i=>(i,[]):=by kernel_rfl
theorem Bx4:HH.plan 65 17=[(0,[]),(1,[]),(2,[]),(4,[]),(7,[]),(11,[]),(12,[]),(13,[]),(14,[]),(15,[]),(16,[]),(17,[]),(18,[]),(19,[]),(20,[]),(22,[]),(23,[]),(24,[]),(26,[]),(27,[]),(28,[]),(3,[1,12,15,17,24,28]),(5,[1,12,15,17,24,28]),(6,[]),(8,[1,12,15,17,24,28]),(9,[]),(10,[]),(21,[]),(25,[]),(29,[]),(30,[])]:=by kernel_rfl
theorem Bx5:HH.plan 65 18=[(0,[]),(2,[]),(5,[]),(8,[]),(9,[]),(10,[]),(11,[]),(12,[]),(13,[]),(14,[]),(15,[]),(16,[]),(17,[]),(18,[]),(19,[]),(1,[10,13,16]),(3,[10,13,16]),(4,[]),(6,[10,13,16]),(7,[]),(20,[]),(21,[])]:=by kernel_rfl
theorem Bx6:HH.plan 65 24=(List.range' 0 12).map fun i=>(i,[]):=by kernel_rfl
theorem Bm6:HH.plan 67 2=[(0,[]),(1,[]),(2,[]),(3,[]),(4,[0,3]),(5,[]),(6,[]),(7,[3]),(8,[])]:=by kernel_rfl
theorem BN1:HH.plan 69 2=(List.range' 0 26).map fun i=>(i,[]):=by kernel_rfl
theorem BN2:HH.plan 69 3=[(0,[]),(1,[]),(2,[]),(3,[]),(4,[]),(5,[]),(6,[]),(7,[]),(8,[]),(9,[]),(10,[7]),(11,[]),(12,[]),(13,[])]:=by kernel_rfl
theorem BN3:HH.plan 69 5=[(0,[]),(1,[]),(2,[]),(3,[]),(4,[]),(5,[]),(6,[]),(7,[]),(8,[]),(9,[]),(10,[7]),(11,[]),(12,[]),(13,[])]:=by kernel_rfl
theorem BN4:HH.plan 69 8=[(0,[]),(1,[]),(2,[]),(3,[]),(4,[]),(5,[]),(6,[]),(7,[]),(8,[]),(9,[]),(10,[]),(11,[]),(12,[]),(13,[]),(16,[]),(17,[]),(18,[]),(19,[]),(14,[9,13,19]),(15,[19]),(20,[]),(21,[]),(22,[]),(23,[])]:=by kernel_rfl
theorem Bx7:HH.plan 69 11=[(0,[]),(1,[]),(2,[]),(3,[]),(4,[]),(5,[]),(6,[]),(7,[]),(8,[]),(9,[]),(10,[]),(11,[]),(12,[]),(13,[]),(15,[]),(16,[]),(17,[]),(18,[]),(14,[18]),(19,[]),(20,[]),(21,[])]:=by kernel_rfl
theorem Bx8:HH.plan 69 13=[(0,[]),(1,[]),(2,[]),(3,[]),(4,[]),(5,[]),(6,[]),(7,[]),(9,[]),(10,[]),(11,[]),(12,[]),(8,[12]),(13,[]),(14,[])]:=by kernel_rfl
theorem Bx9:HH.plan 70 14=(List.range' 0 5).map fun i=>(i,[]):=by kernel_rfl
theorem BN5:HH.plan 72 3=[(0,[]),(1,[]),(2,[]),(3,[]),(5,[]),(6,[]),(7,[]),(8,[]),(4,[5,8]),(9,[]),(10,[])]:=by kernel_rfl
theorem BN6:HH.plan 73 1=[(0,[]),(1,[]),(2,[]),(4,[]),(3,[4]),(5,[]),(6,[])]:=by kernel_rfl
theorem BN7:HH.plan 78 1=(List.range' 0 10).map fun i=>(i,[]):=by kernel_rfl
theorem sz3:szT Try.prog 3=some 1:=by kernel_rfl
theorem ag3:aggT Try.prog 3=some false:=by kernel_rfl
theorem zc3:(zeroT Try.prog 3).bind V.cells=some [.int .i64 0]:=by kernel_rfl
theorem sz4:szT Try.prog 4=some 1:=by kernel_rfl
theorem ag4:aggT Try.prog 4=some false:=by kernel_rfl
theorem zc4:(zeroT Try.prog 4).bind V.cells=some [.bool false]:=by kernel_rfl
theorem sz5:szT Try.prog 5=some 1:=by kernel_rfl
theorem ag5:aggT Try.prog 5=some false:=by kernel_rfl
theorem by5:bytesT Try.prog 5=some 1:=by kernel_rfl
theorem zc5:(zeroT Try.prog 5).bind V.cells=some [.int .u8 0]:=by kernel_rfl
theorem AH3:szT Try.prog 23=some 32:=by kernel_rfl
theorem AX5:aggT Try.prog 23=some true:=by kernel_rfl
theorem Ch8:bytesT Try.prog 23=some 32:=by kernel_rfl
theorem B17:(zeroT Try.prog 23).bind V.cells=some [.int .u8 0,.int .u8 0,.int .u8 0,.int .u8 0,.int .u8 0,.int .u8 0,.int .u8 0,.int .u8 0,.int .u8 0,.int .u8 0,.int .u8 0,.int .u8 0,.int .u8 0,.int .u8 0,.int .u8 0,.int .u8 0,.int .u8 0,.int .u8 0,.int .u8 0,.int .u8 0,.int .u8 0,.int .u8 0,.int .u8 0,.int .u8 0,.int .u8 0,.int .u8 0,.int .u8 0,.int .u8 0,.int .u8 0,.int .u8 0,.int .u8 0,.int .u8 0]:=by kernel_rfl
theorem B18:szT Try.prog 24=some 1:=by kernel_rfl
theorem BO4:aggT Try.prog 24=some false:=by kernel_rfl
theorem Ch9:bytesT Try.prog 24=some 24:=by kernel_rfl
theorem Ci0:(zeroT Try.prog 24).bind V.cells=some [.snil]:=by kernel_rfl
theorem Cd2:szT Try.prog 25=some 1:=by kernel_rfl
theorem B19:aggT Try.prog 25=some false:=by kernel_rfl
theorem Cd3:aggT Try.prog 26=some false:=by kernel_rfl
theorem Bm9:szT Try.prog 28=some 41:=by kernel_rfl
theorem BO5:aggT Try.prog 28=some true:=by kernel_rfl
theorem Ci1:bytesT Try.prog 28=some 152:=by kernel_rfl
theorem Cd4:(zeroT Try.prog 28).bind V.cells=some [.int .i64 0,.int .i64 0,.int .i64 0,.int .i64 0,.int .i64 0,.int .i64 0,.int .u8 0,.int .u8 0,.int .u8 0,.int .u8 0,.int .u8 0,.int .u8 0,.int .u8 0,.int .u8 0,.int .u8 0,.int .u8 0,.int .u8 0,.int .u8 0,.int .u8 0,.int .u8 0,.int .u8 0,.int .u8 0,.int .u8 0,.int .u8 0,.int .u8 0,.int .u8 0,.int .u8 0,.int .u8 0,.int .u8 0,.int .u8 0,.int .u8 0,.int .u8 0,.int .u8 0,.int .u8 0,.int .u8 0,.int .u8 0,.int .u8 0,.int .u8 0,.snil,.snil,.snil]:=by kernel_rfl
theorem B05:szT Try.prog 30=some 1:=by kernel_rfl
theorem Bb9:aggT Try.prog 30=some false:=by kernel_rfl
theorem Ci2:bytesT Try.prog 30=some 8:=by kernel_rfl
theorem Ci3:(zeroT Try.prog 30).bind V.cells=some [.pnil]:=by kernel_rfl
theorem B20:szT Try.prog 34=some 1:=by kernel_rfl
theorem Ci4:aggT Try.prog 34=some false:=by kernel_rfl
theorem Ci5:(zeroT Try.prog 34).bind V.cells=some [.snil]:=by kernel_rfl
theorem B21:szT Try.prog 45=some 44:=by kernel_rfl
theorem Ca2:aggT Try.prog 45=some true:=by kernel_rfl
theorem Ci6:(zeroT Try.prog 45).bind V.cells=some [.int .i64 0,.int .i64 0,.int .i64 0,.int .i64 0,.int .i64 0,.int .i64 0,.int .i64 0,.int .i64 0,.int .i64 0,.int .u8 0,.int .u8 0,.int .u8 0,.int .u8 0,.int .u8 0,.int .u8 0,.int .u8 0,.int .u8 0,.int .u8 0,.int .u8 0,.int .u8 0,.int .u8 0,.int .u8 0,.int .u8 0,.int .u8 0,.int .u8 0,.int .u8 0,.int .u8 0,.int .u8 0,.int .u8 0,.int .u8 0,.int .u8 0,.int .u8 0,.int .u8 0,.int .u8 0,.int .u8 0,.int .u8 0,.int .u8 0,.int .u8 0,.int .u8 0,.int .u8 0,.int .u8 0,.snil,.snil,.snil]:=by kernel_rfl
theorem Ci7:szT Try.prog 51=some 1:=by kernel_rfl
theorem Ci8:aggT Try.prog 51=some false:=by kernel_rfl
theorem Ci9:aggT Try.prog 52=some false:=by kernel_rfl
theorem Cd5:aggT Try.prog 53=some false:=by kernel_rfl
theorem Cj0:aggT Try.prog 68=some false:=by kernel_rfl
theorem Cj1:aggT Try.prog 71=some false:=by kernel_rfl
theorem Cj2:aggT Try.prog 72=some false:=by kernel_rfl
theorem Cd6:szT Try.prog 73=some 1:=by kernel_rfl
theorem Ca3:aggT Try.prog 73=some false:=by kernel_rfl
theorem Cj3:(zeroT Try.prog 73).bind V.cells=some [.snil]:=by kernel_rfl
theorem Cd7:szT Try.prog 79=some 1:=by kernel_rfl
theorem B22:aggT Try.prog 79=some false:=by kernel_rfl
theorem Cj4:(zeroT Try.prog 79).bind V.cells=some [.snil]:=by kernel_rfl
theorem Cd8:szT Try.prog 81=some 64:=by kernel_rfl
theorem Cj5:aggT Try.prog 81=some true:=by kernel_rfl
theorem Cj6:(zeroT Try.prog 81).bind V.cells=some [.int .u8 0,.int .u8 0,.int .u8 0,.int .u8 0,.int .u8 0,.int .u8 0,.int .u8 0,.int .u8 0,.int .u8 0,.int .u8 0,.int .u8 0,.int .u8 0,.int .u8 0,.int .u8 0,.int .u8 0,.int .u8 0,.int .u8 0,.int .u8 0,.int .u8 0,.int .u8 0,.int .u8 0,.int .u8 0,.int .u8 0,.int .u8 0,.int .u8 0,.int .u8 0,.int .u8 0,.int .u8 0,.int .u8 0,.int .u8 0,.int .u8 0,.int .u8 0,.int .u8 0,.int .u8 0,.int .u8 0,.int .u8 0,.int .u8 0,.int .u8 0,.int .u8 0,.int .u8 0,.int .u8 0,.int .u8 0,.int .u8 0,.int .u8 0,.int .u8 0,.int .u8 0,.int .u8 0,.int .u8 0,.int .u8 0,.int .u8 0,.int .u8 0,.int .u8 0,.int .u8 0,.int .u8 0,.int .u8 0,.int .u8 0,.int .u8 0,.int .u8 0,.int .u8 0,.int .u8 0,.int .u8 0,.int .u8 0,.int .u8 0,.int .u8 0]:=by kernel_rfl
theorem BN8:szT Try.prog 85=some 34:=by kernel_rfl
theorem Ca4:aggT Try.prog 85=some true:=by kernel_rfl
theorem B23:szT Try.prog 93=some 1:=by kernel_rfl
theorem Cj7:aggT Try.prog 93=some false:=by kernel_rfl
theorem Cj8:(zeroT Try.prog 93).bind V.cells=some [.snil]:=by kernel_rfl
theorem B06:szT Try.prog 95=some 42:=by kernel_rfl
theorem Cj9:aggT Try.prog 95=some true:=by kernel_rfl
theorem Ck0:bytesT Try.prog 95=some 160:=by kernel_rfl
theorem Ca5:(zeroT Try.prog 95).bind V.cells=some [.int .i64 0,.int .i64 0,.int .i64 0,.int .i64 0,.int .i64 0,.int .i64 0,.int .i64 0,.int .u8 0,.int .u8 0,.int .u8 0,.int .u8 0,.int .u8 0,.int .u8 0,.int .u8 0,.int .u8 0,.int .u8 0,.int .u8 0,.int .u8 0,.int .u8 0,.int .u8 0,.int .u8 0,.int .u8 0,.int .u8 0,.int .u8 0,.int .u8 0,.int .u8 0,.int .u8 0,.int .u8 0,.int .u8 0,.int .u8 0,.int .u8 0,.int .u8 0,.int .u8 0,.int .u8 0,.int .u8 0,.int .u8 0,.int .u8 0,.int .u8 0,.int .u8 0,.snil,.snil,.snil]:=by kernel_rfl
theorem Bm7:szT Try.prog 109=some 36:=by kernel_rfl
theorem B07:aggT Try.prog 109=some true:=by kernel_rfl
theorem Ca6:bytesT Try.prog 109=some 64:=by kernel_rfl
theorem BN9:(zeroT Try.prog 109).bind V.cells=some [.int .i64 0,.int .i64 0,.int .i64 0,.int .i64 0,.int .u8 0,.int .u8 0,.int .u8 0,.int .u8 0,.int .u8 0,.int .u8 0,.int .u8 0,.int .u8 0,.int .u8 0,.int .u8 0,.int .u8 0,.int .u8 0,.int .u8 0,.int .u8 0,.int .u8 0,.int .u8 0,.int .u8 0,.int .u8 0,.int .u8 0,.int .u8 0,.int .u8 0,.int .u8 0,.int .u8 0,.int .u8 0,.int .u8 0,.int .u8 0,.int .u8 0,.int .u8 0,.int .u8 0,.int .u8 0,.int .u8 0,.int .u8 0]:=by kernel_rfl
theorem BO0:aggT Try.prog 112=some false:=by kernel_rfl
theorem Ca7:szT Try.prog 116=some 3:=by kernel_rfl
theorem Bm8:aggT Try.prog 127=some false:=by kernel_rfl
theorem AX6:szT Try.prog 130=some 3:=by kernel_rfl
theorem By0:aggT Try.prog 130=some true:=by kernel_rfl
theorem Ca8:bytesT Try.prog 130=some 24:=by kernel_rfl
theorem B08:(zeroT Try.prog 130).bind V.cells=some [.int .i64 0,.int .i64 0,.int .i64 0]:=by kernel_rfl
theorem B09:szT Try.prog 134=some 1:=by kernel_rfl
theorem Ca9:aggT Try.prog 134=some false:=by kernel_rfl
theorem Cb0:szT Try.prog 135=some 2:=by kernel_rfl
theorem By1:szT Try.prog 141=some 33:=by kernel_rfl
theorem Cb1:aggT Try.prog 141=some true:=by kernel_rfl
theorem BO1:szT Try.prog 142=some 1:=by kernel_rfl
theorem Cb2:aggT Try.prog 142=some false:=by kernel_rfl
theorem By2:szT Try.prog 144=some 8:=by kernel_rfl
theorem Cb3:aggT Try.prog 144=some true:=by kernel_rfl
theorem BO2:szT Try.prog 148=some 64:=by kernel_rfl
theorem Cb4:aggT Try.prog 148=some true:=by kernel_rfl
theorem Cb5:szT Try.prog 156=some 1:=by kernel_rfl
theorem Cb6:szT Try.prog 158=some 64:=by kernel_rfl
theorem B24:SlT Try.prog 24 5 1 1:=.of _ Try.underlying24 sz5 by5 zc5 rfl (by decide)
theorem Cd9:SlT Try.prog 25 23 32 32:=.of _ Try.underlying25 AH3 Ch8 B17 rfl (by decide)
theorem Ck1:SlT Try.prog 26 24 1 24:=.of _ Try.underlying26 B18 Ch9 Ci0 rfl (by decide)
theorem B25:SlT Try.prog 34 28 41 152:=.of _ Try.underlying34 Bm9 Ci1 Cd4 rfl (by decide)
theorem Ck2:SlT Try.prog 51 30 1 8:=.of _ Try.underlying51 B05 Ci2 Ci3 rfl (by decide)
theorem Ce0:SlT Try.prog 73 130 3 24:=.of _ Try.underlying73 AX6 Ca8 B08 rfl (by decide)
theorem Ce1:SlT Try.prog 79 109 36 64:=.of _ Try.underlying79 Bm7 Ca6 BN9 rfl (by decide)
theorem Ck3:SlT Try.prog 93 95 42 160:=.of _ Try.underlying93 B06 Ck0 Ca5 rfl (by decide)
theorem ok:progOkB Try.prog HH=true:=by kernel_rfl
theorem progOk:ProgOk Try.prog HH:=Bk5 ok gtab (fun g v h=>AG9 h) (fun _ h=>by first | (simp at h;done) | cases h | exact h.elim)
end Go.Sv.Try
