/- The seat's own facts: the order of each drawing region, what fixed runs come to, sizes of types. -/
import Derived.Test.YtnikcplcdapjhaaGreatSv4
import Derived.Test.YtnikcplcdapjhaaGreatChecked
import Derived.KernelRfl
open Go.Proofs.Tryz renaming prog → TP
set_option linter.unusedVariables false
namespace Go.Sv.Tryz
open Go Go.Proofs
def oZ:List (Nat×Nat×fS):=
 [(8,4,[(0,[]),(1,[]),(2,[]),(3,[]),(4,[]),(5,[]),(6,[]),(7,[5]),(8,[]),(9,[]),(10,[]),(11,[])]),
  (9,4,[(0,[]),(1,[]),(2,[]),(8,[]),(3,[1]),(4,[]),(5,[]),(6,[]),(7,[]),(9,[]),(10,[])]),
  (9,6,[(0,[]),(1,[]),(2,[]),(3,[0]),(4,[]),(5,[]),(6,[]),(7,[]),(8,[])]),
  (10,1,(List.range' 0 33).map fun i=>(i,[])),
  (10,6,[(0,[]),(1,[]),(2,[]),(3,[]),(4,[]),(5,[]),(6,[]),(7,[]),(8,[]),(9,[]),(10,[]),(11,[]),(12,[]),(13,[]),(14,[]),(15,[]),(16,[]),(17,[]),(18,[]),(20,[]),(19,[]),(21,[]),(22,[]),(23,[]),(24,[]),(25,[]),(26,[]),(27,[]),(28,[]),(29,[]),(30,[]),(31,[]),(32,[])]),
  (10,8,[(0,[]),(1,[]),(2,[]),(4,[]),(5,[]),(6,[]),(7,[]),(8,[]),(9,[]),(10,[]),(11,[]),(12,[]),(13,[]),(3,[7,9,11,13]),(14,[7,9,11]),(15,[]),(16,[]),(17,[])]),
  (10,16,(List.range' 0 14).map fun i=>(i,[])),
  (11,9,[(0,[]),(1,[]),(2,[]),(3,[]),(4,[]),(5,[]),(6,[]),(7,[]),(8,[]),(14,[]),(9,[1,3,5]),(10,[]),(11,[]),(12,[]),(13,[]),(15,[]),(16,[])]),
  (11,17,[(0,[]),(1,[]),(2,[]),(3,[]),(4,[]),(5,[]),(6,[]),(7,[]),(8,[]),(9,[]),(10,[]),(11,[]),(16,[]),(12,[]),(13,[]),(14,[]),(15,[]),(17,[]),(18,[])]),
  (12,5,[(0,[]),(1,[]),(2,[]),(3,[]),(4,[]),(5,[]),(6,[]),(7,[0]),(8,[]),(9,[])]),
  (12,12,(List.range' 0 11).map fun i=>(i,[])),
  (12,13,[(0,[]),(1,[]),(2,[]),(3,[]),(4,[]),(5,[]),(6,[]),(7,[]),(8,[]),(9,[]),(10,[]),(11,[]),(12,[]),(13,[]),(14,[]),(15,[]),(16,[1,4,5,8]),(17,[]),(18,[]),(19,[]),(20,[])]),
  (13,7,[(0,[]),(1,[]),(2,[]),(3,[]),(4,[]),(5,[]),(6,[]),(7,[]),(8,[]),(9,[]),(10,[]),(11,[]),(16,[]),(12,[]),(13,[]),(14,[]),(15,[]),(17,[]),(18,[])]),
  (14,3,(List.range' 0 7).map fun i=>(i,[])),
  (14,6,[(0,[]),(1,[]),(2,[]),(3,[]),(4,[]),(5,[]),(6,[]),(7,[3]),(8,[])]),
  (14,7,[(0,[]),(1,[]),(2,[]),(3,[]),(4,[]),(5,[]),(6,[]),(7,[]),(8,[]),(9,[]),(10,[3,5,7]),(11,[]),(12,[])]),
  (14,12,(List.range' 0 11).map fun i=>(i,[])),
  (15,5,[(0,[]),(1,[]),(2,[]),(3,[]),(4,[]),(5,[1]),(6,[]),(7,[]),(8,[])]),
  (15,6,[(0,[]),(1,[]),(2,[]),(3,[]),(4,[]),(5,[]),(6,[]),(7,[]),(8,[]),(9,[1,3,5]),(10,[]),(11,[]),(12,[]),(13,[])]),
  (15,11,(List.range' 0 15).map fun i=>(i,[])),
  (18,4,[(0,[]),(1,[]),(2,[]),(3,[]),(4,[]),(5,[3]),(6,[])]),
  (20,1,(List.range' 0 11).map fun i=>(i,[])),
  (23,6,(List.range' 0 10).map fun i=>(i,[])),
  (24,6,(List.range' 0 11).map fun i=>(i,[])),
  (24,11,(List.range' 0 13).map fun i=>(i,[])),
  (27,1,[(0,[]),(1,[]),(2,[]),(3,[]),(4,[]),(5,[]),(6,[3]),(7,[]),(8,[])]),
  (28,13,(List.range' 0 8).map fun i=>(i,[])),
  (28,15,(List.range' 0 15).map fun i=>(i,[])),
  (31,2,[(0,[]),(1,[]),(2,[]),(8,[]),(3,[1]),(4,[]),(5,[]),(6,[]),(7,[]),(9,[]),(10,[])]),
  (34,8,[(0,[]),(1,[]),(2,[]),(3,[]),(4,[]),(5,[]),(10,[]),(6,[]),(7,[]),(8,[]),(9,[]),(11,[]),(12,[])]),
  (34,13,(List.range' 0 18).map fun i=>(i,[])),
  (34,15,(List.range' 0 13).map fun i=>(i,[])),
  (35,3,(List.range' 0 8).map fun i=>(i,[])),
  (37,1,[(0,[]),(1,[]),(2,[]),(3,[]),(4,[]),(5,[]),(6,[]),(7,[]),(8,[]),(9,[]),(10,[]),(11,[]),(12,[]),(13,[]),(14,[]),(15,[]),(16,[]),(17,[]),(18,[]),(19,[]),(20,[]),(21,[]),(22,[21]),(23,[]),(24,[]),(25,[]),(26,[]),(27,[]),(28,[]),(29,[]),(30,[]),(31,[]),(32,[]),(33,[]),(34,[])]),
  (37,2,(List.range' 0 9).map fun i=>(i,[])),
  (39,2,(List.range' 0 9).map fun i=>(i,[])),
  (40,3,(List.range' 0 8).map fun i=>(i,[])),
  (42,1,[(0,[]),(1,[]),(2,[]),(3,[]),(4,[]),(5,[]),(6,[]),(7,[]),(8,[]),(9,[]),(10,[]),(11,[]),(12,[]),(13,[]),(14,[]),(15,[]),(16,[]),(17,[]),(18,[]),(19,[]),(20,[]),(21,[]),(22,[21]),(23,[]),(24,[]),(25,[]),(26,[]),(27,[]),(28,[]),(29,[]),(30,[]),(31,[])]),
  (45,3,[(0,[]),(1,[]),(2,[]),(3,[]),(4,[]),(5,[]),(6,[0]),(7,[]),(8,[]),(9,[])]),
  (47,1,(List.range' 0 10).map fun i=>(i,[])),
  (48,2,[(0,[]),(1,[]),(2,[]),(3,[]),(4,[]),(5,[]),(6,[]),(7,[]),(8,[]),(9,[]),(10,[]),(11,[]),(12,[]),(14,[]),(15,[]),(16,[]),(17,[]),(13,[17]),(18,[]),(19,[])]),
  (48,4,[(0,[]),(1,[]),(2,[]),(3,[]),(4,[]),(5,[]),(6,[]),(7,[]),(8,[]),(9,[]),(10,[]),(11,[]),(12,[]),(13,[]),(14,[]),(15,[]),(16,[]),(17,[]),(18,[]),(19,[]),(20,[]),(21,[3,7,10,12]),(22,[]),(23,[]),(24,[])]),
  (49,1,(List.range' 0 10).map fun i=>(i,[])),
  (51,3,[(0,[]),(1,[0]),(2,[]),(3,[])]),
  (51,5,[(0,[]),(1,[0]),(2,[]),(3,[])]),
  (52,2,[(0,[]),(1,[]),(2,[]),(3,[]),(4,[]),(5,[]),(6,[]),(7,[]),(8,[]),(9,[]),(11,[]),(12,[]),(13,[]),(10,[13]),(14,[]),(15,[])]),
  (53,4,(List.range' 0 7).map fun i=>(i,[])),
  (54,2,(List.range' 0 11).map fun i=>(i,[])),
  (55,2,(List.range' 0 11).map fun i=>(i,[])),
  (55,4,[(0,[]),(1,[]),(2,[]),(3,[]),(4,[]),(5,[]),(6,[]),(7,[3,4]),(8,[])]),
  (56,4,(List.range' 0 21).map fun i=>(i,[])),
  (56,5,(List.range' 0 12).map fun i=>(i,[])),
  (56,7,(List.range' 0 25).map fun i=>(i,[])),
  (56,8,[(0,[]),(1,[]),(2,[]),(3,[]),(4,[]),(5,[]),(6,[]),(7,[]),(8,[]),(9,[5]),(10,[]),(11,[]),(12,[])]),
  (56,9,[(0,[]),(1,[]),(2,[]),(3,[]),(4,[]),(5,[]),(6,[5]),(7,[]),(8,[])]),
  (56,10,[(0,[]),(1,[]),(2,[]),(3,[]),(4,[]),(5,[]),(6,[]),(7,[]),(8,[]),(9,[]),(10,[]),(11,[]),(12,[]),(13,[]),(14,[]),(15,[]),(16,[8,10,13]),(17,[]),(18,[]),(19,[10,13]),(20,[]),(21,[]),(22,[13]),(23,[]),(24,[]),(25,[])]),
  (59,14,[(0,[]),(1,[]),(2,[]),(3,[]),(4,[]),(5,[]),(6,[5]),(7,[]),(8,[])]),
  (61,1,[(0,[]),(1,[]),(2,[]),(3,[]),(4,[]),(5,[]),(6,[]),(7,[]),(8,[]),(10,[]),(11,[]),(12,[]),(13,[]),(14,[]),(15,[]),(16,[]),(17,[]),(18,[]),(9,[13,18]),(19,[]),(20,[]),(21,[])]),
  (62,10,(List.range' 0 10).map fun i=>(i,[])),
  (65,3,[(0,[]),(1,[]),(2,[]),(3,[]),(4,[]),(5,[]),(6,[]),(7,[]),(8,[]),(9,[]),(12,[]),(13,[]),(10,[4,8]),(11,[]),(14,[]),(15,[]),(16,[]),(17,[]),(18,[]),(19,[])]),
  (68,3,[(0,[]),(1,[]),(2,[]),(3,[]),(4,[]),(5,[]),(6,[]),(7,[]),(8,[]),(10,[]),(11,[]),(12,[]),(13,[]),(9,[13]),(14,[])]),
  (68,8,(List.range' 0 12).map fun i=>(i,[])),
  (68,9,(List.range' 0 9).map fun i=>(i,[])),
  (72,6,[(0,[]),(1,[]),(2,[]),(3,[]),(4,[]),(6,[]),(7,[]),(5,[7]),(8,[])]),
  (73,6,(List.range' 0 25).map fun i=>(i,[])),
  (77,5,(List.range' 0 13).map fun i=>(i,[])),
  (82,1,(List.range' 0 7).map fun i=>(i,[])),
  (82,3,(List.range' 0 8).map fun i=>(i,[])),
  (84,1,(List.range' 0 16).map fun i=>(i,[])),
  (84,2,(List.range' 0 9).map fun i=>(i,[])),
  (87,4,(List.range' 0 6).map fun i=>(i,[])),
  (90,12,(List.range' 0 14).map fun i=>(i,[])),
  (90,16,(List.range' 0 11).map fun i=>(i,[])),
  (90,20,(List.range' 0 20).map fun i=>(i,[])),
  (90,22,(List.range' 0 23).map fun i=>(i,[])),
  (90,24,(List.range' 0 31).map fun i=>(i,[])),
  (91,0,(List.range' 0 12).map fun i=>(i,[])),
  (91,1,(List.range' 0 11).map fun i=>(i,[])),
  (92,1,(List.range' 0 11).map fun i=>(i,[])),
  (94,14,(List.range' 0 18).map fun i=>(i,[])),
  (94,15,[(0,[]),(1,[]),(2,[]),(3,[]),(4,[]),(5,[]),(7,[]),(6,[]),(8,[])]),
  (94,27,[(0,[]),(1,[]),(2,[]),(3,[]),(4,[]),(5,[]),(6,[]),(7,[]),(10,[]),(8,[5,7,10]),(9,[10]),(11,[]),(12,[]),(13,[])]),
  (94,28,[(0,[]),(1,[0]),(2,[]),(3,[]),(4,[])]),
  (94,29,[(0,[]),(1,[]),(2,[]),(3,[]),(4,[]),(5,[]),(6,[]),(7,[]),(9,[]),(8,[9]),(10,[]),(11,[]),(12,[])]),
  (94,31,[(0,[]),(1,[]),(2,[]),(3,[]),(5,[]),(4,[5]),(6,[]),(7,[])]),
  (95,5,(List.range' 0 7).map fun i=>(i,[])),
  (97,16,(List.range' 0 19).map fun i=>(i,[])),
  (97,17,(List.range' 0 12).map fun i=>(i,[])),
  (97,20,(List.range' 0 21).map fun i=>(i,[])),
  (97,25,(List.range' 0 19).map fun i=>(i,[])),
  (97,26,(List.range' 0 24).map fun i=>(i,[])),
  (97,27,[(0,[]),(1,[]),(2,[]),(3,[]),(4,[]),(5,[]),(7,[]),(8,[]),(9,[]),(12,[]),(13,[]),(14,[]),(18,[]),(20,[]),(21,[]),(22,[]),(23,[]),(25,[]),(26,[]),(27,[]),(28,[]),(6,[2,9,14,23,28]),(10,[2,14,23,28]),(11,[]),(15,[2,23,28]),(16,[]),(17,[]),(19,[]),(24,[]),(29,[]),(30,[])]),
  (97,28,[(0,[]),(1,[]),(2,[]),(4,[]),(5,[]),(6,[]),(9,[]),(10,[]),(11,[]),(14,[]),(3,[6,11]),(7,[11]),(8,[]),(12,[]),(13,[]),(15,[]),(16,[])]),
  (97,29,(List.range' 0 32).map fun i=>(i,[])),
  (97,33,(List.range' 0 15).map fun i=>(i,[])),
  (102,2,[(0,[]),(1,[]),(2,[]),(3,[]),(4,[0,3]),(5,[]),(6,[]),(7,[3]),(8,[])]),
  (104,2,(List.range' 0 26).map fun i=>(i,[])),
  (104,3,[(0,[]),(1,[]),(2,[]),(3,[]),(4,[]),(5,[]),(6,[]),(7,[]),(8,[]),(9,[]),(10,[7]),(11,[]),(12,[]),(13,[])]),
  (104,5,[(0,[]),(1,[]),(2,[]),(3,[]),(4,[]),(5,[]),(6,[]),(7,[]),(8,[]),(9,[]),(10,[7]),(11,[]),(12,[]),(13,[])]),
  (104,8,[(0,[]),(1,[]),(2,[]),(3,[]),(4,[]),(5,[]),(6,[]),(7,[]),(8,[]),(9,[]),(10,[]),(11,[]),(12,[]),(13,[]),(16,[]),(17,[]),(18,[]),(19,[]),(14,[9,13,19]),(15,[19]),(20,[]),(21,[]),(22,[]),(23,[])]),
  (104,11,[(0,[]),(1,[]),(2,[]),(3,[]),(4,[]),(5,[]),(6,[]),(7,[]),(8,[]),(9,[]),(10,[]),(11,[]),(12,[]),(13,[]),(15,[]),(16,[]),(17,[]),(18,[]),(14,[18]),(19,[]),(20,[]),(21,[])]),
  (104,13,[(0,[]),(1,[]),(2,[]),(3,[]),(4,[]),(5,[]),(6,[]),(7,[]),(9,[]),(10,[]),(11,[]),(12,[]),(8,[12]),(13,[]),(14,[])]),
  (106,6,(List.range' 0 40).map fun i=>(i,[])),
  (106,7,(List.range' 0 10).map fun i=>(i,[])),
  (106,10,(List.range' 0 16).map fun i=>(i,[])),
  (106,16,(List.range' 0 6).map fun i=>(i,[])),
  (106,17,[(0,[]),(1,[]),(2,[]),(4,[]),(7,[]),(11,[]),(12,[]),(13,[]),(14,[]),(15,[]),(16,[]),(17,[]),(18,[]),(19,[]),(20,[]),(22,[]),(23,[]),(24,[]),(26,[]),(27,[]),(28,[]),(3,[1,12,15,17,24,28]),(5,[1,12,15,17,24,28]),(6,[]),(8,[1,12,15,17,24,28]),(9,[]),(10,[]),(21,[]),(25,[]),(29,[]),(30,[])]),
  (106,18,[(0,[]),(2,[]),(5,[]),(8,[]),(9,[]),(10,[]),(11,[]),(12,[]),(13,[]),(14,[]),(15,[]),(16,[]),(17,[]),(18,[]),(19,[]),(1,[10,13,16]),(3,[10,13,16]),(4,[]),(6,[10,13,16]),(7,[]),(20,[]),(21,[])]),
  (106,24,(List.range' 0 12).map fun i=>(i,[])),
  (107,2,[(0,[]),(1,[]),(2,[]),(3,[]),(4,[0,3]),(5,[]),(6,[]),(7,[3]),(8,[])]),
  (110,5,(List.range' 0 25).map fun i=>(i,[])),
  (115,1,(List.range' 0 10).map fun i=>(i,[])),
  (116,3,[(0,[]),(1,[]),(2,[]),(3,[]),(5,[]),(6,[]),(7,[]),(8,[]),(4,[5,8]),(9,[]),(10,[])]),
  (117,1,[(0,[]),(1,[]),(2,[]),(4,[]),(3,[4]),(5,[]),(6,[])]),
  (120,14,(List.range' 0 5).map fun i=>(i,[])),
  (125,1,(List.range' 0 10).map fun i=>(i,[]))]
def qE(f id:Nat):fS:=match oZ.find? (fun x=>x.1 == f && x.2.1 == id)with
 |some x=>x.2.2
 |none=>[]
def sw:List (Nat×V):=[]
def HH:Hints:={ ak:=qE,ground:=jG sw }
theorem Cd9:HH.ak 8 4=[(0,[]),(1,[]),(2,[]),(3,[]),(4,[]),(5,[]),(6,[]),(7,[5]),(8,[]),(9,[]),(10,[]),(11,[])]:=by kernel_rfl
theorem Ce0:HH.ak 9 4=[(0,[]),(1,[]),(2,[]),(8,[]),(3,[1]),(4,[]),(5,[]),(6,[]),(7,[]),(9,[]),(10,[])]:=by kernel_rfl
theorem Ce1:HH.ak 9 6=[(0,[]),(1,[]),(2,[]),(3,[0]),(4,[]),(5,[]),(6,[]),(7,[]),(8,[])]:=by kernel_rfl
theorem BR8:HH.ak 10 1=(List.range' 0 33).map fun i=>(i,[]):=by kernel_rfl
theorem A53:HH.ak 10 6=[(0,[]),(1,[]),(2,[]),(3,[]),(4,[]),(5,[]),(6,[]),(7,[]),(8,[]),(9,[]),(10,[]),(11,[]),(12,[]),(13,[]),(14,[]),(15,[]),(16,[]),(17,[]),(18,[]),(20,[]),(19,[]),(21,[]),(22,[]),(23,[]),(24,[]),(25,[]),(26,[]),(27,[]),(28,[]),(29,[]),(30,[]),(31,[]),(32,[])]:=by kernel_rfl
theorem BR9:HH.ak 10 8=[(0,[]),(1,[]),(2,[]),(4,[]),(5,[]),(6,[]),(7,[]),(8,[]),(9,[]),(10,[]),(11,[]),(12,[]),(13,[]),(3,[7,9,11,13]),(14,[7,9,11]),(15,[]),(16,[]),(17,[])]:=by kernel_rfl
theorem Bz9:HH.ak 10 16=(List.range' 0 14).map fun i=>(i,[]):=by kernel_rfl
theorem BS0:HH.ak 11 9=[(0,[]),(1,[]),(2,[]),(3,[]),(4,[]),(5,[]),(6,[]),(7,[]),(8,[]),(14,[]),(9,[1,3,5]),(10,[]),(11,[]),(12,[]),(13,[]),(15,[]),(16,[])]:=by kernel_rfl
theorem BA0:HH.ak 11 17=[(0,[]),(1,[]),(2,[]),(3,[]),(4,[]),(5,[]),(6,[]),(7,[]),(8,[]),(9,[]),(10,[]),(11,[]),(16,[]),(12,[]),(13,[]),(14,[]),(15,[]),(17,[]),(18,[])]:=by kernel_rfl
theorem BS1:HH.ak 12 5=[(0,[]),(1,[]),(2,[]),(3,[]),(4,[]),(5,[]),(6,[]),(7,[0]),(8,[]),(9,[])]:=by kernel_rfl
theorem BA1:HH.ak 12 12=(List.range' 0 11).map fun i=>(i,[]):=by kernel_rfl
theorem BA2:HH.ak 12 13=[(0,[]),(1,[]),(2,[]),(3,[]),(4,[]),(5,[]),(6,[]),(7,[]),(8,[]),(9,[]),(10,[]),(11,[]),(12,[]),(13,[]),(14,[]),(15,[]),(16,[1,4,5,8]),(17,[]),(18,[]),(19,[]),(20,[])]:=by kernel_rfl
theorem BS2:HH.ak 13 7=[(0,[]),(1,[]),(2,[]),(3,[]),(4,[]),(5,[]),(6,[]),(7,[]),(8,[]),(9,[]),(10,[]),(11,[]),(16,[]),(12,[]),(13,[]),(14,[]),(15,[]),(17,[]),(18,[])]:=by kernel_rfl
theorem BS3:HH.ak 14 3=(List.range' 0 7).map fun i=>(i,[]):=by kernel_rfl
theorem BS4:HH.ak 14 6=[(0,[]),(1,[]),(2,[]),(3,[]),(4,[]),(5,[]),(6,[]),(7,[3]),(8,[])]:=by kernel_rfl
theorem BS5:HH.ak 14 7=[(0,[]),(1,[]),(2,[]),(3,[]),(4,[]),(5,[]),(6,[]),(7,[]),(8,[]),(9,[]),(10,[3,5,7]),(11,[]),(12,[])]:=by kernel_rfl
theorem BA3:HH.ak 14 12=(List.range' 0 11).map fun i=>(i,[]):=by kernel_rfl
theorem BS6:HH.ak 15 5=[(0,[]),(1,[]),(2,[]),(3,[]),(4,[]),(5,[1]),(6,[]),(7,[]),(8,[])]:=by kernel_rfl
theorem BS7:HH.ak 15 6=[(0,[]),(1,[]),(2,[]),(3,[]),(4,[]),(5,[]),(6,[]),(7,[]),(8,[]),(9,[1,3,5]),(10,[]),(11,[]),(12,[]),(13,[])]:=by kernel_rfl
theorem BA4:HH.ak 15 11=(List.range' 0 15).map fun i=>(i,[]):=by kernel_rfl
theorem BS8:HH.ak 18 4=[(0,[]),(1,[]),(2,[]),(3,[]),(4,[]),(5,[3]),(6,[])]:=by kernel_rfl
theorem BS9:HH.ak 20 1=(List.range' 0 11).map fun i=>(i,[]):=by kernel_rfl
theorem BT0:HH.ak 23 6=(List.range' 0 10).map fun i=>(i,[]):=by kernel_rfl
theorem BT1:HH.ak 24 6=(List.range' 0 11).map fun i=>(i,[]):=by kernel_rfl
theorem BA5:HH.ak 24 11=(List.range' 0 13).map fun i=>(i,[]):=by kernel_rfl
theorem BT2:HH.ak 27 1=[(0,[]),(1,[]),(2,[]),(3,[]),(4,[]),(5,[]),(6,[3]),(7,[]),(8,[])]:=by kernel_rfl
theorem BA6:HH.ak 28 13=(List.range' 0 8).map fun i=>(i,[]):=by kernel_rfl
theorem BA7:HH.ak 28 15=(List.range' 0 15).map fun i=>(i,[]):=by kernel_rfl
theorem BT3:HH.ak 31 2=[(0,[]),(1,[]),(2,[]),(8,[]),(3,[1]),(4,[]),(5,[]),(6,[]),(7,[]),(9,[]),(10,[])]:=by kernel_rfl
theorem BT4:HH.ak 34 8=[(0,[]),(1,[]),(2,[]),(3,[]),(4,[]),(5,[]),(10,[]),(6,[]),(7,[]),(8,[]),(9,[]),(11,[]),(12,[])]:=by kernel_rfl
theorem BA8:HH.ak 34 13=(List.range' 0 18).map fun i=>(i,[]):=by kernel_rfl
theorem BA9:HH.ak 34 15=(List.range' 0 13).map fun i=>(i,[]):=by kernel_rfl
theorem BT5:HH.ak 35 3=(List.range' 0 8).map fun i=>(i,[]):=by kernel_rfl
theorem AA3:HH.ak 37 1=[(0,[]),(1,[]),(2,[]),(3,[]),(4,[]),(5,[]),(6,[]),(7,[]),(8,[]),(9,[]),(10,[]),(11,[]),(12,[]),(13,[]),(14,[]),(15,[]),(16,[]),(17,[]),(18,[]),(19,[]),(20,[]),(21,[]),(22,[21]),(23,[]),(24,[]),(25,[]),(26,[]),(27,[]),(28,[]),(29,[]),(30,[]),(31,[]),(32,[]),(33,[]),(34,[])]:=by kernel_rfl
theorem BT6:HH.ak 37 2=(List.range' 0 9).map fun i=>(i,[]):=by kernel_rfl
theorem BT7:HH.ak 39 2=(List.range' 0 9).map fun i=>(i,[]):=by kernel_rfl
theorem BT8:HH.ak 40 3=(List.range' 0 8).map fun i=>(i,[]):=by kernel_rfl
theorem AA4:HH.ak 42 1=[(0,[]),(1,[]),(2,[]),(3,[]),(4,[]),(5,[]),(6,[]),(7,[]),(8,[]),(9,[]),(10,[]),(11,[]),(12,[]),(13,[]),(14,[]),(15,[]),(16,[]),(17,[]),(18,[]),(19,[]),(20,[]),(21,[]),(22,[21]),(23,[]),(24,[]),(25,[]),(26,[]),(27,[]),(28,[]),(29,[]),(30,[]),(31,[])]:=by kernel_rfl
theorem BT9:HH.ak 45 3=[(0,[]),(1,[]),(2,[]),(3,[]),(4,[]),(5,[]),(6,[0]),(7,[]),(8,[]),(9,[])]:=by kernel_rfl
theorem BU0:HH.ak 47 1=(List.range' 0 10).map fun i=>(i,[]):=by kernel_rfl
theorem Bp4:HH.ak 48 2=[(0,[]),(1,[]),(2,[]),(3,[]),(4,[]),(5,[]),(6,[]),(7,[]),(8,[]),(9,[]),(10,[]),(11,[]),(12,[]),(14,[]),(15,[]),(16,[]),(17,[]),(13,[17]),(18,[]),(19,[])]:=by kernel_rfl
theorem BU1:HH.ak 48 4=[(0,[]),(1,[]),(2,[]),(3,[]),(4,[]),(5,[]),(6,[]),(7,[]),(8,[]),(9,[]),(10,[]),(11,[]),(12,[]),(13,[]),(14,[]),(15,[]),(16,[]),(17,[]),(18,[]),(19,[]),(20,[]),(21,[3,7,10,12]),(22,[]),(23,[]),(24,[])]:=by kernel_rfl
theorem BU2:HH.ak 49 1=(List.range' 0 10).map fun i=>(i,[]):=by kernel_rfl
theorem BU3:HH.ak 51 3=[(0,[]),(1,[0]),(2,[]),(3,[])]:=by kernel_rfl
theorem BU4:HH.ak 51 5=[(0,[]),(1,[0]),(2,[]),(3,[])]:=by kernel_rfl
theorem Bp5:HH.ak 52 2=[(0,[]),(1,[]),(2,[]),(3,[]),(4,[]),(5,[]),(6,[]),(7,[]),(8,[]),(9,[]),(11,[]),(12,[]),(13,[]),(10,[13]),(14,[]),(15,[])]:=by kernel_rfl
theorem BU5:HH.ak 53 4=(List.range' 0 7).map fun i=>(i,[]):=by kernel_rfl
theorem BU6:HH.ak 54 2=(List.range' 0 11).map fun i=>(i,[]):=by kernel_rfl
theorem Bp6:HH.ak 55 2=(List.range' 0 11).map fun i=>(i,[]):=by kernel_rfl
theorem BU7:HH.ak 55 4=[(0,[]),(1,[]),(2,[]),(3,[]),(4,[]),(5,[]),(6,[]),(7,[3,4]),(8,[])]:=by kernel_rfl
theorem BU8:HH.ak 56 4=(List.range' 0 21).map fun i=>(i,[]):=by kernel_rfl
theorem BU9:HH.ak 56 5=(List.range' 0 12).map fun i=>(i,[]):=by kernel_rfl
theorem BV0:HH.ak 56 7=(List.range' 0 25).map fun i=>(i,[]):=by kernel_rfl
theorem BV1:HH.ak 56 8=[(0,[]),(1,[]),(2,[]),(3,[]),(4,[]),(5,[]),(6,[]),(7,[]),(8,[]),(9,[5]),(10,[]),(11,[]),(12,[])]:=by kernel_rfl
theorem BV2:HH.ak 56 9=[(0,[]),(1,[]),(2,[]),(3,[]),(4,[]),(5,[]),(6,[5]),(7,[]),(8,[])]:=by kernel_rfl
theorem BB0:HH.ak 56 10=[(0,[]),(1,[]),(2,[]),(3,[]),(4,[]),(5,[]),(6,[]),(7,[]),(8,[]),(9,[]),(10,[]),(11,[]),(12,[]),(13,[]),(14,[]),(15,[]),(16,[8,10,13]),(17,[]),(18,[]),(19,[10,13]),(20,[]),(21,[]),(22,[13]),(23,[]),(24,[]),(25,[])]:=by kernel_rfl
theorem A98:HH.ak 59 14=[(0,[]),(1,[]),(2,[]),(3,[]),(4,[]),(5,[]),(6,[5]),(7,[]),(8,[])]:=by kernel_rfl
theorem BV3:HH.ak 61 1=[(0,[]),(1,[]),(2,[]),(3,[]),(4,[]),(5,[]),(6,[]),(7,[]),(8,[]),(10,[]),(11,[]),(12,[]),(13,[]),(14,[]),(15,[]),(16,[]),(17,[]),(18,[]),(9,[13,18]),(19,[]),(20,[]),(21,[])]:=by kernel_rfl
theorem BB1:HH.ak 62 10=(List.range' 0 10).map fun i=>(i,[]):=by kernel_rfl
theorem BV4:HH.ak 65 3=[(0,[]),(1,[]),(2,[]),(3,[]),(4,[]),(5,[]),(6,[]),(7,[]),(8,[]),(9,[]),(12,[]),(13,[]),(10,[4,8]),(11,[]),(14,[]),(15,[]),(16,[]),(17,[]),(18,[]),(19,[])]:=by kernel_rfl
theorem BV5:HH.ak 68 3=[(0,[]),(1,[]),(2,[]),(3,[]),(4,[]),(5,[]),(6,[]),(7,[]),(8,[]),(10,[]),(11,[]),(12,[]),(13,[]),(9,[13]),(14,[])]:=by kernel_rfl
theorem Bp7:HH.ak 68 8=(List.range' 0 12).map fun i=>(i,[]):=by kernel_rfl
theorem Bp8:HH.ak 68 9=(List.range' 0 9).map fun i=>(i,[]):=by kernel_rfl
theorem BV6:HH.ak 72 6=[(0,[]),(1,[]),(2,[]),(3,[]),(4,[]),(6,[]),(7,[]),(5,[7]),(8,[])]:=by kernel_rfl
theorem BV7:HH.ak 73 6=(List.range' 0 25).map fun i=>(i,[]):=by kernel_rfl
theorem BV8:HH.ak 77 5=(List.range' 0 13).map fun i=>(i,[]):=by kernel_rfl
theorem Bp9:HH.ak 82 1=(List.range' 0 7).map fun i=>(i,[]):=by kernel_rfl
theorem Bq0:HH.ak 82 3=(List.range' 0 8).map fun i=>(i,[]):=by kernel_rfl
theorem BV9:HH.ak 84 1=(List.range' 0 16).map fun i=>(i,[]):=by kernel_rfl
theorem BW0:HH.ak 84 2=(List.range' 0 9).map fun i=>(i,[]):=by kernel_rfl
theorem BW1:HH.ak 87 4=(List.range' 0 6).map fun i=>(i,[]):=by kernel_rfl
theorem BB2:HH.ak 90 12=(List.range' 0 14).map fun i=>(i,[]):=by kernel_rfl
theorem BB3:HH.ak 90 16=(List.range' 0 11).map fun i=>(i,[]):=by kernel_rfl
theorem BB4:HH.ak 90 20=(List.range' 0 20).map fun i=>(i,[]):=by kernel_rfl
theorem AS3:HH.ak 90 22=(List.range' 0 23).map fun i=>(i,[]):=by kernel_rfl
theorem AS4:HH.ak 90 24=(List.range' 0 31).map fun i=>(i,[]):=by kernel_rfl
theorem BW2:HH.ak 91 0=(List.range' 0 12).map fun i=>(i,[]):=by kernel_rfl
theorem BW3:HH.ak 91 1=(List.range' 0 11).map fun i=>(i,[]):=by kernel_rfl
theorem BW4:HH.ak 92 1=(List.range' 0 11).map fun i=>(i,[]):=by kernel_rfl
theorem BB5:HH.ak 94 14=(List.range' 0 18).map fun i=>(i,[]):=by kernel_rfl
theorem BB6:HH.ak 94 15=[(0,[]),(1,[]),(2,[]),(3,[]),(4,[]),(5,[]),(7,[]),(6,[]),(8,[])]:=by kernel_rfl
theorem BB7:HH.ak 94 27=[(0,[]),(1,[]),(2,[]),(3,[]),(4,[]),(5,[]),(6,[]),(7,[]),(10,[]),(8,[5,7,10]),(9,[10]),(11,[]),(12,[]),(13,[])]:=by kernel_rfl
theorem BB8:HH.ak 94 28=[(0,[]),(1,[0]),(2,[]),(3,[]),(4,[])]:=by kernel_rfl
theorem BB9:HH.ak 94 29=[(0,[]),(1,[]),(2,[]),(3,[]),(4,[]),(5,[]),(6,[]),(7,[]),(9,[]),(8,[9]),(10,[]),(11,[]),(12,[])]:=by kernel_rfl
theorem BC0:HH.ak 94 31=[(0,[]),(1,[]),(2,[]),(3,[]),(5,[]),(4,[5]),(6,[]),(7,[])]:=by kernel_rfl
theorem BW5:HH.ak 95 5=(List.range' 0 7).map fun i=>(i,[]):=by kernel_rfl
theorem BC1:HH.ak 97 16=(List.range' 0 19).map fun i=>(i,[]):=by kernel_rfl
theorem BC2:HH.ak 97 17=(List.range' 0 12).map fun i=>(i,[]):=by kernel_rfl
theorem BC3:HH.ak 97 20=(List.range' 0 21).map fun i=>(i,[]):=by kernel_rfl
theorem BC4:HH.ak 97 25=(List.range' 0 19).map fun i=>(i,[]):=by kernel_rfl
theorem BC5:HH.ak 97 26=(List.range' 0 24).map fun i=>(i,[]):=by kernel_rfl
theorem BC6:HH.ak 97 27=[(0,[]),(1,[]),(2,[]),(3,[]),(4,[]),(5,[]),(7,[]),(8,[]),(9,[]),(12,[]),(13,[]),(14,[]),(18,[]),(20,[]),(21,[]),(22,[]),(23,[]),(25,[]),(26,[]),(27,[]),(28,[]),(6,[2,9,14,23,28]),(10,[2,14,23,28]),(11,[]),(15,[2,23,28]),(16,[]),(17,[]),(19,[]),(24,[]),(29,[]),(30,[])]:=by kernel_rfl
theorem BC7:HH.ak 97 28=[(0,[]),(1,[]),(2,[]),(4,[]),(5,[]),(6,[]),(9,[]),(10,[]),(11,[]),(14,[]),(3,[6,11]),(7,[11]),(8,[]),(12,[]),(13,[]),(15,[]),(16,[])]:=by kernel_rfl
theorem BC8:HH.ak 97 29=(List.range' 0 32).map fun i=>(i,[]):=by kernel_rfl
theorem BC9:HH.ak 97 33=(List.range' 0 15).map fun i=>(i,[]):=by kernel_rfl
theorem A99:HH.ak 102 2=[(0,[]),(1,[]),(2,[]),(3,[]),(4,[0,3]),(5,[]),(6,[]),(7,[3]),(8,[])]:=by kernel_rfl
theorem BD0:HH.ak 104 2=(List.range' 0 26).map fun i=>(i,[]):=by kernel_rfl
theorem BD1:HH.ak 104 3=[(0,[]),(1,[]),(2,[]),(3,[]),(4,[]),(5,[]),(6,[]),(7,[]),(8,[]),(9,[]),(10,[7]),(11,[]),(12,[]),(13,[])]:=by kernel_rfl
theorem BD2:HH.ak 104 5=[(0,[]),(1,[]),(2,[]),(3,[]),(4,[]),(5,[]),(6,[]),(7,[]),(8,[]),(9,[]),(10,[7]),(11,[]),(12,[]),(13,[])]:=by kernel_rfl
theorem BD3:HH.ak 104 8=[(0,[]),(1,[]),(2,[]),(3,[]),(4,[]),(5,[]),(6,[]),(7,[]),(8,[]),(9,[]),(10,[]),(11,[]),(12,[]),(13,[]),(16,[]),(17,[]),(18,[]),(19,[]),(14,[9,13,19]),(15,[19]),(20,[]),(21,[]),(22,[]),(23,[])]:=by kernel_rfl
theorem Bq1:HH.ak 104 11=[(0,[]),(1,[]),(2,[]),(3,[]),(4,[]),(5,[]),(6,[]),(7,[]),(8,[]),(9,[]),(10,[]),(11,[]),(12,[]),(13,[]),(15,[]),(16,[]),(17,[]),(18,[]),(14,[18]),(19,[]),(20,[]),(21,[])]:=by kernel_rfl
theorem Bq2:HH.ak 104 13=[(0,[]),(1,[]),(2,[]),(3,[]),(4,[]),(5,[]),(6,[]),(7,[]),(9,[]),(10,[]),(11,[]),(12,[]),(8,[12]),(13,[]),(14,[])]:=by kernel_rfl
theorem BD4:HH.ak 106 6=(List.range' 0 40).map fun i=>(i,[]):=by kernel_rfl
theorem BD5:HH.ak 106 7=(List.range' 0 10).map fun i=>(i,[]):=by kernel_rfl
theorem Bq3:HH.ak 106 10=(List.range' 0 16).map fun i=>(i,[]):=by kernel_rfl
theorem Bq4:HH.ak 106 16=(List.range' 0 6).map fun i=>(i,[]):=by kernel_rfl
theorem Bq5:HH.ak 106 17=[(0,[]),(1,[]),(2,[]),(4,[]),(7,[]),(11,[]),(12,[]),(13,[]),(14,[]),(15,[]),(16,[]),(17,[]),(18,[]),(19,[]),(20,[]),(22,[]),(23,[]),(24,[]),(26,[]),(27,[]),(28,[]),(3,[1,12,15,17,24,28]),(5,[1,12,15,17,24,28]),(6,[]),(8,[1,12,15,17,24,28]),(9,[]),(10,[]),(21,[]),(25,[]),(29,[]),(30,[])]:=by kernel_rfl
theorem Bq6:HH.ak 106 18=[(0,[]),(2,[]),(5,[]),(8,[]),(9,[]),(10,[]),(11,[]),(12,[]),(13,[]),(14,[]),(15,[]),(16,[]),(17,[]),(18,[]),(19,[]),(1,[10,13,16]),(3,[10,13,16]),(4,[]),(6,[10,13,16]),(7,[]),(20,[]),(21,[])]:=by kernel_rfl
theorem Bq7:HH.ak 106 24=(List.range' 0 12).map fun i=>(i,[]):=by kernel_rfl
theorem Ba0:HH.ak 107 2=[(0,[]),(1,[]),(2,[]),(3,[]),(4,[0,3]),(5,[]),(6,[]),(7,[3]),(8,[])]:=by kernel_rfl
theorem BD6:HH.ak 110 5=(List.range' 0 25).map fun i=>(i,[]):=by kernel_rfl
theorem BD7:HH.ak 115 1=(List.range' 0 10).map fun i=>(i,[]):=by kernel_rfl
theorem BD8:HH.ak 116 3=[(0,[]),(1,[]),(2,[]),(3,[]),(5,[]),(6,[]),(7,[]),(8,[]),(4,[5,8]),(9,[]),(10,[])]:=by kernel_rfl
theorem BD9:HH.ak 117 1=[(0,[]),(1,[]),(2,[]),(4,[]),(3,[4]),(5,[]),(6,[])]:=by kernel_rfl
theorem Bq8:HH.ak 120 14=(List.range' 0 5).map fun i=>(i,[]):=by kernel_rfl
theorem BE0:HH.ak 125 1=(List.range' 0 10).map fun i=>(i,[]):=by kernel_rfl
theorem sz3:szT TP 3=some 1:=by kernel_rfl
theorem ag3:aH TP 3=some false:=by kernel_rfl
theorem by3:ct TP 3=some 8:=by kernel_rfl
theorem zc3:(aC TP 3).bind V.cells=some [.int .i64 0]:=by kernel_rfl
theorem sz4:szT TP 4=some 1:=by kernel_rfl
theorem ag4:aH TP 4=some false:=by kernel_rfl
theorem zc4:(aC TP 4).bind V.cells=some [.bool false]:=by kernel_rfl
theorem sz5:szT TP 5=some 1:=by kernel_rfl
theorem ag5:aH TP 5=some false:=by kernel_rfl
theorem by5:ct TP 5=some 1:=by kernel_rfl
theorem zc5:(aC TP 5).bind V.cells=some [.int .u8 0]:=by kernel_rfl
theorem sz9:szT TP 9=some 1:=by kernel_rfl
theorem ag9:aH TP 9=some false:=by kernel_rfl
theorem BE1:aH TP 25=some false:=by kernel_rfl
theorem Ap3:szT TP 30=some 32:=by kernel_rfl
theorem Av4:aH TP 30=some true:=by kernel_rfl
theorem CC3:ct TP 30=some 32:=by kernel_rfl
theorem Cg2:(aC TP 30).bind V.cells=some [.int .u8 0,.int .u8 0,.int .u8 0,.int .u8 0,.int .u8 0,.int .u8 0,.int .u8 0,.int .u8 0,.int .u8 0,.int .u8 0,.int .u8 0,.int .u8 0,.int .u8 0,.int .u8 0,.int .u8 0,.int .u8 0,.int .u8 0,.int .u8 0,.int .u8 0,.int .u8 0,.int .u8 0,.int .u8 0,.int .u8 0,.int .u8 0,.int .u8 0,.int .u8 0,.int .u8 0,.int .u8 0,.int .u8 0,.int .u8 0,.int .u8 0,.int .u8 0]:=by kernel_rfl
theorem CC4:szT TP 31=some 1:=by kernel_rfl
theorem Cw4:aH TP 31=some false:=by kernel_rfl
theorem Cr1:szT TP 32=some 1:=by kernel_rfl
theorem Ce2:aH TP 32=some false:=by kernel_rfl
theorem CC5:szT TP 33=some 1:=by kernel_rfl
theorem Cw5:aH TP 33=some false:=by kernel_rfl
theorem Cw6:szT TP 34=some 1:=by kernel_rfl
theorem Cw7:aH TP 34=some false:=by kernel_rfl
theorem Cg3:szT TP 36=some 108:=by kernel_rfl
theorem Cw8:aH TP 36=some true:=by kernel_rfl
theorem Cw9:szT TP 37=some 1:=by kernel_rfl
theorem CC6:aH TP 37=some false:=by kernel_rfl
theorem CC7:szT TP 38=some 1:=by kernel_rfl
theorem CC8:aH TP 38=some false:=by kernel_rfl
theorem CC9:szT TP 39=some 1:=by kernel_rfl
theorem CD0:aH TP 39=some false:=by kernel_rfl
theorem BI0:szT TP 41=some 113:=by kernel_rfl
theorem Ce3:aH TP 41=some true:=by kernel_rfl
theorem BY1:szT TP 45=some 1:=by kernel_rfl
theorem BW6:aH TP 45=some false:=by kernel_rfl
theorem CD1:ct TP 45=some 24:=by kernel_rfl
theorem CD2:(aC TP 45).bind V.cells=some [.ah]:=by kernel_rfl
theorem Cx0:aH TP 46=some false:=by kernel_rfl
theorem Br4:szT TP 48=some 41:=by kernel_rfl
theorem BY2:aH TP 48=some true:=by kernel_rfl
theorem CD3:ct TP 48=some 152:=by kernel_rfl
theorem Cx1:(aC TP 48).bind V.cells=some [.int .i64 0,.int .i64 0,.int .i64 0,.int .i64 0,.int .i64 0,.int .i64 0,.int .u8 0,.int .u8 0,.int .u8 0,.int .u8 0,.int .u8 0,.int .u8 0,.int .u8 0,.int .u8 0,.int .u8 0,.int .u8 0,.int .u8 0,.int .u8 0,.int .u8 0,.int .u8 0,.int .u8 0,.int .u8 0,.int .u8 0,.int .u8 0,.int .u8 0,.int .u8 0,.int .u8 0,.int .u8 0,.int .u8 0,.int .u8 0,.int .u8 0,.int .u8 0,.int .u8 0,.int .u8 0,.int .u8 0,.int .u8 0,.int .u8 0,.int .u8 0,.ah,.ah,.ah]:=by kernel_rfl
theorem Cr2:szT TP 50=some 43:=by kernel_rfl
theorem Cx2:aH TP 50=some true:=by kernel_rfl
theorem CD4:(aC TP 50).bind V.cells=some [.int .i64 0,.int .i64 0,.int .i64 0,.int .i64 0,.int .i64 0,.int .i64 0,.int .i64 0,.int .i64 0,.int .u8 0,.int .u8 0,.int .u8 0,.int .u8 0,.int .u8 0,.int .u8 0,.int .u8 0,.int .u8 0,.int .u8 0,.int .u8 0,.int .u8 0,.int .u8 0,.int .u8 0,.int .u8 0,.int .u8 0,.int .u8 0,.int .u8 0,.int .u8 0,.int .u8 0,.int .u8 0,.int .u8 0,.int .u8 0,.int .u8 0,.int .u8 0,.int .u8 0,.int .u8 0,.int .u8 0,.int .u8 0,.int .u8 0,.int .u8 0,.int .u8 0,.int .u8 0,.ah,.ah,.ah]:=by kernel_rfl
theorem CD5:aH TP 69=some false:=by kernel_rfl
theorem CD6:aH TP 72=some false:=by kernel_rfl
theorem CD7:aH TP 73=some false:=by kernel_rfl
theorem Cx3:szT TP 74=some 1:=by kernel_rfl
theorem Cr3:aH TP 74=some false:=by kernel_rfl
theorem CD8:(aC TP 74).bind V.cells=some [.ah]:=by kernel_rfl
theorem Cx4:szT TP 81=some 1:=by kernel_rfl
theorem Cg4:aH TP 81=some false:=by kernel_rfl
theorem CD9:(aC TP 81).bind V.cells=some [.ah]:=by kernel_rfl
theorem BW7:szT TP 94=some 34:=by kernel_rfl
theorem Cr4:aH TP 94=some true:=by kernel_rfl
theorem Bq9:szT TP 116=some 3:=by kernel_rfl
theorem BW8:aH TP 116=some true:=by kernel_rfl
theorem Cr5:ct TP 116=some 24:=by kernel_rfl
theorem Cr6:(aC TP 116).bind V.cells=some [.int .i64 0,.int .i64 0,.int .i64 0]:=by kernel_rfl
theorem Br0:szT TP 123=some 36:=by kernel_rfl
theorem Ce4:aH TP 123=some true:=by kernel_rfl
theorem Cr7:ct TP 123=some 64:=by kernel_rfl
theorem BW9:(aC TP 123).bind V.cells=some [.int .i64 0,.int .i64 0,.int .i64 0,.int .i64 0,.int .u8 0,.int .u8 0,.int .u8 0,.int .u8 0,.int .u8 0,.int .u8 0,.int .u8 0,.int .u8 0,.int .u8 0,.int .u8 0,.int .u8 0,.int .u8 0,.int .u8 0,.int .u8 0,.int .u8 0,.int .u8 0,.int .u8 0,.int .u8 0,.int .u8 0,.int .u8 0,.int .u8 0,.int .u8 0,.int .u8 0,.int .u8 0,.int .u8 0,.int .u8 0,.int .u8 0,.int .u8 0,.int .u8 0,.int .u8 0,.int .u8 0,.int .u8 0]:=by kernel_rfl
theorem Bf2:szT TP 127=some 36:=by kernel_rfl
theorem BE2:aH TP 127=some true:=by kernel_rfl
theorem Cr8:ct TP 127=some 64:=by kernel_rfl
theorem Ce5:(aC TP 127).bind V.cells=some [.int .i64 0,.int .i64 0,.int .i64 0,.int .i64 0,.int .u8 0,.int .u8 0,.int .u8 0,.int .u8 0,.int .u8 0,.int .u8 0,.int .u8 0,.int .u8 0,.int .u8 0,.int .u8 0,.int .u8 0,.int .u8 0,.int .u8 0,.int .u8 0,.int .u8 0,.int .u8 0,.int .u8 0,.int .u8 0,.int .u8 0,.int .u8 0,.int .u8 0,.int .u8 0,.int .u8 0,.int .u8 0,.int .u8 0,.int .u8 0,.int .u8 0,.int .u8 0,.int .u8 0,.int .u8 0,.int .u8 0,.int .u8 0]:=by kernel_rfl
theorem Ce6:szT TP 128=some 64:=by kernel_rfl
theorem Cr9:aH TP 128=some true:=by kernel_rfl
theorem Cs0:(aC TP 128).bind V.cells=some [.int .u8 0,.int .u8 0,.int .u8 0,.int .u8 0,.int .u8 0,.int .u8 0,.int .u8 0,.int .u8 0,.int .u8 0,.int .u8 0,.int .u8 0,.int .u8 0,.int .u8 0,.int .u8 0,.int .u8 0,.int .u8 0,.int .u8 0,.int .u8 0,.int .u8 0,.int .u8 0,.int .u8 0,.int .u8 0,.int .u8 0,.int .u8 0,.int .u8 0,.int .u8 0,.int .u8 0,.int .u8 0,.int .u8 0,.int .u8 0,.int .u8 0,.int .u8 0,.int .u8 0,.int .u8 0,.int .u8 0,.int .u8 0,.int .u8 0,.int .u8 0,.int .u8 0,.int .u8 0,.int .u8 0,.int .u8 0,.int .u8 0,.int .u8 0,.int .u8 0,.int .u8 0,.int .u8 0,.int .u8 0,.int .u8 0,.int .u8 0,.int .u8 0,.int .u8 0,.int .u8 0,.int .u8 0,.int .u8 0,.int .u8 0,.int .u8 0,.int .u8 0,.int .u8 0,.int .u8 0,.int .u8 0,.int .u8 0,.int .u8 0,.int .u8 0]:=by kernel_rfl
theorem BX0:aH TP 130=some false:=by kernel_rfl
theorem Cs1:szT TP 134=some 3:=by kernel_rfl
theorem A54:szT TP 152=some 34:=by kernel_rfl
theorem BE3:aH TP 152=some true:=by kernel_rfl
theorem Cs2:ct TP 152=some 48:=by kernel_rfl
theorem Ce7:(aC TP 152).bind V.cells=some [.int .i64 0,.int .i64 0,.int .u8 0,.int .u8 0,.int .u8 0,.int .u8 0,.int .u8 0,.int .u8 0,.int .u8 0,.int .u8 0,.int .u8 0,.int .u8 0,.int .u8 0,.int .u8 0,.int .u8 0,.int .u8 0,.int .u8 0,.int .u8 0,.int .u8 0,.int .u8 0,.int .u8 0,.int .u8 0,.int .u8 0,.int .u8 0,.int .u8 0,.int .u8 0,.int .u8 0,.int .u8 0,.int .u8 0,.int .u8 0,.int .u8 0,.int .u8 0,.int .u8 0,.int .u8 0]:=by kernel_rfl
theorem Br1:szT TP 155=some 35:=by kernel_rfl
theorem BX1:aH TP 155=some true:=by kernel_rfl
theorem Cs3:ct TP 155=some 56:=by kernel_rfl
theorem Ce8:(aC TP 155).bind V.cells=some [.int .i64 0,.int .i64 0,.int .i64 0,.int .u8 0,.int .u8 0,.int .u8 0,.int .u8 0,.int .u8 0,.int .u8 0,.int .u8 0,.int .u8 0,.int .u8 0,.int .u8 0,.int .u8 0,.int .u8 0,.int .u8 0,.int .u8 0,.int .u8 0,.int .u8 0,.int .u8 0,.int .u8 0,.int .u8 0,.int .u8 0,.int .u8 0,.int .u8 0,.int .u8 0,.int .u8 0,.int .u8 0,.int .u8 0,.int .u8 0,.int .u8 0,.int .u8 0,.int .u8 0,.int .u8 0,.int .u8 0]:=by kernel_rfl
theorem Br2:aH TP 158=some false:=by kernel_rfl
theorem AZ3:szT TP 161=some 3:=by kernel_rfl
theorem BE4:aH TP 161=some true:=by kernel_rfl
theorem Cs4:ct TP 161=some 24:=by kernel_rfl
theorem Ce9:(aC TP 161).bind V.cells=some [.int .i64 0,.int .i64 0,.int .i64 0]:=by kernel_rfl
theorem BE5:szT TP 166=some 33:=by kernel_rfl
theorem Cf0:aH TP 166=some true:=by kernel_rfl
theorem Cs5:ct TP 166=some 48:=by kernel_rfl
theorem Cf1:(aC TP 166).bind V.cells=some [.int .u8 0,.int .u8 0,.int .u8 0,.int .u8 0,.int .u8 0,.int .u8 0,.int .u8 0,.int .u8 0,.int .u8 0,.int .u8 0,.int .u8 0,.int .u8 0,.int .u8 0,.int .u8 0,.int .u8 0,.int .u8 0,.int .u8 0,.int .u8 0,.int .u8 0,.int .u8 0,.int .u8 0,.int .u8 0,.int .u8 0,.int .u8 0,.int .u8 0,.int .u8 0,.int .u8 0,.int .u8 0,.int .u8 0,.int .u8 0,.int .u8 0,.int .u8 0,.str []]:=by kernel_rfl
theorem Cf2:szT TP 169=some 1:=by kernel_rfl
theorem Cs6:aH TP 169=some false:=by kernel_rfl
theorem Cs7:szT TP 170=some 2:=by kernel_rfl
theorem BE6:szT TP 180=some 33:=by kernel_rfl
theorem Cs8:aH TP 180=some true:=by kernel_rfl
theorem BX2:szT TP 187=some 1:=by kernel_rfl
theorem Cs9:aH TP 187=some false:=by kernel_rfl
theorem BE7:szT TP 189=some 8:=by kernel_rfl
theorem Ct0:aH TP 189=some true:=by kernel_rfl
theorem BX3:szT TP 193=some 64:=by kernel_rfl
theorem Ct1:aH TP 193=some true:=by kernel_rfl
theorem BX4:szT TP 205=some 1:=by kernel_rfl
theorem Ct2:aH TP 205=some false:=by kernel_rfl
theorem Ct3:ct TP 205=some 8:=by kernel_rfl
theorem Ct4:(aC TP 205).bind V.cells=some [.int .u64 0]:=by kernel_rfl
theorem Ct5:szT TP 211=some 64:=by kernel_rfl
theorem CE0:SlT TP 31 152 34 48:=.of _ Tryz.underlying31 A54 Cs2 Ce7 rfl (by decide)
theorem Cg5:SlT TP 32 30 32 32:=.of _ Tryz.underlying32 Ap3 CC3 Cg2 rfl (by decide)
theorem CE1:SlT TP 33 155 35 56:=.of _ Tryz.underlying33 Br1 Cs3 Ce8 rfl (by decide)
theorem Ct6:SlT TP 34 127 36 64:=.of _ Tryz.underlying34 Bf2 Cr8 Ce5 rfl (by decide)
theorem Ct7:SlT TP 37 116 3 24:=.of _ Tryz.underlying37 Bq9 Cr5 Cr6 rfl (by decide)
theorem CE2:SlT TP 38 166 33 48:=.of _ Tryz.underlying38 BE5 Cs5 Cf1 rfl (by decide)
theorem CE3:SlT TP 39 3 1 8:=.of _ Tryz.underlying39 sz3 by3 zc3 rfl (by decide)
theorem BX5:SlT TP 45 5 1 1:=.of _ Tryz.underlying45 sz5 by5 zc5 rfl (by decide)
theorem CE4:SlT TP 46 45 1 24:=.of _ Tryz.underlying46 BY1 CD1 CD2 rfl (by decide)
theorem Cx5:SlT TP 51 48 41 152:=.of _ Tryz.underlying51 Br4 CD3 Cx1 rfl (by decide)
theorem Cx6:SlT TP 74 161 3 24:=.of _ Tryz.underlying74 AZ3 Cs4 Ce9 rfl (by decide)
theorem Cx7:SlT TP 81 123 36 64:=.of _ Tryz.underlying81 Br0 Cr7 BW9 rfl (by decide)
theorem Ct8:SlT TP 203 205 1 8:=.of _ Tryz.underlying203 BX4 Ct3 Ct4 rfl (by decide)
theorem ok:kP TP HH=true:=by kernel_rfl
theorem progOk:fK TP HH:=Bo1 ok sw (fun g v h=>AI3 h) (fun _ h=>by first | (simp at h;done) |cases h |exact h.elim)
end Go.Sv.Tryz
