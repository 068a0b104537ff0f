/- The abstract machine: values, memory, and a computable evaluator of the program's code, with no tape and no capacities. Definitions alone. -/
import GoSem.Step
import Derived.Deep.AppendSrc
import Derived.RangeFuncRecord
import Derived.Deep.Upon
import Derived.DeepKeys3
set_option linter.unnecessarySimpa false
set_option linter.unusedSimpArgs false
set_option linter.unusedVariables false
namespace Go.Sv
inductive V where
 | undef
 | bool (b:Bool)
 | int (k:IntKind) (n:Int)
 | str (s:List UInt8)
 | pnil
 | ptr (b o:Nat)
 | snil
 | sl (b o n sz:Nat)
 | mnil
 | map (r:Nat)
 | fnil
 | fn (f:FuncId) (first captured:List V)
 | yield (l:Nat)
 | iter (i:Nat)
 | agg (cs:List V)
 | tup (cs:List V)
 deriving Inhabited
def V.one:V->Bool
 | .undef | .agg _ | .tup _ | .iter _=>false
 | _=>true
def V.flat:V->Bool
 | .bool _ | .int _ _ | .str _=>true
 | _=>false
def V.ground:V->Bool
 | .bool _ | .int _ _ | .str _=>true
 | .agg cs=>cs.all V.flat
 | _=>false
def V.eqFlat:V->V->Bool
 | .bool a,.bool b=>a == b
 | .int j a,.int k b=>j == k && a == b
 | .str a,.str b=>a == b
 | _,_=>false
def eqFlats:List V->List V->Bool
 | [],[]=>true
 | a::as,b::bs=>V.eqFlat a b && eqFlats as bs
 | _,_=>false
def V.eqGround:V->V->Bool
 | .agg a,.agg b=>eqFlats a b
 | a,b=>V.eqFlat a b
mutual
def V.beq:V->V->Bool
 | .undef,.undef=>true
 | .bool a,.bool b=>a == b
 | .int j a,.int k b=>j == k && a == b
 | .str a,.str b=>a == b
 | .pnil,.pnil=>true
 | .ptr a b,.ptr c d=>a == c && b == d
 | .snil,.snil=>true
 | .sl a b c d,.sl e f g h=>a == e && b == f && c == g && d == h
 | .mnil,.mnil=>true
 | .map a,.map b=>a == b
 | .fnil,.fnil=>true
 | .fn f a b,.fn g c d=>f == g && beqs a c && beqs b d
 | .yield a,.yield b=>a == b
 | .iter a,.iter b=>a == b
 | .agg a,.agg b=>beqs a b
 | .tup a,.tup b=>beqs a b
 | _,_=>false
def beqs:List V->List V->Bool
 | [],[]=>true
 | a::as,b::bs=>V.beq a b && beqs as bs
 | _,_=>false
end
def V.cells:V->Option (List V)
 | .undef | .tup _ | .iter _=>none
 | .agg cs=>some cs
 | v=>some [v]
inductive BK where
 | var
 | ro
 | arr (fam base:Nat)
 deriving Inhabited,DecidableEq
structure Blk where
 cells:List V
 kind:BK
 deriving Inhabited
structure ME where
 key:V
 val:V
 born:Nat
 deriving Inhabited
structure MapO where
 es:List ME
 clock:Nat
 deriving Inhabited
structure ItO where
 map:Option Nat
 since:Nat
 seen:List Nat
 stepped:Nat
 deriving Inhabited
abbrev Env:=List (Nat×V)
def Env.get:Env->Nat->V
 | [],_=>.undef
 | (k,v)::r,t=>if k == t then v else Env.get r t
inductive Ex where
 | normal
 | exit (id:Nat)
 | ret
 deriving Inhabited,DecidableEq
structure LoopO where
 state:LoopState
 pending:Option Code
 fn:FuncId
 env:Env
 params:List Tmp
 assign:Code
 body:Code
 deriving Inhabited
structure AS where
 blk:List Blk
 maps:List MapO
 its:List ItO
 loops:List LoopO
 orc:Nat->Nat->Nat
 odr:Nat
 deriving Inhabited
def AS.cell (A:AS) (b o:Nat):Option V:=(A.blk[b]?).bind (·.cells[o]?)
def AS.range (A:AS) (b o n:Nat):Option (List V) :=
 match A.blk[b]? with
 | some k=>if o+n<=k.cells.length then some ((k.cells.drop o).take n) else none
 | none=>none
def putAt (cs:List V) (o:Nat) (vs:List V):List V:=cs.take o++vs++cs.drop (o+vs.length)
def poisonCells (cs:List V) (base lo hi:Nat):List V:=cs.mapIdx fun i v=>if lo<=base+i/\base+i < hi then .undef else v
def poisonBlk (fam lo hi:Nat) (k:Blk):Blk :=
 match k.kind with
 | .arr f base=>if f=fam then { k with cells:=poisonCells k.cells base lo hi } else k
 | _=>k
def AS.poison (A:AS) (fam lo hi:Nat) (but:Option Nat):AS :=
 { A with blk:=A.blk.mapIdx fun i k=>if some i=but then k else poisonBlk fam lo hi k }
def AS.setBlk (A:AS) (b:Nat) (cs:List V):AS:={ A with blk:=A.blk.modify b fun k=>{ k with cells:=cs } }
def AS.put (A:AS) (b o:Nat) (vs:List V):Option AS :=
 match A.blk[b]? with
 | none=>none
 | some k =>
  if o+vs.length<=k.cells.length/\vs.all V.one then
   match k.kind with
   | .ro=>none
   | .var=>some (A.setBlk b (putAt k.cells o vs))
   | .arr fam base=>some ((A.setBlk b (putAt k.cells o vs)).poison fam (base+o) (base+o+vs.length) (some b))
  else none
def AS.push (A:AS) (k:Blk):AS:={ A with blk:=A.blk++[k] }
def AS.pushMap (A:AS) (m:MapO):AS:={ A with maps:=A.maps++[m] }
def AS.setMap (A:AS) (r:Nat) (m:MapO):AS:={ A with maps:=A.maps.set r m }
def AS.pushIt (A:AS) (m:ItO):AS:={ A with its:=A.its++[m] }
def AS.setIt (A:AS) (r:Nat) (m:ItO):AS:={ A with its:=A.its.set r m }
def AS.pushLoop (A:AS) (m:LoopO):AS:={ A with loops:=A.loops++[m] }
def AS.setLoop (A:AS) (r:Nat) (m:LoopO):AS:={ A with loops:=A.loops.set r m }
def szT (P:Program) (t:TypeId):Option Nat:=(P.info? t).map (·.size)
def bytesT (P:Program) (t:TypeId):Option Nat:=(P.info? t).map (·.bytes)
def aggT (P:Program) (t:TypeId):Option Bool :=
 match P.underlying t with
 | some (.struct _) | some (.array _ _)=>some true
 | some _=>some false
 | none=>none
def ofCell:Value->Option V
 | .bool b=>some (.bool b)
 | .int k n=>some (.int k n)
 | .string s=>some (.str s.data.toList)
 | .pointer none=>some .pnil
 | .slice none 0 0=>some .snil
 | .map none=>some .mnil
 | .nilFunc=>some .fnil
 | _=>none
def ofCells:List Value->Option (List V)
 | []=>some []
 | v::vs=>match ofCell v,ofCells vs with | some x,some xs=>some (x::xs) | _,_=>none
def ofVal:Value->Option V
 | .agg cs=>(ofCells cs.toList).map .agg
 | .tuple cs=>match cs.toList with | []=>some (.tup []) | _=>none
 | v=>ofCell v
def zeroT (P:Program) (t:TypeId):Option V:=((P.info? t).bind (·.zero)).bind ofVal
def fieldsT (P:Program) (t:TypeId):Option (Array Field) :=
 match P.underlying t with
 | some (.struct fs)=>some fs
 | _=>none
inductive CK where
 | bool
 | int (k:IntKind)
 | str
 deriving DecidableEq,Inhabited
def CK.fits:CK->V->Bool
 | .bool,.bool _=>true
 | .int k,.int j _=>k == j
 | .str,.str _=>true
 | _,_=>false
def fitsAll:List CK->List V->Bool
 | [],[]=>true
 | c::cs,v::vs=>c.fits v && fitsAll cs vs
 | _,_=>false
def shapeFieldsW (P:Program) (rec:TypeId->Option (List CK)):Nat->List Field->Option (List CK)
 | _,[]=>some []
 | at_,f::fs =>
  if f.name = "_" ∨ f.offset ≠ at_ then none else
  match rec f.type,szT P f.type with
  | some l,some s=>if s=l.length/\0 < s then match shapeFieldsW P rec (at_+l.length) fs with
   | none=>none
   | some r=>some (l++r)
   else none
  | _,_=>none
def shapeT (P:Program):(depth:Nat)->TypeId->Option (List CK)
 | 0,_=>none
 | d+1,t =>
  match P.underlying t with
  | some .bool=>some [.bool]
  | some (.int k)=>some [.int k]
  | some .string=>some [.str]
  | some (.array n e) =>
   match shapeT P d e,szT P e with
   | some l,some s=>if s=l.length then some (List.replicate n l).flatten else none
   | _,_=>none
  | some (.struct fs)=>if P.stoodInHeld t then none else shapeFieldsW P (shapeT P d) 0 fs.toList
  | _=>none
def evShift (op:BinOp) (k:IntKind) (x y:Int):Option V :=
 if y < 0 then none
 else
  let n:=min y.toNat k.bits
  match op with
  | .shl=>some (.int k (k.wrap (x * 2 ^ n)))
  | .shr=>some (.int k (x.fdiv (2 ^ n)))
  | _=>none
def evBits (op:BinOp) (k:IntKind) (x y:Int):Option V :=
 let a:=BitVec.ofInt k.bits x
 let b:=BitVec.ofInt k.bits y
 match op with
 | .and=>some (.int k (k.wrap (a &&& b).toNat))
 | .or=>some (.int k (k.wrap (a ||| b).toNat))
 | .xor=>some (.int k (k.wrap (a ^^^ b).toNat))
 | .andNot=>some (.int k (k.wrap (a &&& ~~~b).toNat))
 | _=>none
def evInt (op:BinOp) (k:IntKind) (x y:Int):Option V :=
 match op with
 | .add=>some (.int k (k.wrap (x+y)))
 | .sub=>some (.int k (k.wrap (x - y)))
 | .mul=>some (.int k (k.wrap (x * y)))
 | .quo=>if y=0 then none else some (.int k (k.wrap (x.tdiv y)))
 | .rem=>if y=0 then none else some (.int k (x.tmod y))
 | .and | .or | .xor | .andNot=>evBits op k x y
 | .eql=>some (.bool (x == y))
 | .neq=>some (.bool (x != y))
 | .lss=>some (.bool (decide (x < y)))
 | .leq=>some (.bool (decide (x<=y)))
 | .gtr=>some (.bool (decide (x > y)))
 | .geq=>some (.bool (decide (x >= y)))
 | _=>none
def evStr (op:BinOp) (x y:List UInt8):Option V :=
 match op with
 | .add=>if x.length+y.length<=9223372036854775807 then some (.str (x++y)) else none
 | .eql=>some (.bool (x == y))
 | .neq=>some (.bool (!(x == y)))
 | _=>none
def evEq (P:Program) (t:TypeId):V->V->Option Bool
 | .bool a,.bool b=>match P.underlying t with | some .bool=>some (a == b) | _=>none
 | .pnil,.pnil=>match P.underlying t with | some (.pointer _)=>some true | _=>none
 | .pnil,.ptr _ _=>match P.underlying t with | some (.pointer _)=>some false | _=>none
 | .ptr _ _,.pnil=>match P.underlying t with | some (.pointer _)=>some false | _=>none
 | .snil,.snil=>match P.underlying t with | some (.slice _)=>some true | _=>none
 | .snil,.sl ..=>match P.underlying t with | some (.slice _)=>some false | _=>none
 | .sl ..,.snil=>match P.underlying t with | some (.slice _)=>some false | _=>none
 | .agg xs,.agg ys =>
  match shapeT P 50 t,aggT P t with
  | some sh,some true=>if fitsAll sh xs && fitsAll sh ys && !P.eqGuardType P.depth t then some (eqFlats xs ys) else none
  | _,_=>none
 | _,_=>none
def evBin (P:Program) (op:BinOp) (t:TypeId) (x y:V):Option V :=
 match op,x,y with
 | .shl,.int k a,.int _ b=>evShift .shl k a b
 | .shr,.int k a,.int _ b=>evShift .shr k a b
 | op,.int k a,.int k' b=>if k=k' then evInt op k a b else none
 | op,.str a,.str b=>evStr op a b
 | .eql,x,y=>(evEq P t x y).map .bool
 | .neq,x,y=>(evEq P t x y).map fun b=>.bool (!b)
 | _,_,_=>none
def evUn (op:UnOp):V->Option V
 | .int k n =>
  match op with
  | .neg=>some (.int k (k.wrap (0 - n)))
  | .xor=>evBits .xor k (if k.signed then -1 else k.max) n
  | _=>none
 | .bool b=>match op with | .not=>some (.bool (!b)) | _=>none
 | _=>none
def fillV (place:Nat->Option (Nat×Nat)) (cells:List V):List (Nat×V)->Option (List V)
 | []=>some cells
 | (i,v)::rest =>
  match place i,v.cells with
  | some (off,size),some cs=>if cs.length=size/\off+size<=cells.length then fillV place (putAt cells off cs) rest else none
  | _,_=>none
def placesT (P:Program) (fs:Array Field) (i:Nat):Option (Nat×Nat) :=
 match fs[i]? with
 | some f=>(szT P f.type).map fun s=>(f.offset,s)
 | none=>none
def evBuild (P:Program) (t:TypeId) (parts:List (Nat×V)):Option V :=
 match zeroT P t with
 | some (.agg zero) =>
  match P.underlying t with
  | some (.struct fs)=>if fs.all (fun f=>(szT P f.type).isSome) then (fillV (placesT P fs) zero parts).map .agg else none
  | some (.array _ e) =>
   match szT P e with
   | some s=>(fillV (fun i=>some (i * s,s)) zero parts).map .agg
   | none=>none
  | _=>none
 | _=>none
def zeros (z:List V):Nat->List V
 | 0=>[]
 | n+1=>z++zeros z n
def partV (P:Program) (t:TypeId) (cs:List V) (off:Nat):Option V :=
 match aggT P t,szT P t with
 | some true,some n=>if off+n<=cs.length then some (.agg ((cs.drop off).take n)) else none
 | some false,_=>cs[off]?
 | _,_=>none
def evField (P:Program) (t:TypeId) (x:V) (i:Nat):Option V :=
 match x,fieldsT P t with
 | .agg cs,some fs=>match fs[i]? with | some f=>partV P f.type cs f.offset | none=>none
 | _,_=>none
def evIndex (P:Program) (t:TypeId) (x i:V):Option V :=
 match x,i with
 | .agg cs,.int _ n =>
  match P.underlying t with
  | some (.array len e)=>match szT P e with
   | some s=>if 0<=n/\n < len then partV P e cs (n.toNat * s) else none
   | none=>none
  | _=>none
 | .str s,.int _ n =>
  match P.underlying t with
  | some .string=>if 0<=n then (s[n.toNat]?).map fun b=>.int .u8 b.toNat else none
  | _=>none
 | _,_=>none
def evFieldAddr (P:Program) (t:TypeId) (x:V) (i:Nat):Option V :=
 match x,fieldsT P t with
 | .ptr b o,some fs =>
  match fs[i]? with
  | some f=>match szT P f.type with
   | some (_+1)=>some (.ptr b (o+f.offset))
   | _=>none
  | none=>none
 | _,_=>none
def evIndexAddr (P:Program) (t:TypeId) (x i:V):Option V :=
 match P.underlying t,x,i with
 | some (.array len e),.ptr b o,.int _ n =>
  match szT P e with
  | some s=>if 0<=n/\n < len then some (.ptr b (o+n.toNat * s)) else none
  | none=>none
 | some (.slice e),.sl b o len sz,.int _ n =>
  match szT P e with
  | some s=>if s=sz/\0<=n/\n < len then some (.ptr b (o+n.toNat * s)) else none
  | none=>none
 | _,_,_=>none
def boundV (d:Nat) (top:Nat):Option V->Option Nat
 | none=>some d
 | some (.int _ n)=>if 0<=n/\n<=top then some n.toNat else none
 | some _=>none
def evSlice (P:Program) (t:TypeId) (x:V) (lo hi mx:Option V) (A:AS):Option V :=
 match P.underlying t,x with
 | some .string,.str s =>
  match mx,boundV s.length s.length hi with
  | none,some h=>match boundV 0 h lo with
   | some l=>some (.str ((s.take h).drop l))
   | none=>none
  | _,_=>none
 | some (.slice e),.sl b o n sz =>
  match szT P e,boundV n n mx with
  | some s,some m=>if s≠sz∨(mx.isSome/\hi.isNone) then none else
   match boundV n (if mx.isSome then m else n) hi with
   | some h=>match boundV 0 h lo with
    | some l=>some (.sl b (o+l * sz) (h - l) sz)
    | none=>none
   | none=>none
  | _,_=>none
 | some (.slice e),.snil =>
  match szT P e,boundV 0 0 mx with
  | some _,some m=>if mx.isSome/\hi.isNone then none else
   match boundV 0 (if mx.isSome then m else 0) hi with
   | some h=>match boundV 0 h lo with
    | some _=>some .snil
    | none=>none
   | none=>none
  | _,_=>none
 | some (.array n e),.ptr b o =>
  match szT P e,mx,boundV n n hi with
  | some (s+1),none,some h=>match boundV 0 h lo,A.range b o (n * (s+1)) with
   | some l,some _=>some (.sl b (o+l * (s+1)) (h - l) (s+1))
   | _,_=>none
  | _,_,_=>none
 | _,_=>none
def evS2ap (P:Program) (t:TypeId) (x:V):Option V :=
 match P.underlying t,x with
 | some (.array n _),.sl b o (len+1) _=>if n<=len+1 then some (.ptr b o) else none
 | _,_=>none
def evNilCheck:V->Option V
 | .ptr b o=>some (.ptr b o)
 | .fn f a c=>some (.fn f a c)
 | .yield l=>some (.yield l)
 | _=>none
def evLoad (P:Program) (t:TypeId) (x:V) (A:AS):Option V :=
 match x,aggT P t,szT P t with
 | .ptr b o,some true,some n=>(A.range b o n).map .agg
 | .ptr b o,some false,_=>A.cell b o
 | _,_,_=>none
def bytesOf:List V->Option (List UInt8)
 | []=>some []
 | .int .u8 n::r=>(bytesOf r).map ((UInt8.ofNat n.toNat)::·)
 | _=>none
def evConvert (P:Program) (s d:TypeId) (x:V) (A:AS):Option V :=
 match x with
 | .int _ n=>match P.underlying s,P.underlying d with
  | some _,some (.int k)=>some (.int k (k.wrap n))
  | _,_=>none
 | .str b=>match P.underlying s,P.underlying d with
  | some .string,some .string=>some (.str b)
  | _,_=>none
 | .snil=>match P.underlying s,P.underlying d with
  | some (.slice e),some .string=>match P.underlying e with
   | some (.int .u8)=>some (.str [])
   | _=>none
  | _,_=>none
 | .sl b o n sz=>match P.underlying s,P.underlying d with
  | some (.slice e),some .string=>match P.underlying e with
   | some (.int .u8)=>if sz=1 then match A.range b o n with
    | some cs=>(bytesOf cs).map .str
    | none=>none
    else none
   | _=>none
  | _,_=>none
 | _=>none
def evSame (P:Program) (s d:TypeId) (x:V) (A:AS):Option V :=
 match x with
 | .sl b o (n+1) 1=>if s=d then match P.underlying s with
  | some (.slice e)=>match P.underlying e,A.blk[b]? with
   | some (.int .u8),some ⟨_,.arr _ _⟩=>some (.sl b o (n+1) 1)
   | _,_=>none
  | _=>none
  else none
 | _=>none
def findME (k:V):List ME->Option ME
 | []=>none
 | e::es=>if V.eqGround k e.key then some e else findME k es
def keysFit (sh:List CK):List ME->Bool
 | []=>true
 | e::es=>(match e.key with | .agg cs=>fitsAll sh cs | v=>fitsAll sh [v]) && keysFit sh es
def mapT (P:Program) (t:TypeId):Option (TypeId×TypeId) :=
 match P.underlying t with
 | some (.map k e)=>some (k,e)
 | _=>none
def keyOk (P:Program) (t:TypeId) (k:V) (es:List ME):Bool :=
 match shapeT P 50 t,aggT P t,k with
 | some sh,some true,.agg cs=>fitsAll sh cs && keysFit sh es && es.all (fun e=>match e.key with | .agg _=>true | _=>false)
 | some sh,some false,.agg _=>false && sh.isEmpty
 | some sh,some false,v=>fitsAll sh [v] && keysFit sh es && es.all (fun e=>match e.key with | .agg _=>false | _=>true)
 | _,_,_=>false
def evLookup (P:Program) (t:TypeId) (x k:V) (ok:Bool) (A:AS):Option V :=
 match mapT P t with
 | none=>none
 | some (kt,et) =>
  let es:Option (List ME):=match x with
   | .mnil=>some []
   | .map r=>(A.maps[r]?).map (·.es)
   | _=>none
  match es,zeroT P et with
  | some es,some z =>
   if keyOk P kt k es then
    match findME k es with
    | some e=>some (if ok then .tup [e.val,.bool true] else e.val)
    | none=>some (if ok then .tup [z,.bool false] else z)
   else none
  | _,_=>none
def evLen (P:Program) (t:TypeId) (x:V) (A:AS):Option V :=
 match P.underlying t,x with
 | some .string,.str s=>some (.int .i64 s.length)
 | some (.array n _),_=>some (.int .i64 n)
 | some (.slice _),.sl _ _ n _=>some (.int .i64 n)
 | some (.slice _),.snil=>some (.int .i64 0)
 | some (.map _ _),.mnil=>some (.int .i64 0)
 | some (.map _ _),.map r=>(A.maps[r]?).map fun m=>.int .i64 m.es.length
 | _,_=>none
def foldMM (f:Int->Int->Int) (k:IntKind):Int->List V->Option V
 | x,[]=>some (.int k x)
 | x,.int j y::r=>if j=k then foldMM f k (f x y) r else none
 | _,_=>none
def evMM (f:Int->Int->Int):List V->Option V
 | .int k x::r=>foldMM f k x r
 | _=>none
inductive QR where
 | val (v:V)
 | newPtr (cells:List V)
 | newSl (cells:List V) (n sz:Nat)
 | newMap
def QR.value (A:AS):QR->V
 | .val v=>v
 | .newPtr _=>.ptr A.blk.length 0
 | .newSl _ n sz=>.sl A.blk.length 0 n sz
 | .newMap=>.map A.maps.length
def QR.state (A:AS):QR->AS
 | .val _=>A
 | .newPtr cells=>A.push ⟨cells,.var⟩
 | .newSl cells _ _=>A.push ⟨cells,.arr A.blk.length 0⟩
 | .newMap=>A.pushMap ⟨[],0⟩
def Env.eval (e:Env):Operand->Option V
 | .tmp t=>some (e.get t)
 | .const v=>ofVal v
 | .global _=>none
 | .func f=>some (.fn f [] [])
def evalAll (e:Env):List Operand->Option (List V)
 | []=>some []
 | x::xs=>match e.eval x,evalAll e xs with | some v,some vs=>some (v::vs) | _,_=>none
def evalParts (e:Env):List (Nat×Operand)->Option (List (Nat×V))
 | []=>some []
 | (i,x)::xs=>match e.eval x,evalParts e xs with | some v,some vs=>some ((i,v)::vs) | _,_=>none
def evalOpt (e:Env):Option Operand->Option (Option V)
 | none=>some none
 | some x=>match e.eval x with | some v=>some (some v) | none=>none
def evQ (P:Program) (o:Oper) (e:Env) (A:AS):Option QR :=
 let v (x:Option V):Option QR:=x.map .val
 let on1 (x:Operand) (f:V->Option V):Option QR:=v ((e.eval x).bind f)
 let on2 (x y:Operand) (f:V->V->Option V):Option QR:=v ((e.eval x).bind fun a=>(e.eval y).bind fun b=>f a b)
 match o.op with
 | .move x | .assign x=>on1 x some
 | .pick c a b=>match e.eval c with
  | some (.bool true)=>on1 a some
  | some (.bool false)=>on1 b some
  | _=>none
 | .alloc t=>match (zeroT P t).bind V.cells with
  | some cs=>some (.newPtr cs)
  | none=>none
 | .box _ x=>match (e.eval x).bind V.cells with
  | some cs=>some (.newPtr cs)
  | none=>none
 | .build t ps=>v ((evalParts e ps.toList).bind fun l=>evBuild P t l)
 | .buildSlice t n ps =>
  match P.underlying t with
  | some (.slice et)=>match szT P et,(zeroT P et).bind V.cells,evalParts e ps.toList with
   | some (s+1),some z,some l=>if z.length=s+1/\n * (s+1)<=16777216 then
    (fillV (fun i=>some (i * (s+1),s+1)) (zeros z n) l).map fun cs=>.newSl cs n (s+1)
    else none
   | _,_,_=>none
  | _=>none
 | .load t a=>on1 a fun x=>evLoad P t x A
 | .nilCheck x=>on1 x evNilCheck
 | .binOp op t x y _=>on2 x y fun a b=>evBin P op t a b
 | .unOp op _ x=>on1 x fun a=>evUn op a
 | .convert s d x =>
  if s=d then on1 x fun a=>evSame P s d a A else
  match e.eval x with
  | some (.str b)=>match P.underlying s,P.underlying d with
   | some .string,some (.slice et)=>match P.underlying et with
    | some (.int .u8)=>some (.newSl (b.map fun u=>.int .u8 u.toNat) b.length 1)
    | _=>none
   | _,_=>v (evConvert P s d (.str b) A)
  | some a=>v (evConvert P s d a A)
  | none=>none
 | .sliceToArrayPointer t x=>on1 x fun a=>evS2ap P t a
 | .makeFunc (.func f) first cap=>match evalAll e first.toList,evalAll e cap.toList with
  | some a,some c=>some (.val (.fn f a c))
  | _,_=>none
 | .makeMap t r=>match mapT P t,evalOpt e r with
  | some _,some none=>some .newMap
  | some _,some (some (.int _ _))=>some .newMap
  | _,_=>none
 | .makeSlice t l c =>
  match P.underlying t,e.eval l,e.eval c with
  | some (.slice et),some (.int _ n),some (.int _ m) =>
   match szT P et,bytesT P et,(zeroT P et).bind V.cells with
   | some (s+1),some by_,some z =>
    if z.length=s+1/\0<=n/\n=m/\n<=9223372036854775807/\by_ * n<=281474976710656 then some (.newSl (zeros z n.toNat) n.toNat (s+1)) else none
   | _,_,_=>none
  | _,_,_=>none
 | .slice t x lo hi mx=>match e.eval x,evalOpt e lo,evalOpt e hi,evalOpt e mx with
  | some a,some l,some h,some m=>v (evSlice P t a l h m A)
  | _,_,_,_=>none
 | .fieldAddr t x i=>on1 x fun a=>evFieldAddr P t a i
 | .field t x i=>on1 x fun a=>evField P t a i
 | .indexAddr t x i=>on2 x i fun a b=>evIndexAddr P t a b
 | .index t x i=>on2 x i fun a b=>evIndex P t a b
 | .lookup t x k ok=>on2 x k fun a b=>evLookup P t a b ok A
 | .extract t i=>on1 t fun a=>match a with | .tup vs=>vs[i]? | _=>none
 | .call { callee:=.builtin .len,args,argTypes } =>
  match args.toList,argTypes.toList with
  | [x],[t]=>on1 x fun a=>evLen P t a A
  | _,_=>none
 | .call { callee:=.builtin .max,args,argTypes:=_ }=>v ((evalAll e args.toList).bind (evMM fun x y=>if y > x then y else x))
 | .call { callee:=.builtin .min,args,argTypes:=_ }=>v ((evalAll e args.toList).bind (evMM fun x y=>if y < x then y else x))
 | _=>none
def evAppend (P:Program) (t tx:TypeId) (s x:V) (A:AS):Option (V×AS) :=
 match P.underlying t with
 | some (.slice e) =>
  match szT P e,bytesT P e,(zeroT P e).bind V.cells with
  | some (z+1),some by_,some zc =>
   if zc.length≠z+1 then none else
   let sz:=z+1
   let src:Option (Nat×List V):=match x with
    | .snil=>match P.underlying tx with
     | some (.slice _)=>some (0,[])
     | _=>none
    | .sl b o n sz'=>match P.underlying tx with
     | some (.slice _)=>if sz'=sz then (A.range b o (n * sz)).map fun cs=>(n,cs) else none
     | _=>none
    | .str b=>match P.underlying tx with
     | some .string=>if sz=1 then some (b.length,b.map fun u=>.int .u8 u.toNat) else none
     | _=>none
    | _=>none
   match src with
   | none=>none
   | some (n,new) =>
    if new.all V.one then
     match s with
     | .snil=>if n=0 then some (.snil,A) else if n * by_<=140737488355328/\n<=4611686018427387903 then
      some (.sl A.blk.length 0 n sz,A.push ⟨new,.arr A.blk.length 0⟩) else none
     | .sl b o len sz' =>
      if sz'≠sz then none else if n=0 then some (.sl b o len sz,A) else
      match A.blk[b]?,A.range b o (len * sz) with
      | some k,some old =>
       match k.kind with
       | .arr fam base =>
        if old.all V.one/\(len+n) * by_<=140737488355328/\len+n<=4611686018427387903 then
         some (.sl A.blk.length 0 (len+n) sz,
          (A.poison fam (base+o+len * sz) (base+o+(len+n) * sz) none).push ⟨old++new,.arr fam (base+o)⟩)
        else none
       | _=>none
      | _,_=>none
     | _=>none
    else none
  | _,_,_=>none
 | _=>none
def evCopy (P:Program) (t:TypeId) (d x:V) (A:AS):Option (V×AS) :=
 match P.underlying t,d,x with
 | some (.slice e),.sl b o n sz,.sl b' o' n' sz' =>
  match szT P e with
  | some s=>if s=sz/\s=sz' then
   match A.range b' o' (min n' n * sz) with
   | some cs=>(A.put b o cs).map fun A'=>(.int .i64 (min n' n:Nat),A')
   | none=>none
   else none
  | none=>none
 | _,_,_=>none
def evStore (P:Program) (t:TypeId) (a x:V) (A:AS):Option AS :=
 match a,szT P t,x.cells with
 | .ptr b o,some n,some cs=>if cs.length=n then A.put b o cs else none
 | _,_,_=>none
def setME (k v:V):List ME->List ME
 | []=>[]
 | e::es=>if V.eqGround k e.key then { e with key:=k,val:=v }::es else e::setME k v es
def eraseME (k:V):List ME->List ME
 | []=>[]
 | e::es=>if V.eqGround k e.key then es else e::eraseME k es
def evMapUpdate (P:Program) (t:TypeId) (m k x:V) (A:AS):Option AS :=
 match mapT P t,m with
 | some (kt,_),.map r =>
  match A.maps[r]? with
  | some mo =>
   if keyOk P kt k mo.es then
    some (A.setMap r (match findME k mo.es with
     | some _=>⟨setME k x mo.es,mo.clock⟩
     | none=>⟨mo.es++[⟨k,x,mo.clock⟩],mo.clock+1⟩))
   else none
  | none=>none
 | _,_=>none
def evMapEntry (P:Program) (t:TypeId) (m k:V) (A:AS):Option (V×AS) :=
 match mapT P t,m with
 | some (kt,et),.map r =>
  match A.maps[r]?,zeroT P et with
  | some mo,some z =>
   if keyOk P kt k mo.es then
    match findME k mo.es with
    | some e=>some (.tup [e.val,.int .i64 e.born],A.setMap r ⟨setME k e.val mo.es,mo.clock⟩)
    | none=>some (.tup [z,.int .i64 mo.clock],A.setMap r ⟨mo.es++[⟨k,z,mo.clock⟩],mo.clock+1⟩)
   else none
  | _,_=>none
 | _,_=>none
def setBorn (n:Int) (v:V):List ME->Option (List ME)
 | []=>none
 | e::es=>if (e.born:Int)=n then some ({ e with val:=v }::es) else (setBorn n v es).map (e::·)
def evEntryStore (m s x:V) (A:AS):Option AS :=
 match m,s with
 | .map r,.int _ n =>
  match A.maps[r]? with
  | some mo=>(setBorn n x mo.es).map fun es=>A.setMap r ⟨es,mo.clock⟩
  | none=>none
 | _,_=>none
def evDelete (P:Program) (t:TypeId) (m k:V) (A:AS):Option AS :=
 match mapT P t,m with
 | some (kt,_),.mnil=>if keyOk P kt k [] then some A else none
 | some (kt,_),.map r =>
  match A.maps[r]? with
  | some mo=>if keyOk P kt k mo.es then some (A.setMap r ⟨eraseME k mo.es,mo.clock⟩) else none
  | none=>none
 | _,_=>none
def evClear (P:Program) (t:TypeId) (m:V) (A:AS):Option AS :=
 match mapT P t,m with
 | some _,.mnil=>some A
 | some _,.map r =>
  match A.maps[r]? with
  | some mo=>some (A.setMap r ⟨[],mo.clock⟩)
  | none=>none
 | _,_=>none
def evClearS (P:Program) (t:TypeId) (m:V) (A:AS):Option AS :=
 match P.underlying t,m with
 | some (.slice _),.snil=>some A
 | some (.slice e),.sl b o n sz =>
  match szT P e,(zeroT P e).bind V.cells with
  | some s,some z=>if n=0 then some A else if s=sz/\z.length=s/\0 < s then A.put b o (zeros z n) else none
  | _,_=>none
 | _,_=>none
def evRange (P:Program) (t:TypeId) (m:V) (A:AS):Option (V×AS) :=
 match mapT P t,m with
 | some _,.mnil=>some (.iter A.its.length,A.pushIt ⟨none,0,[],0⟩)
 | some _,.map r =>
  match A.maps[r]? with
  | some mo=>some (.iter A.its.length,A.pushIt ⟨some r,mo.clock,[],mo.clock⟩)
  | none=>none
 | _,_=>none
def candidates (es:List ME) (it:ItO):List (Option ME) :=
 let left:=es.filter fun e=>!it.seen.contains e.born
 let old:=left.filter (·.born < it.since)
 let new:=left.filter (·.born >= it.since)
 (if old.isEmpty then [none] else [])++(old++new).map some
def evNext (x:V) (A:AS):Option (V×AS) :=
 match x with
 | .iter i =>
  match A.its[i]? with
  | some it =>
   match it.map with
   | none=>some (.tup [.bool false],{ A with odr:=A.odr+1 })
   | some r =>
    match A.maps[r]? with
    | some mo =>
     if !it.seen.isEmpty && !mo.es.isEmpty && mo.es.all (fun e=>decide (e.born >= it.stepped)) then none else
     let c:=candidates mo.es it
     match c[if c.length<=1 then 0 else A.orc A.odr c.length % c.length]? with
     | some (some e)=>some (.tup [.bool true,e.key,e.val],{ A with odr:=A.odr+1 }.setIt i { it with seen:=it.seen++[e.born],stepped:=mo.clock })
     | some none=>some (.tup [.bool false],{ A with odr:=A.odr+1 })
     | none=>none
    | none=>none
  | none=>none
 | _=>none
def evEntry (x:V) (A:AS):Option V :=
 match x with
 | .iter i =>
  match A.its[i]? with
  | some ⟨some r,_,seen,stepped⟩ =>
   match A.maps[r]?,seen.getLast? with
   | some mo,some stamp=>if mo.clock≠stepped then none else
    match mo.es.find? (fun e=>e.born == stamp) with
    | some e=>some (.tup [e.key,e.val])
    | none=>none
   | _,_=>none
  | _=>none
 | _=>none
abbrev Plan:=List (Nat×List Nat)
structure Hints where
 plan:FuncId->Nat->Plan
 ground:FuncId->Option V:=fun _=>none
structure Calls where
 call:FuncId->List V->AS->Option (V×AS)
 yield:Nat->List V->AS->Option (V×AS)
def evCallee (C:Calls) (e:Env) (f:Operand) (args:List V) (A:AS):Option (V×AS) :=
 match e.eval f with
 | some (.fn g first cap)=>C.call g (first++args++cap) A
 | some (.yield l)=>C.yield l args A
 | _=>none
def evE (P:Program) (C:Calls) (o:Oper) (e:Env) (A:AS):Option (V×AS) :=
 let u (x:Option AS):Option (V×AS):=x.map fun A'=>(.tup [],A')
 match o.op with
 | .store t a x=>match e.eval a,e.eval x with
  | some p,some v=>u (evStore P t p v A)
  | _,_=>none
 | .mapUpdate t m k x | .insert t m k x=>match e.eval m,e.eval k,e.eval x with
  | some m,some k,some x=>u (evMapUpdate P t m k x A)
  | _,_,_=>none
 | .mapEntry t m k=>match e.eval m,e.eval k with
  | some m,some k=>evMapEntry P t m k A
  | _,_=>none
 | .entryStore _ m s x=>match e.eval m,e.eval s,e.eval x with
  | some m,some s,some x=>u (evEntryStore m s x A)
  | _,_,_=>none
 | .range t x=>match e.eval x with
  | some x=>evRange P t x A
  | none=>none
 | .next x false=>match e.eval x with
  | some x=>evNext x A
  | none=>none
 | .entry x=>match e.eval x with
  | some x=>(evEntry x A).map fun v=>(v,A)
  | none=>none
 | .call c =>
  match evalAll e c.args.toList with
  | none=>none
  | some args =>
   match c.callee with
   | .value f=>evCallee C e f args A
   | .builtin .append=>match args,c.argTypes.toList with
    | [s,x],[t,tx]=>evAppend P t tx s x A
    | _,_=>none
   | .builtin .copy=>match args,c.argTypes.toList with
    | [d,x],[t,_]=>evCopy P t d x A
    | _,_=>none
   | .builtin .delete=>match args,c.argTypes.toList with
    | [m,k],[t,_]=>u (evDelete P t m k A)
    | _,_=>none
   | .builtin .clear=>match args,c.argTypes.toList with
    | [m],[t]=>u ((evClear P t m A).or (evClearS P t m A))
    | _,_=>none
   | _=>none
 | _=>none
def quiet (o:Oper):Bool :=
 match o.op with
 | .store .. | .mapUpdate .. | .insert .. | .mapEntry .. | .entryStore .. | .range .. | .next .. | .entry ..=>false
 | .call { callee:=.builtin .len,.. } | .call { callee:=.builtin .max,.. } | .call { callee:=.builtin .min,.. }=>true
 | .call _=>false
 | _=>true
def setDst (e:Env) (o:Oper) (v:V):Env :=
 match o.dst with
 | some d=>(d,v)::e
 | none=>e
def wantedV (ops:Array Oper) (e:Env) (o:Oper):Option Bool :=
 match o.guard with
 | none=>some true
 | some (j,want) =>
  match (ops[j]?).bind (·.dst) with
  | none=>none
  | some d=>match e.get d with
   | .bool b=>some (b == want)
   | .tup []=>some false
   | _=>none
def dstOk (nt:Nat) (o:Oper):Bool:=match o.dst with | some d=>decide (d < nt) | none=>true
def evOper (P:Program) (C:Calls) (nt:Nat) (ops:Array Oper) (o:Oper) (e:Env) (A:AS):Option (Env×AS) :=
 if dstOk nt o then
  match wantedV ops e o with
  | some true =>
   if quiet o then
    match evQ P o e A with
    | some q=>some (setDst e o (q.value A),q.state A)
    | none=>none
   else
    match evE P C o e A with
    | some (v,A')=>some (setDst e o v,A')
    | none=>none
  | some false=>some (setDst e o (.tup []),A)
  | none=>none
 else none
def evSeq (P:Program) (C:Calls) (nt:Nat) (ops:Array Oper):List Oper->Env->AS->Option (Env×AS)
 | [],e,A=>some (e,A)
 | o::r,e,A =>
  match evOper P C nt ops o e A with
  | some (e',A')=>evSeq P C nt ops r e' A'
  | none=>none
def recheck (P:Program) (ops:Array Oper) (e:Env) (A:AS):List Nat->Bool
 | []=>true
 | q::r =>
  (match ops[q]? with
  | some o =>
   match wantedV ops e o with
   | some true=>match evQ P o e A,o.dst with
    | some (.val v),some d=>V.beq v (e.get d)
    | _,_=>false
   | some false=>true
   | none=>false
  | none=>false) && recheck P ops e A r
def evPlan (P:Program) (C:Calls) (nt:Nat) (ops:Array Oper):Plan->Env->AS->Option (Env×AS)
 | [],e,A=>some (e,A)
 | (i,rc)::r,e,A =>
  match ops[i]? with
  | none=>none
  | some o =>
   match evOper P C nt ops o e A with
   | some (e',A')=>if recheck P ops e' A' rc then evPlan P C nt ops r e' A' else none
   | none=>none
def bindParams (e:Env):List Tmp->List V->Option Env
 | [],[]=>some e
 | p::ps,v::vs=>bindParams ((p,v)::e) ps vs
 | _,_=>none
def evLoop (body:Env->AS->Option (Ex×Env×AS)):Nat->Env->AS->Option (Ex×Env×AS)
 | 0,_,_=>none
 | n+1,e,A =>
  match body e A with
  | some (.normal,e',A')=>evLoop body n e' A'
  | r=>r
def evRange1 (C:Calls) (e:Env) (g:Operand) (l:Nat) (A:AS):Option (V×AS) :=
 match e.eval g with
 | some (.fn h first cap)=>C.call h (first++[.yield l]++cap) A
 | _=>none
def evCode (P:Program) (H:Hints) (C:Calls) (k:Nat) (f:FuncId) (nt:Nat):Code->Env->AS->Option (Ex×Env×AS)
 | .skip,e,A=>some (.normal,e,A)
 | .label _,e,A=>some (.normal,e,A)
 | .region id ops draw,e,A =>
  if draw then (evPlan P C nt ops (H.plan f id) e A).map fun r=>(.normal,r.1,r.2)
  else (evSeq P C nt ops ops.toList e A).map fun r=>(.normal,r.1,r.2)
 | .seq a b,e,A =>
  match evCode P H C k f nt a e A with
  | some (.normal,e',A')=>evCode P H C k f nt b e' A'
  | r=>r
 | .cond c a b,e,A =>
  match e.eval c with
  | some (.bool true)=>evCode P H C k f nt a e A
  | some (.bool false)=>evCode P H C k f nt b e A
  | _=>none
 | .block id a,e,A =>
  (evCode P H C k f nt a e A).map fun r=>(if r.1=.exit id then .normal else r.1,r.2.1,r.2.2)
 | .loop a,e,A=>evLoop (fun e A=>evCode P H C k f nt a e A) k e A
 | .scope a,e,A=>evCode P H C k f nt a e A
 | .exit id,e,A=>some (.exit id,e,A)
 | .ret,e,A=>some (.ret,e,A)
 | .rangeFunc g ps as b,e,A =>
  let l:=A.loops.length
  let A1:=A.pushLoop { state:=.ready,pending:=none,fn:=f,env:=e,params:=ps.toList,assign:=as,body:=b }
  match evRange1 C e g l A1 with
  | some (_,A2) =>
   match A2.loops[l]? with
   | some r =>
    if r.state=.busy then none else
    let A3:=A2.setLoop l { r with state:=.exhausted }
    match r.pending with
    | none=>some (.normal,e,A3)
    | some .ret=>some (.ret,e,A3)
    | some (.exit id)=>some (.exit id,e,A3)
    | some _=>none
   | none=>none
  | none=>none
 | .goto _,_,_=>none
 | .refuse _,_,_=>none
def evResults (P:Program) (e:Env) (A:AS):List ResultVar->Option (List V)
 | []=>some []
 | .tmp t::r=>(evResults P e A r).map (e.get t::·)
 | .cell a t::r=>match evLoad P t (e.get a) A,evResults P e A r with
  | some v,some vs=>some (v::vs)
  | _,_=>none
def single:List V->V
 | [v]=>v
 | vs=>.tup vs
def argEnv:Nat->List V->Env
 | _,[]=>[]
 | i,v::vs=>(i,v)::argEnv (i+1) vs
mutual
def evFn (P:Program) (H:Hints):Nat->FuncId->List V->AS->Option (V×AS)
 | 0,_,_,_=>none
 | k+1,f,args,A =>
  match (if args.isEmpty then H.ground f else none) with
  | some v=>some (v,A)
  | none =>
  match P.funcs[f]? with
  | none=>none
  | some fn =>
   match fn.body with
   | none=>none
   | some body =>
    if args.length<=fn.ntmps then
     match evCode P H ⟨evFn P H k,evYield P H k⟩ k f fn.ntmps body (argEnv 0 args) A with
     | some (.normal,e,A') | some (.ret,e,A')=>(evResults P e A' fn.results.toList).map fun vs=>(single vs,A')
     | _=>none
    else none
def evYield (P:Program) (H:Hints):Nat->Nat->List V->AS->Option (V×AS)
 | 0,_,_,_=>none
 | k+1,l,args,A =>
  match A.loops[l]? with
  | none=>none
  | some r =>
   match P.funcs[r.fn]?,bindParams r.env r.params args with
   | some fn,some e0 =>
    if r.params.all (fun p=>decide (p < fn.ntmps)) then
     match evCode P H ⟨evFn P H k,evYield P H k⟩ k r.fn fn.ntmps r.assign e0 A with
     | some (.normal,e1,A1) =>
      match A1.loops[l]? with
      | some r1 =>
       if r1.state=.ready then
        match evCode P H ⟨evFn P H k,evYield P H k⟩ k r.fn fn.ntmps r.body e1 (A1.setLoop l { r1 with state:=.busy }) with
        | some (x,_,A2) =>
         match A2.loops[l]? with
         | some r2 =>
          let jump:Option Code:=match x with
           | .normal=>none
           | .ret=>some .ret
           | .exit id=>some (.exit id)
          some (.bool jump.isNone,A2.setLoop l { r2 with state:=if jump.isNone then .ready else .done,pending:=jump })
         | none=>none
        | none=>none
       else none
      | none=>none
     | _=>none
    else none
   | _,_=>none
end
end Go.Sv
namespace Go.Sv
structure Rho where
 b:Nat->Option (Nat×Nat)
 sz:Nat->Nat
 m:Nat->Option Nat
 it:Nat->Option Nat
 lp:Nat->Option Nat
structure Rho.le (ρ ρ':Rho):Prop where
 b:∀ i x d,ρ.b i=some (x,d)->ρ'.b i=some (x,d)/\ρ'.sz x=ρ.sz x
 m:∀ i x,ρ.m i=some x->ρ'.m i=some x
 it:∀ i x,ρ.it i=some x->ρ'.it i=some x
 lp:∀ i x,ρ.lp i=some x->ρ'.lp i=some x
theorem Rho.le.refl (ρ:Rho):ρ.le ρ:=⟨fun _ _ _ h=>⟨h,rfl⟩,fun _ _ h=>h,fun _ _ h=>h,fun _ _ h=>h⟩
theorem Rho.le.trans {a b c:Rho} (h:a.le b) (k:b.le c):a.le c :=
 ⟨fun i x d q=>let ⟨q1,q2⟩:=h.b i x d q;let ⟨q3,q4⟩:=k.b i x d q1;⟨q3,q4.trans q2⟩,
  fun i x q=>k.m i x (h.m i x q),fun i x q=>k.it i x (h.it i x q),fun i x q=>k.lp i x (h.lp i x q)⟩
inductive VR (ρ:Rho):V->Value->Prop
 | undef (v:Value):VR ρ .undef v
 | bool (b:Bool):VR ρ (.bool b) (.bool b)
 | int (k:IntKind) (n:Int):VR ρ (.int k n) (.int k n)
 | str (s:ByteArray):VR ρ (.str s.data.toList) (.string s)
 | pnil:VR ρ .pnil (.pointer none)
 | ptr {b o x d:Nat} (h:ρ.b b=some (x,d)):VR ρ (.ptr b o) (.pointer (some ⟨x,o+d,none⟩))
 | snil:VR ρ .snil (.slice none 0 0)
 | sl {b o n sz x d cap:Nat} (h:ρ.b b=some (x,d)) (hn:n<=cap) (hc:o+d+cap * sz<=ρ.sz x):VR ρ (.sl b o n sz) (.slice (some ⟨x,o+d,none⟩) n cap)
 | slz {b x d:Nat} (o sz:Nat) (a:Addr) (h:ρ.b b=some (x,d)):VR ρ (.sl b o 0 sz) (.slice (some a) 0 0)
 | mnil:VR ρ .mnil (.map none)
 | map {r x:Nat} (h:ρ.m r=some x):VR ρ (.map r) (.map (some x))
 | fnil:VR ρ .fnil .nilFunc
 | fn (f:FuncId) {a c:List V} {a' c':Array Value} (ha:a.length=a'.toList.length) (hc:c.length=c'.toList.length)
  (iha:∀ (i:Nat) v v',a[i]?=some v->a'.toList[i]?=some v'->VR ρ v v') (ihc:∀ (i:Nat) v v',c[i]?=some v->c'.toList[i]?=some v'->VR ρ v v') :
  VR ρ (.fn f a c) (.func (.func f) a' c')
 | yield {l x:Nat} (h:ρ.lp l=some x):VR ρ (.yield l) (.func (.yield x) #[] #[])
 | iter {i x:Nat} (h:ρ.it i=some x):VR ρ (.iter i) (.pointer (some ⟨x,0,none⟩))
 | agg {c:List V} {c':Array Value} (hc:c.length=c'.toList.length) (ih:∀ (i:Nat) v v',c[i]?=some v->c'.toList[i]?=some v'->VR ρ v v'):VR ρ (.agg c) (.agg c')
 | tup {c:List V} {c':Array Value} (hc:c.length=c'.toList.length) (ih:∀ (i:Nat) v v',c[i]?=some v->c'.toList[i]?=some v'->VR ρ v v'):VR ρ (.tup c) (.tuple c')
theorem VR.mono {ρ ρ':Rho} (hle:ρ.le ρ') {v:V} {v':Value} (h:VR ρ v v'):VR ρ' v v':=by
 induction h with
 | undef v=>exact .undef v
 | bool b=>exact .bool b
 | int k n=>exact .int k n
 | str s=>exact .str s
 | pnil=>exact .pnil
 | ptr h=>exact .ptr (hle.b _ _ _ h).1
 | snil=>exact .snil
 | sl h hn hc=>exact .sl (hle.b _ _ _ h).1 hn (by rw [(hle.b _ _ _ h).2];exact hc)
 | slz o sz a h=>exact .slz o sz a (hle.b _ _ _ h).1
 | mnil=>exact .mnil
 | map h=>exact .map (hle.m _ _ h)
 | fnil=>exact .fnil
 | fn f ha hc _ _ iha ihc=>exact .fn f ha hc iha ihc
 | yield h=>exact .yield (hle.lp _ _ h)
 | iter h=>exact .iter (hle.it _ _ h)
 | agg hc _ ih=>exact .agg hc ih
 | tup hc _ ih=>exact .tup hc ih
structure VRs (ρ:Rho) (l:List V) (l':List Value):Prop where
 len:l.length=l'.length
 at_:∀ (i:Nat) v v',l[i]?=some v->l'[i]?=some v'->VR ρ v v'
theorem VRs.mono {ρ ρ':Rho} (hle:ρ.le ρ') {l:List V} {l':List Value} (h:VRs ρ l l'):VRs ρ' l l' :=
 ⟨h.len,fun i v v' a b=>(h.at_ i v v' a b).mono hle⟩
theorem VRs.nil (ρ:Rho):VRs ρ [] []:=⟨rfl,fun _ _ _ h=>by simp at h⟩
theorem VRs.cons {ρ:Rho} {v:V} {v':Value} {l:List V} {l':List Value} (h:VR ρ v v') (hl:VRs ρ l l'):VRs ρ (v::l) (v'::l') :=
 ⟨by simp [hl.len],fun i x x' a b=>by
  cases i with
  | zero=>simp at a b;subst a;subst b;exact h
  | succ i=>simp at a b;exact hl.at_ i x x' a b⟩
theorem VRs.head {ρ:Rho} {v:V} {v':Value} {l:List V} {l':List Value} (h:VRs ρ (v::l) (v'::l')):VR ρ v v':=h.at_ 0 v v' rfl rfl
theorem VRs.tail {ρ:Rho} {v:V} {v':Value} {l:List V} {l':List Value} (h:VRs ρ (v::l) (v'::l')):VRs ρ l l' :=
 ⟨by have:=h.len;simpa using this,fun i x x' a b=>h.at_ (i+1) x x' (by simpa using a) (by simpa using b)⟩
theorem VRs.nil_inv {ρ:Rho} {l':List Value} (h:VRs ρ [] l'):l'=[]:=List.length_eq_zero_iff.1 (by have:=h.len;simpa using this.symm)
theorem VRs.cons_inv {ρ:Rho} {v:V} {l:List V} {l':List Value} (h:VRs ρ (v::l) l'):∃ v' r',l'=v'::r'/\VR ρ v v'/\VRs ρ l r':=by
 cases l' with
 | nil=>have:=h.len;simp at this
 | cons v' r'=>exact ⟨v',r',rfl,h.head,h.tail⟩
theorem VRs.append {ρ:Rho} {a b:List V} {a' b':List Value} (h:VRs ρ a a') (k:VRs ρ b b'):VRs ρ (a++b) (a'++b'):=by
 induction a generalizing a' with
 | nil=>have:=h.nil_inv;subst this;simpa using k
 | cons v l ih=>obtain ⟨v',r',rfl,h1,h2⟩:=h.cons_inv;exact .cons h1 (ih h2)
theorem VRs.take {ρ:Rho} {a:List V} {a':List Value} (h:VRs ρ a a') (n:Nat):VRs ρ (a.take n) (a'.take n) :=
 ⟨by simp [h.len],fun i v v' x y=>by
  rw [List.getElem?_take]at x y
  split at x <;> simp_all
  exact h.at_ i v v' x y⟩
theorem VRs.drop {ρ:Rho} {a:List V} {a':List Value} (h:VRs ρ a a') (n:Nat):VRs ρ (a.drop n) (a'.drop n) :=
 ⟨by simp [h.len],fun i v v' x y=>by
  rw [List.getElem?_drop]at x y
  exact h.at_ (n+i) v v' x y⟩
theorem VRs.getElem? {ρ:Rho} {a:List V} {a':List Value} (h:VRs ρ a a') {i:Nat} {v:V} (hv:a[i]?=some v):∃ v',a'[i]?=some v'/\VR ρ v v':=by
 obtain ⟨hi,rfl⟩:=List.getElem?_eq_some_iff.1 hv
 have hi':i < a'.length:=by rw [<- h.len];exact hi
 exact ⟨a'[i],List.getElem?_eq_getElem hi',h.at_ i _ _ hv (List.getElem?_eq_getElem hi')⟩
theorem VR.agg_mk {ρ:Rho} {c:List V} {c':Array Value} (h:VRs ρ c c'.toList):VR ρ (.agg c) (.agg c'):=.agg h.len h.at_
theorem VR.tup_mk {ρ:Rho} {c:List V} {c':Array Value} (h:VRs ρ c c'.toList):VR ρ (.tup c) (.tuple c'):=.tup h.len h.at_
theorem VR.agg_inv {ρ:Rho} {c:List V} {v':Value} (h:VR ρ (.agg c) v'):∃ c',v'=.agg c'/\VRs ρ c c'.toList:=by
 cases h with | agg hc ih=>exact ⟨_,rfl,hc,ih⟩
theorem VR.tup_inv {ρ:Rho} {c:List V} {v':Value} (h:VR ρ (.tup c) v'):∃ c',v'=.tuple c'/\VRs ρ c c'.toList:=by
 cases h with | tup hc ih=>exact ⟨_,rfl,hc,ih⟩
theorem VR.fn_mk {ρ:Rho} (f:FuncId) {a c:List V} {a' c':Array Value} (ha:VRs ρ a a'.toList) (hc:VRs ρ c c'.toList):VR ρ (.fn f a c) (.func (.func f) a' c'):=.fn f ha.len hc.len ha.at_ hc.at_
theorem VR.fn_inv {ρ:Rho} {f:FuncId} {a c:List V} {v':Value} (h:VR ρ (.fn f a c) v'):∃ a' c',v'=.func (.func f) a' c'/\VRs ρ a a'.toList/\VRs ρ c c'.toList:=by
 cases h with | fn f ha hc iha ihc=>exact ⟨_,_,rfl,⟨ha,iha⟩,⟨hc,ihc⟩⟩
theorem VR.bool_inv {ρ:Rho} {b:Bool} {v':Value} (h:VR ρ (.bool b) v'):v'=.bool b:=by cases h;rfl
theorem VR.int_inv {ρ:Rho} {k:IntKind} {n:Int} {v':Value} (h:VR ρ (.int k n) v'):v'=.int k n:=by cases h;rfl
theorem VR.ptr_inv {ρ:Rho} {b o:Nat} {v':Value} (h:VR ρ (.ptr b o) v'):∃ x d,ρ.b b=some (x,d)/\v'=.pointer (some ⟨x,o+d,none⟩):=by cases h with | ptr h=>exact ⟨_,_,h,rfl⟩
theorem VR.str_inv {ρ:Rho} {s:List UInt8} {v':Value} (h:VR ρ (.str s) v'):∃ s':ByteArray,v'=.string s'/\s=s'.data.toList:=by cases h with | str s'=>exact ⟨s',rfl,rfl⟩
theorem VR.one {ρ:Rho} {v:V} {v':Value} (h:VR ρ v v') (h1:v.one=true):v'.oneCell'=true:=by
 cases h <;> simp_all [V.one,Value.oneCell']
theorem V.one_cells {v:V} (h:v.one=true):v.cells=some [v]:=by cases v <;> simp_all [V.one,V.cells]
theorem VR.cells {ρ:Rho} {v:V} {v':Value} (h:VR ρ v v') {cs:List V} (hc:v.cells=some cs):VRs ρ cs v'.cells.toList:=by
 cases h with
 | undef _=>simp [V.cells]at hc
 | tup _ _=>simp [V.cells]at hc
 | iter _=>simp [V.cells]at hc
 | agg hl ih=>simp [V.cells]at hc;subst hc;exact ⟨hl,ih⟩
 | bool b=>simp [V.cells]at hc;subst hc;exact .cons (.bool b) (.nil _)
 | int k n=>simp [V.cells]at hc;subst hc;exact .cons (.int k n) (.nil _)
 | str s=>simp [V.cells]at hc;subst hc;exact .cons (.str s) (.nil _)
 | pnil=>simp [V.cells]at hc;subst hc;exact .cons .pnil (.nil _)
 | ptr h=>simp [V.cells]at hc;subst hc;exact .cons (.ptr h) (.nil _)
 | snil=>simp [V.cells]at hc;subst hc;exact .cons .snil (.nil _)
 | sl h hn h2=>simp [V.cells]at hc;subst hc;exact .cons (.sl h hn h2) (.nil _)
 | slz o sz a h=>simp [V.cells]at hc;subst hc;exact .cons (.slz o sz a h) (.nil _)
 | mnil=>simp [V.cells]at hc;subst hc;exact .cons .mnil (.nil _)
 | map h=>simp [V.cells]at hc;subst hc;exact .cons (.map h) (.nil _)
 | fnil=>simp [V.cells]at hc;subst hc;exact .cons .fnil (.nil _)
 | fn f ha hc' iha ihc=>simp [V.cells]at hc;subst hc;exact .cons (.fn f ha hc' iha ihc) (.nil _)
 | yield h=>simp [V.cells]at hc;subst hc;exact .cons (.yield h) (.nil _)
theorem AT7 {ρ:Rho} {v:Value} {x:V} (h:ofCell v=some x):VR ρ x v:=by
 unfold ofCell at h
 split at h <;> simp at h <;> subst h
 . exact .bool _
 . exact .int _ _
 . exact .str _
 . exact .pnil
 . exact .snil
 . exact .mnil
 . exact .fnil
theorem AJ9 {ρ:Rho}:∀ {vs:List Value} {xs:List V},ofCells vs=some xs->VRs ρ xs vs
 | [],xs,h=>by simp [ofCells]at h;subst h;exact .nil _
 | v::vs,xs,h=>by
  simp only [ofCells]at h
  split at h
  . rename_i x ys h1 h2
    simp at h;subst h
    exact .cons (AT7 h1) (AJ9 h2)
  . simp at h
theorem AN6 {ρ:Rho} {v:Value} {x:V} (h:ofVal v=some x):VR ρ x v:=by
 unfold ofVal at h
 split at h
 . rename_i cs
   cases hc:ofCells cs.toList with
   | none=>simp [hc]at h
   | some ys=>simp [hc]at h;subst h;exact .agg_mk (AJ9 hc)
 . rename_i cs
   split at h <;> simp at h
   rename_i hn
   subst h;exact .tup_mk (by rw [hn];exact .nil _)
 . exact AT7 h
structure MER (ρ:Rho) (l:List ME) (l':List MapEntry):Prop where
 len:l.length=l'.length
 at_:∀ (i:Nat) e e',l[i]?=some e->l'[i]?=some e'->VR ρ e.key e'.key/\VR ρ e.val e'.val/\e'.born=e.born
theorem MER.mono {ρ ρ':Rho} (hle:ρ.le ρ') {l:List ME} {l':List MapEntry} (h:MER ρ l l'):MER ρ' l l' :=
 ⟨h.len,fun i e e' a b=>let ⟨x,y,z⟩:=h.at_ i e e' a b;⟨x.mono hle,y.mono hle,z⟩⟩
def ER (ρ:Rho) (e:Env) (tmps:Array Value):Prop:=∀ t,VR ρ (e.get t) (tmps.getD t undef)
theorem ER.mono {ρ ρ':Rho} (hle:ρ.le ρ') {e:Env} {tmps:Array Value} (h:ER ρ e tmps):ER ρ' e tmps:=fun t=>(h t).mono hle
def Rho.has (ρ:Rho) (x:Nat):Prop:=(∃ i d,ρ.b i=some (x,d))∨(∃ i,ρ.m i=some x)∨(∃ i,ρ.it i=some x)∨(∃ i,ρ.lp i=some x)
theorem Rho.has.mono {ρ ρ':Rho} (hle:ρ.le ρ') {x:Nat} (h:ρ.has x):ρ'.has x:=by
 rcases h with ⟨i,d,h⟩ | ⟨i,h⟩ | ⟨i,h⟩ | ⟨i,h⟩
 . exact .inl ⟨i,d,(hle.b _ _ _ h).1⟩
 . exact .inr (.inl ⟨i,hle.m _ _ h⟩)
 . exact .inr (.inr (.inl ⟨i,hle.it _ _ h⟩))
 . exact .inr (.inr (.inr ⟨i,hle.lp _ _ h⟩))
def FrOk (fr:Nat×Nat) (n:Nat):Prop:=fr.1=fr.2∨n<=fr.1
theorem FrOk.not {fr:Nat×Nat} {n:Nat} (h:FrOk fr n) (i:Nat) (hi:i < n):¬ (fr.1<=i/\i < fr.2):=by
 rcases h with h | h <;> omega
structure BR (ρ:Rho) (k:Blk) (x d:Nat) (w:World):Prop where
 row:∃ c el fr,w.heap[x]?=some (.cells c el fr)/\c.size=ρ.sz x/\(k.kind≠.ro->FrOk fr c.size)/\k.cells.length+d<=c.size /\
  ∀ (i:Nat) v,k.cells[i]?=some v->∃ v',c[i+d]?=some v'/\VR ρ v v'
inductive Sub:Code->Code->Prop
 | refl (c:Code):Sub c c
 | seqL {a b c:Code} (h:Sub (.seq a b) c):Sub a c
 | seqR {a b c:Code} (h:Sub (.seq a b) c):Sub b c
 | condL {x:Operand} {a b c:Code} (h:Sub (.cond x a b) c):Sub a c
 | condR {x:Operand} {a b c:Code} (h:Sub (.cond x a b) c):Sub b c
 | block {i:Nat} {a c:Code} (h:Sub (.block i a) c):Sub a c
 | loop {a c:Code} (h:Sub (.loop a) c):Sub a c
 | scope {a c:Code} (h:Sub (.scope a) c):Sub a c
 | rangeL {g:Operand} {ps:Array Tmp} {a b c:Code} (h:Sub (.rangeFunc g ps a b) c):Sub a c
 | rangeR {g:Operand} {ps:Array Tmp} {a b c:Code} (h:Sub (.rangeFunc g ps a b) c):Sub b c
def LR (ρ:Rho) (P:Program) (r:LoopO) (r':Loop):Prop :=
 r'.state=r.state/\r'.pending=r.pending/\r'.fn=r.fn/\r'.params.toList=r.params/\r'.assign=r.assign/\r'.body=r.body/\ER ρ r.env r'.tmps /\
  ∃ fn,P.funcs[r.fn]?=some fn/\r'.tmps.size=fn.ntmps/\∃ body,fn.body=some body/\Sub r.assign body/\Sub r.body body
structure Inv (P:Program) (base:Nat) (W:World) (ρ:Rho) (A:AS) (w:World):Prop where
 os:w.os=W.os
 tape:w.tape=W.tape
 output:w.output=W.output
 size:base<=w.heap.size
 old:∀ i,i < base->w.heap[i]?=W.heap[i]?
 blk:∀ b x d,ρ.b b=some (x,d)->∃ k,A.blk[b]?=some k/\BR ρ k x d w/\(k.kind≠.ro->base<=x)
 inj:∀ b1 b2 x d1 d2 k1 k2,ρ.b b1=some (x,d1)->ρ.b b2=some (x,d2)->A.blk[b1]?=some k1->A.blk[b2]?=some k2 ->
  b1=b2∨(k1.kind=.ro/\k2.kind=.ro)∨∃ f β1 β2,k1.kind=.arr f β1/\k2.kind=.arr f β2/\β1+d2=β2+d1
 fam:∀ b k f β x,ρ.b b=some x->A.blk[b]?=some k->k.kind=.arr f β->(ρ.b f).isSome=true
 own:∀ b k f β,ρ.b b=none->A.blk[b]?=some k->k.kind=.arr f β->f=b
 map:∀ r x,ρ.m r=some x->base<=x/\∃ mo es',A.maps[r]?=some mo/\w.heap[x]?=some (.map es' mo.clock)/\MER ρ mo.es es'.toList
 minj:∀ r1 r2 x,ρ.m r1=some x->ρ.m r2=some x->r1=r2
 it:∀ i x,ρ.it i=some x->base<=x/\∃ io mo',A.its[i]?=some io/\w.heap[x]?=some (.mapIter mo' io.since io.seen.toArray io.stepped) /\
  (io.map=none/\mo'=none∨∃ r y,io.map=some r/\mo'=some y/\ρ.m r=some y)
 iinj:∀ r1 r2 x,ρ.it r1=some x->ρ.it r2=some x->r1=r2
 lp:∀ l x,ρ.lp l=some x->base<=x/\∃ r r',A.loops[l]?=some r/\w.heap[x]?=some (.loop r')/\LR ρ P r r'
 linj:∀ r1 r2 x,ρ.lp r1=some x->ρ.lp r2=some x->r1=r2
end Go.Sv
namespace Go.Sv
open Go
structure FU (ρ:Rho) (w w':World):Prop where
 size:w.heap.size<=w'.heap.size
 keep:∀ i,i < w.heap.size->¬ ρ.has i->w'.heap[i]?=w.heap[i]?
structure FA (ρ:Rho) (A A':AS):Prop where
 blen:A.blk.length<=A'.blk.length
 mlen:A.maps.length<=A'.maps.length
 blk:∀ b,b < A.blk.length->ρ.b b=none->A'.blk[b]?=A.blk[b]?
 maps:∀ r,r < A.maps.length->ρ.m r=none->A'.maps[r]?=A.maps[r]?
structure NewR (ρ ρ':Rho) (A:AS) (w:World):Prop where
 b:∀ i x d,ρ'.b i=some (x,d)->ρ.b i=none->A.blk.length<=i
 m:∀ i x,ρ'.m i=some x->ρ.m i=none->A.maps.length<=i
 has:∀ x,x < w.heap.size->ρ'.has x->ρ.has x
theorem FU.refl (ρ:Rho) (w:World):FU ρ w w:=⟨Nat.le_refl _,fun _ _ _=>rfl⟩
theorem FA.refl (ρ:Rho) (A:AS):FA ρ A A:=⟨Nat.le_refl _,Nat.le_refl _,fun _ _ _=>rfl,fun _ _ _=>rfl⟩
theorem NewR.refl (ρ:Rho) (A:AS) (w:World):NewR ρ ρ A w:=⟨fun i x d h k=>by simp [h]at k,fun i x h k=>by simp [h]at k,fun _ _ h=>h⟩
structure Adv (P:Program) (base:Nat) (W:World) (ρ:Rho) (A:AS) (w:World) (ρ':Rho) (A':AS) (w':World):Prop where
 le:ρ.le ρ'
 inv:Inv P base W ρ' A' w'
 fu:FU ρ w w'
 fa:FA ρ A A'
 new:NewR ρ ρ' A w
theorem Adv.refl {P:Program} {base:Nat} {W:World} {ρ:Rho} {A:AS} {w:World} (h:Inv P base W ρ A w):Adv P base W ρ A w ρ A w :=
 ⟨.refl ρ,h,.refl ρ w,.refl ρ A,.refl ρ A w⟩
theorem Adv.trans {P:Program} {base:Nat} {W:World} {ρ ρ₁ ρ₂:Rho} {A A₁ A₂:AS} {w w₁ w₂:World}
 (h:Adv P base W ρ A w ρ₁ A₁ w₁) (k:Adv P base W ρ₁ A₁ w₁ ρ₂ A₂ w₂):Adv P base W ρ A w ρ₂ A₂ w₂:=by
 refine ⟨h.le.trans k.le,k.inv,⟨Nat.le_trans h.fu.size k.fu.size,fun i hi hn=>?_⟩,⟨Nat.le_trans h.fa.blen k.fa.blen,Nat.le_trans h.fa.mlen k.fa.mlen,fun b hb hn=>?_,fun r hr hn=>?_⟩,⟨fun i x d h2 hn=>?_,fun i x h2 hn=>?_,fun x hx hh=>?_⟩⟩
 . have h1 : ¬ ρ₁.has i := fun q => hn (h.new.has i hi q)
   rw [k.fu.keep i (Nat.lt_of_lt_of_le hi h.fu.size) h1,h.fu.keep i hi hn]
 . have h1 : ρ₁.b b = none := by
    cases q:ρ₁.b b with
    | none=>rfl
    | some y=>obtain ⟨x,d⟩:=y;have:=h.new.b b x d q hn;omega
   rw [k.fa.blk b (Nat.lt_of_lt_of_le hb h.fa.blen) h1,h.fa.blk b hb hn]
 . have h1 : ρ₁.m r = none := by
    cases q:ρ₁.m r with
    | none=>rfl
    | some x=>have:=h.new.m r x q hn;omega
   rw [k.fa.maps r (Nat.lt_of_lt_of_le hr h.fa.mlen) h1,h.fa.maps r hr hn]
 . cases q : ρ₁.b i with
   | none=>exact Nat.le_trans h.fa.blen (k.new.b i x d h2 q)
   | some y=>obtain ⟨x',d'⟩:=y;exact h.new.b i x' d' q hn
 . cases q : ρ₁.m i with
   | none=>exact Nat.le_trans h.fa.mlen (k.new.m i x h2 q)
   | some y=>exact h.new.m i y q hn
 . exact h.new.has x hx (k.new.has x (Nat.lt_of_lt_of_le hx h.fu.size) hh)
theorem BR.world {ρ:Rho} {k:Blk} {x d:Nat} {w w':World} (h:BR ρ k x d w) (hw:w'.heap[x]?=w.heap[x]?):BR ρ k x d w':=by
 obtain ⟨c,el,fr,h1,h2⟩:=h.row
 exact ⟨c,el,fr,by rw [hw,h1],h2⟩
theorem Inv.world {P:Program} {base:Nat} {W:World} {ρ:Rho} {A:AS} {w w':World} (h:Inv P base W ρ A w)
 (ho:w'.os=w.os) (ht:w'.tape=w.tape) (hp:w'.output=w.output) (hs:w.heap.size<=w'.heap.size)
 (hold:∀ i,i < base->w'.heap[i]?=w.heap[i]?) (hb:∀ x,ρ.has x->w'.heap[x]?=w.heap[x]?):Inv P base W ρ A w' where
 os:=ho.trans h.os
 tape:=ht.trans h.tape
 output:=hp.trans h.output
 size:=Nat.le_trans h.size hs
 old:=fun i hi=>(hold i hi).trans (h.old i hi)
 blk:=fun b x d hx=>let ⟨k,h1,h2,h3⟩:=h.blk b x d hx;⟨k,h1,h2.world (hb x (.inl ⟨b,d,hx⟩)),h3⟩
 inj:=h.inj
 fam:=h.fam
 own:=h.own
 map:=fun r x hx=>let ⟨h0,mo,es',h1,h2,h3⟩:=h.map r x hx;⟨h0,mo,es',h1,by rw [hb x (.inr (.inl ⟨r,hx⟩)),h2],h3⟩
 minj:=h.minj
 it:=fun r x hx=>let ⟨h0,io,mo',h1,h2,h3⟩:=h.it r x hx;⟨h0,io,mo',h1,by rw [hb x (.inr (.inr (.inl ⟨r,hx⟩))),h2],h3⟩
 iinj:=h.iinj
 lp:=fun r x hx=>let ⟨h0,io,mo',h1,h2,h3⟩:=h.lp r x hx;⟨h0,io,mo',h1,by rw [hb x (.inr (.inr (.inr ⟨r,hx⟩))),h2],h3⟩
 linj:=h.linj
theorem Inv.has_lt {P:Program} {base:Nat} {W:World} {ρ:Rho} {A:AS} {w:World} (h:Inv P base W ρ A w) {x:Nat} (hx:ρ.has x):x < w.heap.size:=by
 have key:∀ o,w.heap[x]?=some o->x < w.heap.size:=fun o q=>(Array.getElem?_eq_some_iff.1 q).1
 rcases hx with ⟨i,d,q⟩ | ⟨i,q⟩ | ⟨i,q⟩ | ⟨i,q⟩
 . obtain ⟨k, _, h2, _⟩ := h.blk i x d q
   obtain ⟨c,el,fr,h3,_⟩:=h2.row
   exact key _ h3
 . obtain ⟨_,mo,es',_,h2,_⟩:=h.map i x q;exact key _ h2
 . obtain ⟨_,mo,es',_,h2,_⟩:=h.it i x q;exact key _ h2
 . obtain ⟨_,mo,es',_,h2,_⟩:=h.lp i x q;exact key _ h2
theorem Inv.alloc {P:Program} {base:Nat} {W:World} {ρ:Rho} {A:AS} {w:World} (h:Inv P base W ρ A w) (o:Obj):Inv P base W ρ A (w.alloc o) :=
 h.world rfl rfl rfl (by simp) (fun i hi=>by
  show (w.heap.push o)[i]?=_
  rw [Array.getElem?_push,if_neg (by have:=h.size;omega)]) (fun x hx=>by
  show (w.heap.push o)[x]?=_
  rw [Array.getElem?_push,if_neg (by have:=h.has_lt hx;omega)])
theorem Inv.drew {P:Program} {base:Nat} {W:World} {ρ:Rho} {A:AS} {w:World} (h:Inv P base W ρ A w):Inv P base W ρ A w.drew :=
 h.world rfl rfl rfl (Nat.le_refl _) (fun _ _=>rfl) (fun _ _=>rfl)
theorem FU.alloc (ρ:Rho) (w:World) (o:Obj):FU ρ w (w.alloc o):=⟨by simp,fun i hi _=>by
 show (w.heap.push o)[i]?=_
 rw [Array.getElem?_push,if_neg (by omega)]⟩
theorem FU.drew (ρ:Rho) (w:World):FU ρ w w.drew:=⟨Nat.le_refl _,fun _ _ _=>rfl⟩
theorem Ad3 (w:World) (o:Obj):(w.alloc o).heap[w.heap.size]?=some o:=by
 show (w.heap.push o)[w.heap.size]?=some o
 simp
theorem At3 (w:World) (o:Obj) {i:Nat} (h:i < w.heap.size):(w.alloc o).heap[i]?=w.heap[i]?:=by
 show (w.heap.push o)[i]?=_
 rw [Array.getElem?_push,if_neg (by omega)]
theorem Af8 {w:World} {x i:Nat} {c:Array Value} {el:TypeId} {fr:Nat×Nat} (h:w.heap[x]?=some (.cells c el fr)) :
 w.cell? ⟨x,i,none⟩=c[i]?:=by simp [World.cell?,h]
theorem At4 {w:World} {x i:Nat} {c:Array Value} {el:TypeId} {fr:Nat×Nat} (h:w.heap[x]?=some (.cells c el fr)) :
 w.frozen? ⟨x,i,none⟩=decide (fr.1<=i/\i < fr.2):=by
 obtain ⟨lo,hi⟩:=fr
 simp [World.frozen?,h]
theorem Bg8 {P:Program} {base:Nat} {W:World} {ρ:Rho} {A:AS} {w:World} (h:Inv P base W ρ A w) {b x d o:Nat} {v:V}
 (hb:ρ.b b=some (x,d)) (hv:A.cell b o=some v):∃ v',w.cell? ⟨x,o+d,none⟩=some v'/\VR ρ v v':=by
 obtain ⟨k,hk,hr,_⟩:=h.blk b x d hb
 obtain ⟨c,el,fr,hc,_,_,_,hcell⟩:=hr.row
 have hv':k.cells[o]?=some v:=by simpa [AS.cell,hk] using hv
 obtain ⟨v',h1,h2⟩:=hcell o v hv'
 exact ⟨v',by rw [Af8 hc,h1],h2⟩
theorem Af9 {A:AS} {b o n:Nat} {cs:List V} (h:A.range b o n=some cs):∃ k,A.blk[b]?=some k/\o+n<=k.cells.length/\cs=(k.cells.drop o).take n/\cs.length=n:=by
 unfold AS.range at h
 split at h
 . rename_i k hk
   split at h
   . rename_i hle
     simp at h
     exact ⟨k,hk,hle,h.symm,by rw [<- h];simp;omega⟩
   . simp at h
 . simp at h
theorem Am9 {P:Program} {base:Nat} {W:World} {ρ:Rho} {A:AS} {w:World} (h:Inv P base W ρ A w) {b x d o n:Nat} {cs:List V}
 (hb:ρ.b b=some (x,d)) (hv:A.range b o n=some cs) :
 ∃ cs':List Value,VRs ρ cs cs'/\cs'.length=n/\∀ (j:Nat) u,cs'[j]?=some u->w.cell? ⟨x,o+d+j,none⟩=some u:=by
 obtain ⟨k,hk,hle,rfl,hlen⟩:=Af9 hv
 obtain ⟨k',hk',hr,_⟩:=h.blk b x d hb
 rw [hk]at hk';cases hk'
 obtain ⟨c,el,fr,hc,_,_,hle2,hcell⟩:=hr.row
 refine ⟨(c.toList.drop (o+d)).take n,⟨?_,?_⟩,?_,?_⟩
 . rw [hlen];simp;omega
 . intro i v v' h1 h2
   rw [List.getElem?_take]at h1 h2
   split at h1
   . rename_i hi
     rw [if_pos hi]at h2
     rw [List.getElem?_drop]at h1 h2
     obtain ⟨u,h3,h4⟩:=hcell (o+i) v h1
     have:c[o+i+d]?=c.toList[o+d+i]?:=by rw [show o+i+d=o+d+i by omega];simp
     rw [this,h2]at h3
     cases h3;exact h4
   . simp at h1
 . simp;omega
 . intro j u hu
   rw [List.getElem?_take]at hu
   split at hu
   . rw [List.getElem?_drop] at hu
     rw [Af8 hc];simpa using hu
   . simp at hu
theorem Ai3 {P:Program} {w:World} {x o n:Nat} {cs':List Value} (hl:cs'.length=n) (hc:∀ (j:Nat) u,cs'[j]?=some u->w.cell? ⟨x,o+j,none⟩=some u) :
 (loadCells ⟨x,o,none⟩ n).run P w=.ok cs'.toArray w:=by
 subst hl
 exact run_loadCells_list w ⟨x,o,none⟩ cs' (fun j v hv=>by rw [Addr.add_lit];exact hc j v hv)
theorem Ab1 {P:Program} {t:TypeId} {n:Nat} (h:szT P t=some n) (w:World):(sizeOf t).run P w=.ok n w:=by
 unfold szT at h
 cases hi:P.info? t with
 | none=>simp [hi]at h
 | some i=>simp [hi]at h;simp [sizeOf,typeInfo,hi,h]
theorem An0 {P:Program} {t:TypeId} {b:Bool} (h:aggT P t=some b) (w:World):(isAgg t).run P w=.ok b w:=by
 unfold aggT at h
 unfold isAgg
 split at h
 . rename_i hu;simp at h;subst h;simp [run_underlying hu]
 . rename_i hu;simp at h;subst h;simp [run_underlying hu]
 . rename_i d hd1 hd2 hu
   simp at h;subst h
   simp only [Sem.run_bind,run_underlying hu,Result.andThen_ok]
   cases d <;> simp_all
 . simp at h
theorem AE9 {P:Program} {base:Nat} {W:World} {ρ:Rho} {A:AS} {w:World} (h:Inv P base W ρ A w) {t:TypeId} {x:V} {x':Value} {v:V}
 (hx:VR ρ x x') (hv:evLoad P t x A=some v):∃ v',(Instr.loadAt t x').run P w=.ok v' w/\VR ρ v v':=by
 unfold evLoad at hv
 split at hv
 . rename_i b o n hag hsz
   obtain ⟨y,d,hb,rfl⟩:=hx.ptr_inv
   cases hr:A.range b o n with
   | none=>simp [hr]at hv
   | some cs =>
    simp [hr]at hv;subst hv
    obtain ⟨cs',h1,h2,h3⟩:=Am9 h hb hr
    refine ⟨.agg cs'.toArray,?_,.agg_mk (by simpa using h1)⟩
    have h3':=Ai3 (P:=P) h2 h3
    simp [Instr.loadAt,Instr.sureAddr,loadVar,An0 hag,Ab1 hsz,h3']
 . rename_i b o hag
   obtain ⟨y,d,hb,rfl⟩:=hx.ptr_inv
   obtain ⟨v',h1,h2⟩:=Bg8 h hb hv
   exact ⟨v',by simp [Instr.loadAt,Instr.sureAddr,loadVar,An0 hag,h1],h2⟩
 . simp at hv
end Go.Sv
namespace Go.Sv
open Go
theorem Ae2 (f lo hi:Nat) (k:Blk):(poisonBlk f lo hi k).kind=k.kind:=by
 unfold poisonBlk;split
 . split <;> simp_all
 . rfl
theorem Ai7 (f lo hi:Nat) (k:Blk):(poisonBlk f lo hi k).cells.length=k.cells.length:=by
 unfold poisonBlk;split
 . split
   . simp [poisonCells]
   . rfl
 . rfl
theorem Al3 (f lo hi:Nat) (k:Blk) {i:Nat} {v:V} (h:(poisonBlk f lo hi k).cells[i]?=some v):v=.undef∨(k.cells[i]?=some v/\∀ β,k.kind=.arr f β->¬ (lo<=β+i/\β+i < hi)):=by
 unfold poisonBlk at h
 split at h
 . rename_i f' β hk
   split at h
   . rename_i hf
     simp only [poisonCells,List.getElem?_mapIdx]at h
     cases hc:k.cells[i]? with
     | none=>simp [hc]at h
     | some u =>
      simp [hc]at h
      split at h
      . exact .inl h.symm
      . rename_i hn
        right
        subst h
        exact ⟨rfl,fun β' hβ=>by rw [hk]at hβ;cases hβ;exact hn⟩
   . rename_i hf
     exact .inr ⟨h,fun β' hβ=>by rw [hk]at hβ;cases hβ;exact absurd rfl hf⟩
 . rename_i hk
   exact .inr ⟨h,fun β' hβ=>absurd hβ (hk f β')⟩
theorem An1 (A:AS) (f lo hi:Nat) (but:Option Nat) (i:Nat):(A.poison f lo hi but).blk[i]?=(A.blk[i]?).map fun k=>if some i=but then k else poisonBlk f lo hi k:=by
 simp [AS.poison,List.getElem?_mapIdx]
theorem An2 (A:AS) (f lo hi:Nat) (but:Option Nat):(A.poison f lo hi but).blk.length=A.blk.length:=by simp [AS.poison]
theorem BR.poison {ρ:Rho} {k:Blk} {x d:Nat} {w:World} (h:BR ρ k x d w) (f lo hi:Nat):BR ρ (poisonBlk f lo hi k) x d w:=by
 obtain ⟨c,el,fr,h1,h2,h3,h4,h5⟩:=h.row
 refine ⟨c,el,fr,h1,h2,by rw [Ae2];exact h3,by rw [Ai7];exact h4,fun i v hv=>?_⟩
 rcases Al3 f lo hi k hv with rfl | ⟨hv',_⟩
 . have hi : i < k.cells.length := by
    have:=(List.getElem?_eq_some_iff.1 hv).1
    rwa [Ai7]at this
   have hi':i+d < c.size:=by omega
   exact ⟨c[i+d],Array.getElem?_eq_getElem hi',.undef _⟩
 . exact h5 i v hv'
theorem Al4 (x:Nat) (el:TypeId) (fr:Nat×Nat):∀ (vs:List Value) (o:Nat) (w:World) (c:Array Value),w.heap[x]?=some (.cells c el fr) ->
 ∃ c',(w.setCells x o vs).heap[x]?=some (.cells c' el fr)/\c'.size=c.size/\∀ j,c'[j]?=if o<=j/\j < o+vs.length/\j < c.size then vs[j - o]? else c[j]?
 | [],o,w,c,h=>⟨c,h,rfl,fun j=>by simp;intros;omega⟩
 | v::r,o,w,c,h=>by
  have h1:(w.setCell ⟨x,o,none⟩ v).heap[x]?=some (.cells (c.setIfInBounds o v) el fr):=by
   show (w.heap.modify x _)[x]?=_
   rw [Array.getElem?_modify,if_pos rfl,h]
   rfl
  obtain ⟨c',h2,h3,h4⟩:=Al4 x el fr r (o+1) _ _ h1
  refine ⟨c',h2,by simpa using h3,fun j=>?_⟩
  rw [h4 j]
  simp only [Array.size_setIfInBounds,List.length_cons]
  by_cases hj:o+1<=j/\j < o+1+r.length/\j < c.size
  . rw [if_pos hj, if_pos ⟨by omega, by omega, hj.2.2⟩, show j - o = (j - (o + 1)) + 1 by omega]
    simp
  . rw [if_neg hj]
    by_cases hjo:j=o
    . subst hjo
      by_cases hs:j < c.size
      . rw [if_pos ⟨by omega, by omega, hs⟩]
        simp [Array.getElem?_setIfInBounds,hs]
      . rw [if_neg (by omega)]
        simp [Array.getElem?_setIfInBounds,hs]
    . rw [if_neg (by omega),Array.getElem?_setIfInBounds,if_neg (by omega)]
theorem Ab4 (x:Nat):∀ (vs:List Value) (o:Nat) (w:World) {i:Nat},i≠x->(w.setCells x o vs).heap[i]?=w.heap[i]?
 | [],_,_,_,_=>rfl
 | v::r,o,w,i,h=>by
  rw [World.setCells,Ab4 x r (o+1) _ h]
  simp [World.setCell,Array.getElem?_modify,Ne.symm h]
theorem Ai8 (x:Nat):∀ (vs:List Value) (o:Nat) (w:World),(w.setCells x o vs).heap.size=w.heap.size
 | [],_,_=>rfl
 | v::r,o,w=>by rw [World.setCells,Ai8 x r (o+1)];simp
theorem Au2 (x:Nat):∀ (vs:List Value) (o:Nat) (w:World),(w.setCells x o vs).os=w.os/\(w.setCells x o vs).tape=w.tape/\(w.setCells x o vs).output=w.output
 | [],_,_=>⟨rfl,rfl,rfl⟩
 | v::r,o,w=>by rw [World.setCells];exact Au2 x r (o+1) _
theorem AT8 {cs vs:List V} {o:Nat} (h:o+vs.length<=cs.length):(putAt cs o vs).length=cs.length:=by
 simp [putAt];omega
theorem Bg9 {cs vs:List V} {o:Nat} (h:o+vs.length<=cs.length) (i:Nat):(putAt cs o vs)[i]?=if o<=i/\i < o+vs.length then vs[i - o]? else cs[i]?:=by
 unfold putAt
 by_cases h1:i < o
 . rw [if_neg (by omega),List.append_assoc,List.getElem?_append_left (by simp;omega),List.getElem?_take,if_pos h1]
 . by_cases h2 : i < o + vs.length
   . rw [if_pos ⟨by omega, h2⟩, List.append_assoc, List.getElem?_append_right (by simp; omega)]
     simp only [List.length_take]
     rw [show min o cs.length=o by omega,List.getElem?_append_left (by omega)]
   . rw [if_neg (by omega), List.getElem?_append_right (by simp; omega)]
     simp only [List.length_append,List.length_take,List.getElem?_drop]
     congr 1;omega
theorem As3 (A:AS) (b:Nat) (cs:List V) (i:Nat):(A.setBlk b cs).blk[i]?=if i=b then (A.blk[i]?).map fun k=>{ k with cells:=cs } else A.blk[i]?:=by
 simp only [AS.setBlk,List.getElem?_modify]
 by_cases h:i=b
 . subst h;simp
 . rw [if_neg h];simp [Ne.symm h]
theorem AK0 (A:AS) (b:Nat) (cs:List V):(A.setBlk b cs).blk.length=A.blk.length:=by simp [AS.setBlk]
theorem AF0 {A A':AS} {b o:Nat} {vs:List V} (h:A.put b o vs=some A'):∃ k,A.blk[b]?=some k/\o+vs.length<=k.cells.length/\vs.all V.one=true/\k.kind≠.ro /\
 A'.maps=A.maps/\A'.its=A.its/\A'.loops=A.loops/\A'.orc=A.orc/\A'.odr=A.odr/\A'.blk.length=A.blk.length /\
 A'.blk[b]?=some { k with cells:=putAt k.cells o vs } /\
 (∀ i,i≠b->A'.blk[i]?=match k.kind with
  | .arr f β=>(A.blk[i]?).map (poisonBlk f (β+o) (β+o+vs.length))
  | _=>A.blk[i]?):=by
 unfold AS.put at h
 split at h
 . simp at h
 . rename_i k hk
   split at h
   . rename_i hc
     split at h
     . simp at h
     . rename_i hkd
       simp at h;subst h
       refine ⟨k,hk,hc.1,hc.2,by simp [hkd],rfl,rfl,rfl,rfl,rfl,AK0 _ _ _,?_,fun i hi=>?_⟩
       . rw [As3,if_pos rfl,hk];rfl
       . rw [As3,if_neg hi,hkd]
     . rename_i f β hkd
       simp at h;subst h
       refine ⟨k,hk,hc.1,hc.2,by simp [hkd],rfl,rfl,rfl,rfl,rfl,by rw [An2,AK0],?_,fun i hi=>?_⟩
       . rw [An1,As3,if_pos rfl,hk];simp
       . rw [An1, As3, if_neg hi, hkd]
         cases A.blk[i]? with
         | none=>rfl
         | some q=>simp [hi]
   . simp at h
theorem AN7 {P:Program} {base:Nat} {W:World} {ρ:Rho} {A A':AS} {w:World} (h:Inv P base W ρ A w) {b o x d:Nat} {vs:List V} {vs':List Value}
 (hb:ρ.b b=some (x,d)) (hp:A.put b o vs=some A') (hv:VRs ρ vs vs') :
 ∃ w',(storeCells ⟨x,o+d,none⟩ vs').run P w=.ok () w'/\Adv P base W ρ A w ρ A' w':=by
 obtain ⟨k,hk,hle,hone,hro,hm,hi,hl,_,_,hlen,hsame,hoth⟩:=AF0 hp
 obtain ⟨k',hk',hr,hbase⟩:=h.blk b x d hb
 rw [hk]at hk';cases hk'
 obtain ⟨c,el,fr,hc,hsz,hfr,hcl,hcell⟩:=hr.row
 have hbx:base<=x:=hbase hro
 have hvl:=hv.len
 have hst:=run_storeCells_cells (P:=P) x (o+d) vs' 0 w (fun j hj=>by
  rw [Af8 hc,Array.getElem?_eq_getElem (by omega)];rfl) (fun j hj=>by
  rw [At4 hc];exact decide_eq_false ((hfr hro).not _ (by omega))) (fun v hm=>by
  obtain ⟨i,hi1,hi2⟩:=List.getElem_of_mem hm
  have hi':i < vs.length:=by omega
  exact (hv.at_ i vs[i] v (List.getElem?_eq_getElem hi') (by rw [List.getElem?_eq_getElem hi1,hi2])).one (List.all_eq_true.1 hone _ (List.getElem_mem hi')))
 simp only [Nat.add_zero]at hst
 obtain ⟨c',hc',hsz',hget⟩:=Al4 x el fr vs' (o+d) w c hc
 obtain ⟨ho1,ho2,ho3⟩:=Au2 x vs' (o+d) w
 have hsize:=Ai8 x vs' (o+d) w
 have hxhas:ρ.has x:=.inl ⟨b,d,hb⟩
 have blkAll:∀ b1 x1 d1,ρ.b b1=some (x1,d1)->∃ k1,A'.blk[b1]?=some k1/\BR ρ k1 x1 d1 (w.setCells x (o+d) vs')/\(k1.kind≠.ro->base<=x1):=by
  intro b1 x1 d1 hb1
  by_cases hbb:b1=b
  . subst hbb
    rw [hb]at hb1;cases hb1
    refine ⟨_,hsame,⟨c',el,fr,hc',by rw [hsz',hsz],by rw [hsz'];exact hfr,?_,fun i v hiv=>?_⟩,fun _=>hbx⟩
    . simp only [AT8 hle];omega
    . rw [Bg9 hle] at hiv
      rw [hget]
      split at hiv
      . rename_i hin
        rw [if_pos ⟨by omega,by omega,by omega⟩]
        obtain ⟨v',e1,e2⟩:=hv.getElem? hiv
        exact ⟨v',by rw [<- e1];congr 1;omega,e2⟩
      . rename_i hin
        rw [if_neg (by omega)]
        exact hcell i v hiv
  . obtain ⟨k1, hk1, hr1, hb1'⟩ := h.blk b1 x1 d1 hb1
    have hA1:=hoth b1 hbb
    by_cases hx:x1=x
    . subst hx
      rcases h.inj b b1 x1 d d1 k k1 hb hb1 hk hk1 with e | ⟨e,_⟩ | ⟨f,β,β1,e1,e2,e3⟩
      . exact absurd e.symm hbb
      . exact absurd e hro
      . rw [e1] at hA1
        simp only [hk1,Option.map_some]at hA1
        obtain ⟨c1,el1,fr1,hc1,hsz1,hfr1,hcl1,hcell1⟩:=hr1.row
        rw [hc]at hc1;cases hc1
        refine ⟨_,hA1,⟨c',el,fr,hc',by rw [hsz',hsz],fun _=>by rw [hsz'];exact hfr hro,by rw [Ai7,hsz'];exact hcl1,fun i v hiv=>?_⟩,fun _=>hbx⟩
        rcases Al3 _ _ _ _ hiv with rfl | ⟨hv1,hnot⟩
        . have hi1 : i < k1.cells.length := by
           have:=(List.getElem?_eq_some_iff.1 hiv).1
           rwa [Ai7]at this
          have hi2:i+d1 < c'.size:=by omega
          exact ⟨c'[i+d1],Array.getElem?_eq_getElem hi2,.undef _⟩
        . have hn := hnot β1 e2
          rw [hget,if_neg (by omega)]
          exact hcell1 i v hv1
    . have hw : (w.setCells x (o + d) vs').heap[x1]? = w.heap[x1]? := Ab4 x vs' (o + d) w hx
      have hr1':=hr1.world hw
      cases hkd:k.kind with
      | var=>rw [hkd]at hA1;exact ⟨k1,by rw [hA1,hk1],hr1',hb1'⟩
      | ro=>exact absurd hkd hro
      | arr f β =>
       rw [hkd]at hA1
       simp only [hk1,Option.map_some]at hA1
       exact ⟨_,hA1,hr1'.poison f _ _,by rw [Ae2];exact hb1'⟩
 have kindSame:∀ (i:Nat) (k1:Blk),A'.blk[i]?=some k1->∃ k0:Blk,A.blk[i]?=some k0/\k1.kind=k0.kind:=by
  intro i k1 hk1
  by_cases hib:i=b
  . subst hib
    rw [hsame]at hk1;cases hk1
    exact ⟨k,hk,rfl⟩
  . rw [hoth i hib] at hk1
    cases hkd:k.kind with
    | var=>rw [hkd]at hk1;exact ⟨k1,hk1,rfl⟩
    | ro=>exact absurd hkd hro
    | arr f β =>
     rw [hkd]at hk1
     cases hq:A.blk[i]? with
     | none=>simp [hq]at hk1
     | some k0=>simp [hq]at hk1;subst hk1;exact ⟨k0,rfl,Ae2 _ _ _ _⟩
 refine ⟨_,hst,⟨.refl ρ,?_,⟨by omega,fun i hi hn=>?_⟩,⟨by omega,by rw [hm];exact Nat.le_refl _,fun b1 hb1 hn=>?_,fun r hr hn=>by rw [hm]⟩,.refl _ _ _⟩⟩
 . refine { os := ho1.trans h.os, tape := ho2.trans h.tape, output := ho3.trans h.output, size := by rw [hsize]; exact h.size, old := ?_, blk := blkAll, inj := ?_, fam := ?_, own := ?_, map := ?_, minj := h.minj, it := ?_, iinj := h.iinj, lp := ?_, linj := h.linj }
   . intro i hi
     rw [Ab4 x vs' (o+d) w (by omega)];exact h.old i hi
   . intro b1 b2 y d1 d2 k1 k2 h1 h2 h3 h4
     obtain ⟨k1',e1,e2⟩:=kindSame b1 k1 h3
     obtain ⟨k2',e3,e4⟩:=kindSame b2 k2 h4
     rw [e2,e4]
     exact h.inj b1 b2 y d1 d2 k1' k2' h1 h2 e1 e3
   . intro b1 k1 f β y h1 h2 h3
     obtain ⟨k1',e1,e2⟩:=kindSame b1 k1 h2
     exact h.fam b1 k1' f β y h1 e1 (e2 ▸ h3)
   . intro b1 k1 f β h1 h2 h3
     obtain ⟨k1',e1,e2⟩:=kindSame b1 k1 h2
     exact h.own b1 k1' f β h1 e1 (e2 ▸ h3)
   . intro r y hy
     obtain ⟨h0,mo,es',h1,h2,h3⟩:=h.map r y hy
     refine ⟨h0,mo,es',by rw [hm];exact h1,?_,h3⟩
     rw [Ab4 x vs' (o+d) w (fun e=>by subst e;rw [hc]at h2;simp at h2)];exact h2
   . intro r y hy
     obtain ⟨h0,mo,es',h1,h2,h3⟩:=h.it r y hy
     refine ⟨h0,mo,es',by rw [hi];exact h1,?_,h3⟩
     rw [Ab4 x vs' (o+d) w (fun e=>by subst e;rw [hc]at h2;simp at h2)];exact h2
   . intro r y hy
     obtain ⟨h0,mo,es',h1,h2,h3⟩:=h.lp r y hy
     refine ⟨h0,mo,es',by rw [hl];exact h1,?_,h3⟩
     rw [Ab4 x vs' (o+d) w (fun e=>by subst e;rw [hc]at h2;simp at h2)];exact h2
 . exact Ab4 x vs' (o+d) w (fun e=>hn (e ▸ hxhas))
 . have hne : b1 ≠ b := fun e => by rw [e, hb] at hn; simp at hn
   rw [hoth b1 hne]
   cases hkd:k.kind with
   | var=>rfl
   | ro=>exact absurd hkd hro
   | arr f β =>
    simp only
    cases hq:A.blk[b1]? with
    | none=>rfl
    | some k1 =>
     have hfm:=h.fam b k f β _ hb hk hkd
     simp only [Option.map_some]
     congr 1
     unfold poisonBlk
     split
     . rename_i f1 β1 hk1
       have:=h.own b1 k1 f1 β1 hn hq hk1
       rw [if_neg]
       intro e
       rw [e]at this
       rw [this,hn]at hfm
       simp at hfm
     . rfl
theorem AT9 {P:Program} {base:Nat} {W:World} {ρ:Rho} {A A':AS} {w:World} (h:Inv P base W ρ A w) {t:TypeId} {a x:V} {a' x':Value}
 (ha:VR ρ a a') (hx:VR ρ x x') (hv:evStore P t a x A=some A'):∃ w',(Instr.storeAt t a' x').run P w=.ok () w'/\Adv P base W ρ A w ρ A' w':=by
 unfold evStore at hv
 split at hv
 . rename_i b o n cs hn hcs
   split at hv
   . rename_i hl
     obtain ⟨y,d,hb,rfl⟩:=ha.ptr_inv
     have hr:=hx.cells hcs
     obtain ⟨w',h1,h2⟩:=AN7 h hb hv hr
     refine ⟨w',?_,h2⟩
     have hsz:x'.cells.size=n:=by have:=hr.len;simp at this;omega
     simp [Instr.storeAt,Instr.sureAddr,storeVar,Ab1 hn,hsz,h1]
   . simp at hv
 . simp at hv
end Go.Sv
namespace Go.Sv
open Go
def Rho.withB (ρ:Rho) (b x d n:Nat):Rho:={ ρ with b:=fun i=>if i=b then some (x,d) else ρ.b i,sz:=fun y=>if y=x then n else ρ.sz y }
def Rho.withM (ρ:Rho) (r x:Nat):Rho:={ ρ with m:=fun i=>if i=r then some x else ρ.m i }
theorem Rho.withB_le {ρ:Rho} {b x d n:Nat} (hb:ρ.b b=none) (hn:∀ i d',ρ.b i=some (x,d')->ρ.sz x=n):ρ.le (ρ.withB b x d n) :=
 ⟨fun i y d' h=>⟨by simp only [Rho.withB];rw [if_neg (fun e=>by rw [e,hb]at h;simp at h)];exact h,by
  simp only [Rho.withB];split
  . rename_i e;subst e;exact (hn i d' h).symm
  . rfl⟩,fun _ _ h=>h,fun _ _ h=>h,fun _ _ h=>h⟩
theorem Rho.withM_le {ρ:Rho} {r x:Nat} (hb:ρ.m r=none):ρ.le (ρ.withM r x) :=
 ⟨fun _ _ _ h=>⟨h,rfl⟩,fun i y h=>by simp only [Rho.withM];rw [if_neg (fun e=>by rw [e,hb]at h;simp at h)];exact h,fun _ _ h=>h,fun _ _ h=>h⟩
theorem Rho.withB_has {ρ:Rho} {b x d n y:Nat} (h:(ρ.withB b x d n).has y):ρ.has y∨y=x:=by
 rcases h with ⟨i,d',h⟩ | h | h | h
 . simp only [Rho.withB] at h
   split at h
   . simp at h;exact .inr h.1.symm
   . exact .inl (.inl ⟨i,d',h⟩)
 . exact .inl (.inr (.inl h))
 . exact .inl (.inr (.inr (.inl h)))
 . exact .inl (.inr (.inr (.inr h)))
theorem Rho.withM_has {ρ:Rho} {r x y:Nat} (h:(ρ.withM r x).has y):ρ.has y∨y=x:=by
 rcases h with h | ⟨i,h⟩ | h | h
 . exact .inl (.inl h)
 . simp only [Rho.withM] at h
   split at h
   . simp at h;exact .inr h.symm
   . exact .inl (.inr (.inl ⟨i,h⟩))
 . exact .inl (.inr (.inr (.inl h)))
 . exact .inl (.inr (.inr (.inr h)))
theorem BR.mono {ρ ρ':Rho} (hle:ρ.le ρ') {k:Blk} {x d:Nat} {w:World} (h:BR ρ k x d w) {b d':Nat} (hb:ρ.b b=some (x,d')):BR ρ' k x d w:=by
 obtain ⟨c,el,fr,h1,h2,h3,h4,h5⟩:=h.row
 exact ⟨c,el,fr,h1,by rw [h2,(hle.b _ _ _ hb).2],h3,h4,fun i v hv=>let ⟨v',a,q⟩:=h5 i v hv;⟨v',a,q.mono hle⟩⟩
theorem LR.mono {ρ ρ':Rho} {P:Program} (hle:ρ.le ρ') {r:LoopO} {r':Loop} (h:LR ρ P r r'):LR ρ' P r r':=by
 obtain ⟨h1,h2,h3,h4,h5,h6,h7,h8⟩:=h
 exact ⟨h1,h2,h3,h4,h5,h6,h7.mono hle,h8⟩
theorem Inv.lay {P:Program} {base:Nat} {W:World} {ρ:Rho} {A A':AS} {w w':World} (h:Inv P base W ρ A w) {b x d:Nat} {k:Blk} {c:Array Value} {el:TypeId} {fr:Nat×Nat}
 (hb:ρ.b b=none) (hk:A'.blk[b]?=some k) (hsame:∀ i k1,ρ.b i≠none->A.blk[i]?=some k1->A'.blk[i]?=some k1)
 (hun:∀ i k1 f β,i≠b->ρ.b i=none->A'.blk[i]?=some k1->k1.kind=.arr f β->f=i)
 (hm:A'.maps=A.maps) (hi:A'.its=A.its) (hl:A'.loops=A.loops)
 (hw:Inv P base W ρ A w') (hx:w'.heap[x]?=some (.cells c el fr)) (hfr:k.kind≠.ro->FrOk fr c.size) (hbx:base<=x)
 (hlen:k.cells.length+d<=c.size) (hcell:∀ (i:Nat) v,k.cells[i]?=some v->∃ v',c[i+d]?=some v'/\VR ρ v v')
 (hro:k.kind≠.ro) (hsz:∀ i d',ρ.b i=some (x,d')->ρ.sz x=c.size)
 (hinj:∀ b1 d1 k1,ρ.b b1=some (x,d1)->A.blk[b1]?=some k1->∃ f β1 β2,k1.kind=.arr f β1/\k.kind=.arr f β2/\β1+d=β2+d1)
 (hfam:∀ f β,k.kind=.arr f β->f=b∨(ρ.b f).isSome=true):Inv P base W (ρ.withB b x d c.size) A' w':=by
 have hle:ρ.le (ρ.withB b x d c.size):=Rho.withB_le hb hsz
 have hget:∀ i y e,(ρ.withB b x d c.size).b i=some (y,e)->(i=b/\y=x/\e=d)∨(i≠b/\ρ.b i=some (y,e)):=by
  intro i y e he
  simp only [Rho.withB]at he
  split at he
  . rename_i e';simp at he;exact .inl ⟨e',he.1.symm,he.2.symm⟩
  . rename_i e';exact .inr ⟨e',he⟩
 have hsame':∀ i y e,ρ.b i=some (y,e)->∀ k1,A'.blk[i]?=some k1->A.blk[i]?=some k1:=by
  intro i y e he k1 hk1
  obtain ⟨k2,hk2,_⟩:=h.blk i y e he
  have:=hsame i k2 (by rw [he];simp) hk2
  rw [this]at hk1;cases hk1;exact hk2
 refine { os:=hw.os,tape:=hw.tape,output:=hw.output,size:=hw.size,old:=hw.old,blk:=?_,inj:=?_,fam:=?_,own:=?_,map:=?_,minj:=h.minj,it:=?_,iinj:=h.iinj,lp:=?_,linj:=h.linj }
 . intro i y e he
   rcases hget i y e he with ⟨rfl,rfl,rfl⟩ | ⟨hne,he⟩
   . exact ⟨k,hk,⟨c,el,fr,hx,by simp [Rho.withB],hfr,hlen,fun i v hv=>let ⟨v',a,q⟩:=hcell i v hv;⟨v',a,q.mono hle⟩⟩,fun _=>hbx⟩
   . obtain ⟨k1, h1, h2, h3⟩ := hw.blk i y e he
     exact ⟨k1,hsame i k1 (by rw [he];simp) h1,h2.mono hle he,h3⟩
 . intro b1 b2 y d1 d2 k1 k2 h1 h2 h3 h4
   rcases hget b1 y d1 h1 with ⟨rfl,rfl,rfl⟩ | ⟨hne1,he1⟩
   . rcases hget b2 _ d2 h2 with ⟨rfl, _, rfl⟩ | ⟨hne2, he2⟩
     . exact .inl rfl
     . have h4' := hsame' b2 _ _ he2 k2 h4
       rw [hk]at h3;cases h3
       obtain ⟨f,β1,β2,e1,e2,e3⟩:=hinj b2 d2 k2 he2 h4'
       exact .inr (.inr ⟨f,β2,β1,e2,e1,by omega⟩)
   . rcases hget b2 y d2 h2 with ⟨rfl, rfl, rfl⟩ | ⟨hne2, he2⟩
     . have h3' := hsame' b1 _ _ he1 k1 h3
       rw [hk]at h4;cases h4
       obtain ⟨f,β1,β2,e1,e2,e3⟩:=hinj b1 d1 k1 he1 h3'
       exact .inr (.inr ⟨f,β1,β2,e1,e2,by omega⟩)
     . exact hw.inj b1 b2 y d1 d2 k1 k2 he1 he2 (hsame' b1 _ _ he1 k1 h3) (hsame' b2 _ _ he2 k2 h4)
 . intro b1 k1 f β y h1 h2 h3
   obtain ⟨y1,y2⟩:=y
   rcases hget b1 y1 y2 h1 with ⟨rfl,_,_⟩ | ⟨hne,he⟩
   . rw [hk] at h2; cases h2
     simp only [Rho.withB]
     rcases hfam f β h3 with rfl | hf
     . simp
     . split
       . rfl
       . exact hf
   . have := hw.fam b1 k1 f β _ he (hsame' b1 _ _ he k1 h2) h3
     simp only [Rho.withB]
     split
     . rfl
     . exact this
 . intro b1 k1 f β h1 h2 h3
   have hne:b1≠b:=fun e=>by subst e;simp [Rho.withB]at h1
   have h1':ρ.b b1=none:=by simpa [Rho.withB,hne] using h1
   exact hun b1 k1 f β hne h1' h2 h3
 . intro r y hy
   obtain ⟨h0,mo,es',h1,h2,h3⟩:=hw.map r y hy
   exact ⟨h0,mo,es',by rw [hm];exact h1,h2,h3.mono hle⟩
 . intro r y hy
   obtain ⟨h0,mo,es',h1,h2,h3⟩:=hw.it r y hy
   exact ⟨h0,mo,es',by rw [hi];exact h1,h2,h3⟩
 . intro r y hy
   obtain ⟨h0,mo,es',h1,h2,h3⟩:=hw.lp r y hy
   exact ⟨h0,mo,es',by rw [hl];exact h1,h2,h3.mono hle⟩
theorem Inv.b_lt {P:Program} {base:Nat} {W:World} {ρ:Rho} {A:AS} {w:World} (h:Inv P base W ρ A w) {b:Nat} {y:Nat×Nat} (hb:ρ.b b=some y):b < A.blk.length:=by
 obtain ⟨x,d⟩:=y
 obtain ⟨k,hk,_⟩:=h.blk b x d hb
 exact (List.getElem?_eq_some_iff.1 hk).1
theorem Inv.b_none {P:Program} {base:Nat} {W:World} {ρ:Rho} {A:AS} {w:World} (h:Inv P base W ρ A w) {b:Nat} (hb:A.blk.length<=b):ρ.b b=none:=by
 cases q:ρ.b b with
 | none=>rfl
 | some y=>have:=h.b_lt q;omega
theorem Inv.m_none {P:Program} {base:Nat} {W:World} {ρ:Rho} {A:AS} {w:World} (h:Inv P base W ρ A w) {r:Nat} (hb:A.maps.length<=r):ρ.m r=none:=by
 cases q:ρ.m r with
 | none=>rfl
 | some y =>
  obtain ⟨_,mo,es',h1,_⟩:=h.map r y q
  have:=(List.getElem?_eq_some_iff.1 h1).1
  omega
theorem Inv.abs {P:Program} {base:Nat} {W:World} {ρ:Rho} {A A':AS} {w:World} (h:Inv P base W ρ A w)
 (hsame:∀ i k,ρ.b i≠none->A.blk[i]?=some k->A'.blk[i]?=some k) (hun:∀ i k1 f β,ρ.b i=none->A'.blk[i]?=some k1->k1.kind=.arr f β->f=i)
 (hm:∀ (r:Nat) mo,ρ.m r≠none->A.maps[r]?=some mo->A'.maps[r]?=some mo) (hi:∀ (r:Nat) mo,A.its[r]?=some mo->A'.its[r]?=some mo) (hl:∀ (r:Nat) mo,A.loops[r]?=some mo->A'.loops[r]?=some mo) :
 Inv P base W ρ A' w:=by
 have hsame':∀ i y e,ρ.b i=some (y,e)->∀ k1,A'.blk[i]?=some k1->A.blk[i]?=some k1:=by
  intro i y e he k1 hk1
  obtain ⟨k2,hk2,_⟩:=h.blk i y e he
  have:=hsame i k2 (by rw [he];simp) hk2
  rw [this]at hk1;cases hk1;exact hk2
 refine { os:=h.os,tape:=h.tape,output:=h.output,size:=h.size,old:=h.old,blk:=?_,inj:=?_,fam:=?_,own:=hun,map:=?_,minj:=h.minj,it:=?_,iinj:=h.iinj,lp:=?_,linj:=h.linj }
 . intro i y e he
   obtain ⟨k1,h1,h2,h3⟩:=h.blk i y e he
   exact ⟨k1,hsame i k1 (by rw [he];simp) h1,h2,h3⟩
 . intro b1 b2 y d1 d2 k1 k2 h1 h2 h3 h4
   exact h.inj b1 b2 y d1 d2 k1 k2 h1 h2 (hsame' _ _ _ h1 _ h3) (hsame' _ _ _ h2 _ h4)
 . intro b1 k1 f β y h1 h2 h3
   obtain ⟨y1,y2⟩:=y
   exact h.fam b1 k1 f β _ h1 (hsame' _ _ _ h1 _ h2) h3
 . intro r y hy
   obtain ⟨h0,mo,es',h1,h2,h3⟩:=h.map r y hy
   exact ⟨h0,mo,es',hm r mo (by rw [hy];simp) h1,h2,h3⟩
 . intro r y hy
   obtain ⟨h0,mo,es',h1,h2,h3⟩:=h.it r y hy
   exact ⟨h0,mo,es',hi r mo h1,h2,h3⟩
 . intro r y hy
   obtain ⟨h0,mo,es',h1,h2,h3⟩:=h.lp r y hy
   exact ⟨h0,mo,es',hl r mo h1,h2,h3⟩
theorem Ag0 {A:AS} {k:Blk} {i:Nat} {k1:Blk} (h:A.blk[i]?=some k1):(A.push k).blk[i]?=some k1:=by
 have hi:=(List.getElem?_eq_some_iff.1 h).1
 simp [AS.push,List.getElem?_append_left hi,h]
theorem Ae9 (A:AS) (k:Blk):(A.push k).blk[A.blk.length]?=some k:=by simp [AS.push]
theorem Aw0 {A:AS} {k:Blk} {i:Nat} {k1:Blk} (h:(A.push k).blk[i]?=some k1):A.blk[i]?=some k1∨(i=A.blk.length/\k1=k):=by
 simp only [AS.push]at h
 by_cases hi:i < A.blk.length
 . rw [List.getElem?_append_left hi]at h;exact .inl h
 . rw [List.getElem?_append_right (by omega)] at h
   have:i - A.blk.length=0:=by
    have:=(List.getElem?_eq_some_iff.1 h).1
    simp at this;omega
   rw [this]at h
   simp at h
   exact .inr ⟨by omega,h.symm⟩
theorem A48 {P:Program} {base:Nat} {W:World} {ρ:Rho} {A:AS} {w:World} (h:Inv P base W ρ A w) {k:Blk} {c:Array Value} {el:TypeId}
 (hlen:k.cells.length<=c.size) (hcell:∀ (i:Nat) v,k.cells[i]?=some v->∃ v',c[i]?=some v'/\VR ρ v v')
 (hro:k.kind≠.ro) (hfam:∀ f β,k.kind=.arr f β->f=A.blk.length∨(ρ.b f).isSome=true) :
 Adv P base W ρ A w (ρ.withB A.blk.length w.heap.size 0 c.size) (A.push k) (w.alloc (.cells c el)) /\
  (ρ.withB A.blk.length w.heap.size 0 c.size).b A.blk.length=some (w.heap.size,0)/\(ρ.withB A.blk.length w.heap.size 0 c.size).sz w.heap.size=c.size:=by
 have hbn:=h.b_none (Nat.le_refl A.blk.length)
 have hnone:∀ i d',ρ.b i≠some (w.heap.size,d'):=fun i d' q=>by have:=h.has_lt (.inl ⟨i,d',q⟩);omega
 have hI:=h.lay (A':=A.push k) (w':=w.alloc (.cells c el)) (b:=A.blk.length) (x:=w.heap.size) (d:=0) (k:=k) (c:=c) (el:=el) (fr:=(0,0)) hbn (Ae9 A k)
  (fun i k1 _ hk1=>Ag0 hk1) (fun i k1 f β hne hn hk1 hkd=>by
   rcases Aw0 hk1 with hq | ⟨hq,_⟩
   . exact h.own i k1 f β hn hq hkd
   . exact absurd hq hne) rfl rfl rfl (h.alloc _) (Ad3 _ _) (fun _=>.inl rfl) h.size (by simpa using hlen) (by simpa using hcell) hro
   (fun i d' q=>absurd q (hnone i d')) (fun b1 d1 k1 q=>absurd q (hnone b1 d1)) hfam
 refine ⟨⟨Rho.withB_le hbn (fun i d' q=>absurd q (hnone i d')),hI,.alloc ρ w _,⟨by simp [AS.push],Nat.le_refl _,fun b hb _=>?_,fun _ _ _=>rfl⟩,⟨fun i x d hi hn=>?_,fun i x hi hn=>?_,fun x hx hh=>?_⟩⟩,by simp [Rho.withB],by simp [Rho.withB]⟩
 . simp [AS.push,List.getElem?_append_left hb]
 . simp only [Rho.withB] at hi
   split at hi
   . omega
   . rw [hn]at hi;simp at hi
 . rw [show (ρ.withB A.blk.length w.heap.size 0 c.size).m i=ρ.m i from rfl,hn]at hi;simp at hi
 . rcases Rho.withB_has hh with hh | rfl
   . exact hh
   . omega
end Go.Sv
namespace Go.Sv
open Go
theorem AK1 {P:Program} {base:Nat} {W:World} {ρ:Rho} {A:AS} {w:World} (h:Inv P base W ρ A w) {b x d f β:Nat} {k:Blk} (lo hi:Nat)
 (hb:ρ.b b=some (x,d)) (hk:A.blk[b]?=some k) (hkd:k.kind=.arr f β):Adv P base W ρ A w ρ (A.poison f lo hi none) w:=by
 have hget:∀ i,(A.poison f lo hi none).blk[i]?=(A.blk[i]?).map (poisonBlk f lo hi):=fun i=>by
  rw [An1];cases A.blk[i]? <;> simp
 have kindSame:∀ (i:Nat) (k1:Blk),(A.poison f lo hi none).blk[i]?=some k1->∃ k0:Blk,A.blk[i]?=some k0/\k1.kind=k0.kind:=by
  intro i k1 hk1
  rw [hget]at hk1
  cases hq:A.blk[i]? with
  | none=>simp [hq]at hk1
  | some k0=>simp [hq]at hk1;subst hk1;exact ⟨k0,rfl,Ae2 _ _ _ _⟩
 refine ⟨.refl ρ,?_,.refl ρ w,⟨by rw [An2];exact Nat.le_refl _,Nat.le_refl _,fun b1 hb1 hn=>?_,fun _ _ _=>rfl⟩,.refl _ _ _⟩
 . refine { os := h.os, tape := h.tape, output := h.output, size := h.size, old := h.old, blk := ?_, inj := ?_, fam := ?_, own := ?_, map := h.map, minj := h.minj, it := h.it, iinj := h.iinj, lp := h.lp, linj := h.linj }
   . intro b1 x1 d1 hb1
     obtain ⟨k1,h1,h2,h3⟩:=h.blk b1 x1 d1 hb1
     exact ⟨_,by rw [hget,h1];rfl,h2.poison f lo hi,by rw [Ae2];exact h3⟩
   . intro b1 b2 y d1 d2 k1 k2 h1 h2 h3 h4
     obtain ⟨k1',e1,e2⟩:=kindSame b1 k1 h3
     obtain ⟨k2',e3,e4⟩:=kindSame b2 k2 h4
     rw [e2,e4]
     exact h.inj b1 b2 y d1 d2 k1' k2' h1 h2 e1 e3
   . intro b1 k1 f β y h1 h2 h3
     obtain ⟨k1',e1,e2⟩:=kindSame b1 k1 h2
     exact h.fam b1 k1' f β y h1 e1 (e2 ▸ h3)
   . intro b1 k1 f β h1 h2 h3
     obtain ⟨k1',e1,e2⟩:=kindSame b1 k1 h2
     exact h.own b1 k1' f β h1 e1 (e2 ▸ h3)
 . rw [hget]
   cases hq:A.blk[b1]? with
   | none=>rfl
   | some k1 =>
    have hfm:=h.fam b k f β _ hb hk hkd
    simp only [Option.map_some]
    congr 1
    unfold poisonBlk
    split
    . rename_i f1 β1 hk1
      have:=h.own b1 k1 f1 β1 hn hq hk1
      rw [if_neg]
      intro e
      rw [e]at this
      rw [this,hn]at hfm
      simp at hfm
    . rfl
theorem AZ7 {P:Program} {base:Nat} {W:World} {ρ:Rho} {A:AS} {w:World} (h:Inv P base W ρ A w) {x p:Nat} {vs':List Value} {c:Array Value} {el:TypeId} {fr:Nat×Nat}
 (hc:w.heap[x]?=some (.cells c el fr)) (hx:base<=x)
 (hun:∀ b1 d1 k1 i v,ρ.b b1=some (x,d1)->A.blk[b1]?=some k1->k1.cells[i]?=some v->p<=i+d1->i+d1 < p+vs'.length->v=.undef) :
 Inv P base W ρ A (w.setCells x p vs'):=by
 obtain ⟨c',hc',hsz',hget⟩:=Al4 x el fr vs' p w c hc
 obtain ⟨ho1,ho2,ho3⟩:=Au2 x vs' p w
 have hsize:=Ai8 x vs' p w
 refine { os:=ho1.trans h.os,tape:=ho2.trans h.tape,output:=ho3.trans h.output,size:=by rw [hsize];exact h.size,old:=?_,blk:=?_,inj:=h.inj,fam:=h.fam,own:=h.own,map:=?_,minj:=h.minj,it:=?_,iinj:=h.iinj,lp:=?_,linj:=h.linj }
 . intro i hi
   rw [Ab4 x vs' p w (by omega)];exact h.old i hi
 . intro b1 x1 d1 hb1
   obtain ⟨k1,h1,h2,h3⟩:=h.blk b1 x1 d1 hb1
   refine ⟨k1,h1,?_,h3⟩
   by_cases hxx:x1=x
   . subst hxx
     obtain ⟨c1,el1,fr1,hc1,hsz1,hfr1,hcl1,hcell1⟩:=h2.row
     rw [hc]at hc1;cases hc1
     refine ⟨c',el,fr,hc',by rw [hsz',hsz1],by rw [hsz'];exact hfr1,by rw [hsz'];exact hcl1,fun i v hv=>?_⟩
     by_cases hin:p<=i+d1/\i+d1 < p+vs'.length
     . have := hun b1 d1 k1 i v hb1 h1 hv hin.1 hin.2
       subst this
       have hi1:=(List.getElem?_eq_some_iff.1 hv).1
       have hi2:i+d1 < c'.size:=by omega
       exact ⟨c'[i+d1],Array.getElem?_eq_getElem hi2,.undef _⟩
     . rw [hget, if_neg (by omega)]
       exact hcell1 i v hv
   . exact h2.world (Ab4 x vs' p w hxx)
 . intro r y hy
   obtain ⟨h0,mo,es',h1,h2,h3⟩:=h.map r y hy
   exact ⟨h0,mo,es',h1,by rw [Ab4 x vs' p w (fun e=>by subst e;rw [hc]at h2;simp at h2)];exact h2,h3⟩
 . intro r y hy
   obtain ⟨h0,mo,es',h1,h2,h3⟩:=h.it r y hy
   exact ⟨h0,mo,es',h1,by rw [Ab4 x vs' p w (fun e=>by subst e;rw [hc]at h2;simp at h2)];exact h2,h3⟩
 . intro r y hy
   obtain ⟨h0,mo,es',h1,h2,h3⟩:=h.lp r y hy
   exact ⟨h0,mo,es',h1,by rw [Ab4 x vs' p w (fun e=>by subst e;rw [hc]at h2;simp at h2)];exact h2,h3⟩
theorem Ap1 {P:Program} {t:TypeId} {n:Nat} {zc:List V} (hs:szT P t=some n) (hz:(zeroT P t).bind V.cells=some zc) :
 ∃ i z,P.info? t=some i/\i.zero=some z/\i.size=n/\(∀ ρ,VRs ρ zc z.cells.toList):=by
 unfold szT at hs
 unfold zeroT at hz
 cases hi:P.info? t with
 | none=>simp [hi]at hs
 | some i =>
  simp [hi]at hs hz
  cases hzz:i.zero with
  | none=>simp [hzz]at hz
  | some z =>
   simp [hzz]at hz
   cases hv:ofVal z with
   | none=>simp [hv]at hz
   | some q =>
    simp [hv]at hz
    exact ⟨i,z,rfl,hzz,hs,fun ρ=>(AN6 (ρ:=ρ) hv).cells hz⟩
theorem VRs.all_one {ρ:Rho} {cs:List V} {cs':List Value} (h:VRs ρ cs cs') (h1:cs.all V.one=true):∀ u∈cs',u.oneCell'=true:=by
 intro u hu
 obtain ⟨i,hi1,hi2⟩:=List.getElem_of_mem hu
 have hi':i < cs.length:=by rw [h.len];exact hi1
 exact (h.at_ i cs[i] u (List.getElem?_eq_getElem hi') (by rw [List.getElem?_eq_getElem hi1,hi2])).one (List.all_eq_true.1 h1 _ (List.getElem_mem hi'))
theorem At5 (z:Array Value) (n:Nat):(Builtin.zeroCells z n).size=n * z.size:=by simp [Builtin.zeroCells]
theorem AN8 (ρ:Rho) (s:ByteArray):VRs ρ (s.data.toList.map fun u=>.int .u8 (u.toNat:Int)) (byteCells s) :=
 ⟨by simp [byteCells],fun i v v' h1 h2=>by
  simp only [byteCells,List.getElem?_map]at h1 h2
  cases hq:s.data.toList[i]? with
  | none=>simp [hq]at h1
  | some u=>simp only [hq,Option.map_some,Option.some.injEq]at h1 h2;subst h1;subst h2;exact .int _ _⟩
def srcV (P:Program) (tx:TypeId) (sz:Nat) (x:V) (A:AS):Option (Nat×List V) :=
 match x with
 | .snil=>match P.underlying tx with
  | some (.slice _)=>some (0,[])
  | _=>none
 | .sl b o n sz'=>match P.underlying tx with
  | some (.slice _)=>if sz'=sz then (A.range b o (n * sz)).map fun cs=>(n,cs) else none
  | _=>none
 | .str b=>match P.underlying tx with
  | some .string=>if sz=1 then some (b.length,b.map fun u=>.int .u8 u.toNat) else none
  | _=>none
 | _=>none
theorem BC8 {P:Program} {base:Nat} {W:World} {ρ:Rho} {A:AS} {w:World} (h:Inv P base W ρ A w) {tx:TypeId} {sz:Nat} {x:V} {x':Value} {n:Nat} {new:List V}
 (hx:VR ρ x x') (hs:srcV P tx sz x A=some (n,new)) (h1:new.all V.one=true):∃ news,Src P sz tx x' n news w/\VRs ρ new news:=by
 unfold srcV at hs
 split at hs
 . split at hs
   . rename_i e hk
     simp at hs
     obtain ⟨rfl,rfl⟩:=hs
     cases hx
     exact ⟨[],.ofNil w hk 0,.nil _⟩
   . simp at hs
 . rename_i b o n' sz'
   split at hs
   . rename_i e hk
     split at hs
     . rename_i hsz
       subst hsz
       cases hr:A.range b o (n' * sz') with
       | none=>simp [hr]at hs
       | some cs =>
        simp [hr]at hs
        obtain ⟨rfl,rfl⟩:=hs
        cases hx with
        | sl hb hn hc =>
         obtain ⟨cs',h2,h3,h4⟩:=Am9 h hb hr
         exact ⟨cs',.ofSlice w hk _ _ _ cs' h3 (fun j u hu=>by rw [Addr.add_lit];exact h4 j u hu) (h2.all_one h1),h2⟩
        | slz o sz a hbz =>
         obtain ⟨k,hk',_,rfl,hlen⟩:=Af9 hr
         have hnil:List.take (0 * sz') (List.drop o k.cells)=[]:=by simp
         refine ⟨[],.ofSlice w hk _ _ _ [] (by simp) (fun j u hu=>by simp at hu) (fun u hu=>by cases hu),by rw [hnil];exact .nil _⟩
     . simp at hs
   . simp at hs
 . rename_i b
   split at hs
   . rename_i hk
     split at hs
     . rename_i hsz
       simp at hs
       obtain ⟨rfl,rfl⟩:=hs
       subst hsz
       obtain ⟨s',rfl,rfl⟩:=hx.str_inv
       refine ⟨byteCells s',?_,AN8 ρ s'⟩
       have:=Src.ofString (P:=P) w hk s'
       have e:s'.data.toList.length=s'.size:=by rw [Array.length_toList];rfl
       rw [e];exact this
     . simp at hs
   . simp at hs
 . simp at hs
theorem Au3 (P:Program) (t tx:TypeId) (s x:V) (A:AS):evAppend P t tx s x A =
 match P.underlying t with
 | some (.slice e) =>
  match szT P e,bytesT P e,(zeroT P e).bind V.cells with
  | some (z+1),some by_,some zc =>
   if zc.length≠z+1 then none else
   match srcV P tx (z+1) x A with
   | none=>none
   | some (n,new) =>
    if new.all V.one then
     match s with
     | .snil=>if n=0 then some (.snil,A) else if n * by_<=140737488355328/\n<=4611686018427387903 then
      some (.sl A.blk.length 0 n (z+1),A.push ⟨new,.arr A.blk.length 0⟩) else none
     | .sl b o len sz' =>
      if sz'≠z+1 then none else if n=0 then some (.sl b o len (z+1),A) else
      match A.blk[b]?,A.range b o (len * (z+1)) with
      | some k,some old =>
       match k.kind with
       | .arr fam base =>
        if old.all V.one/\(len+n) * by_<=140737488355328/\len+n<=4611686018427387903 then
         some (.sl A.blk.length 0 (len+n) (z+1),
          (A.poison fam (base+o+len * (z+1)) (base+o+(len+n) * (z+1)) none).push ⟨old++new,.arr fam (base+o)⟩)
        else none
       | _=>none
      | _,_=>none
     | _=>none
    else none
  | _,_,_=>none
 | _=>none:=rfl
set_option maxHeartbeats 1000000 in
theorem AN9 {P:Program} {base:Nat} {W:World} {ρ:Rho} {A A':AS} {w:World} (h:Inv P base W ρ A w) {t tx ty:TypeId} {s x v:V} {s' x':Value}
 (hs:VR ρ s s') (hx:VR ρ x x') (hv:evAppend P t tx s x A=some (v,A')) :
 ∃ ρ' v' w',(Builtin.append_ #[t,tx] ty #[s',x']).run P w=.ok v' w'/\Adv P base W ρ A w ρ' A' w'/\VR ρ' v v':=by
 rw [Au3]at hv
 split at hv
 case h_2=>simp at hv
 rename_i e ht
 split at hv
 case h_2=>simp at hv
 rename_i z by_ zc hsz hby hzc
 split at hv
 case isTrue=>simp at hv
 rename_i hzl
 have hzl:zc.length=z+1:=by omega
 obtain ⟨i,zv,hi,hiz,his,hzr⟩:=Ap1 hsz hzc
 have his:i.size=z+1:=his
 have hib:i.bytes=by_:=by simpa [bytesT,hi] using hby
 have hzs:zv.cells.size=z+1:=by have:=(hzr ρ).len;simp at this;omega
 split at hv
 case h_1=>simp at hv
 rename_i n new hsrc
 split at hv
 case isFalse=>simp at hv
 rename_i hone
 obtain ⟨news,hS,hnew⟩:=BC8 h hx hsrc hone
 have hnl:=hS.newsLen
 have hnl':new.length=n * (z+1):=by rw [hnew.len,hnl]
 rw [<- his]at hS
 split at hv
 ·
  cases hs
  split at hv
  . rename_i hn0
    simp at hv;obtain ⟨rfl,rfl⟩:=hv
    subst hn0
    have hne:news=[]:=List.length_eq_zero_iff.1 (by simpa using hnl)
    rw [hne]at hS
    exact ⟨ρ,_,w,run_append_nothing w t tx ty e i ht hi none 0 0 (Nat.le_refl _) x' hS,.refl h,.snil⟩
  . rename_i hn0
    split at hv
    case isFalse=>simp at hv
    rename_i hb
    simp at hv;obtain ⟨rfl,rfl⟩:=hv
    have hrun:=run_append_grow_src (P:=P) w t tx ty e i zv ht hi hiz none 0 0 [] (run_firstCells_none (P:=P) w.drew i.size 0 0 0) x' n news hS (by omega) (by omega)
     (growslice_fits (by omega) (by rw [hib];simpa using hb.1))
    have hge:=grownCap_ge w (0+n) 0 e
    generalize hg:grownCap w (0+n) 0 e=cap at *
    have hcsz:((([]:List Value)++news).toArray++Builtin.zeroCells zv.cells (cap - (0+n))).size=cap * (z+1):=by
     rw [Array.size_append,At5,hzs]
     simp only [List.nil_append,List.size_toArray,hnl]
     rw [<- Nat.add_mul];congr 1;omega
    obtain ⟨h1,h2,h3⟩:=A48 (h.drew) (k:=⟨new,.arr A.blk.length 0⟩) (c:=(([]:List Value)++news).toArray++Builtin.zeroCells zv.cells (cap - (0+n))) (el:=e)
     (by
      show new.length<=_
      rw [hcsz,hnl'];exact Nat.mul_le_mul_right _ (by omega))
     (fun j u hu=>by
      obtain ⟨u',e1,e2⟩:=hnew.getElem? hu
      refine ⟨u',?_,e2⟩
      have hj:j < news.length:=(List.getElem?_eq_some_iff.1 e1).1
      rw [Array.getElem?_append_left (by simpa using hj)]
      simpa using e1) (by simp) (fun f β hk=>by simp at hk;exact .inl hk.1.symm)
    have hV:=VR.sl (n:=0+n) (sz:=z+1) (cap:=cap) (o:=0) h2 hge (by rw [h3,hcsz];simp)
    exact ⟨_,_,_,hrun,Adv.trans ⟨.refl ρ,h.drew,.drew ρ w,.refl _ _,.refl _ _ _⟩ h1,by simpa using hV⟩
 ·
  rename_i b o len sz'
  split at hv
  case isTrue=>simp at hv
  rename_i hsz'
  have hsz':sz'=z+1:=by omega
  subst hsz'
  split at hv
  . rename_i hn0
    simp at hv;obtain ⟨rfl,rfl⟩:=hv
    subst hn0
    have hne:news=[]:=List.length_eq_zero_iff.1 (by simpa using hnl)
    rw [hne]at hS
    cases hs with
    | sl hb hn hc=>exact ⟨ρ,_,w,run_append_nothing w t tx ty e i ht hi _ _ _ hn x' hS,.refl h,.sl hb hn hc⟩
    | slz o sz a hbz=>exact ⟨ρ,_,w,run_append_nothing w t tx ty e i ht hi _ _ _ (Nat.le_refl _) x' hS,.refl h,.slz _ _ _ hbz⟩
  . rename_i hn0
    split at hv
    case h_2=>simp at hv
    rename_i k old hk hr
    split at hv
    case h_2=>simp at hv
    rename_i fam β hkd
    split at hv
    case isFalse=>simp at hv
    rename_i hcond
    obtain ⟨hold1,hbytes,hmax⟩:=hcond
    simp at hv;obtain ⟨rfl,rfl⟩:=hv
    have grow:∀ (ao:Option Addr) (cap0:Nat) (olds:List Value),VRs ρ old olds->olds.length=len * (z+1)->cap0 < len+n ->
     ((Builtin.firstCells i.size len (.slice ao len cap0)).run P w.drew=.ok olds.toArray w.drew)->(∀ x' d',ρ.b b=some (x',d')->True)->(ρ.b fam).isSome=true->(∃ y,ρ.b b=some y) ->
     ∃ ρ' v' w',(Builtin.append_ #[t,tx] ty #[.slice ao len cap0,x']).run P w=.ok v' w' /\
      Adv P base W ρ A w ρ' ((A.poison fam (β+o+len * (z+1)) (β+o+(len+n) * (z+1)) none).push ⟨old++new,.arr fam (β+o)⟩) w' /\
      VR ρ' (.sl A.blk.length 0 (len+n) (z+1)) v':=by
     intro ao cap0 olds hor hol hcap hfc _ hfs hbs
     have hrun:=run_append_grow_src (P:=P) w t tx ty e i zv ht hi hiz ao len cap0 olds hfc x' n news hS hcap (by omega) (growslice_fits hcap (by rw [hib];exact hbytes))
     have hge:=grownCap_ge w (len+n) cap0 e
     generalize hg:grownCap w (len+n) cap0 e=cap at *
     have hcsz:((olds++news).toArray++Builtin.zeroCells zv.cells (cap - (len+n))).size=cap * (z+1):=by
      rw [Array.size_append,At5,hzs]
      simp only [List.size_toArray,List.length_append,hnl,hol]
      rw [<- Nat.add_mul,<- Nat.add_mul];congr 1;omega
     obtain ⟨⟨xb,db⟩,hbb⟩:=hbs
     have hp:=AK1 h (β+o+len * (z+1)) (β+o+(len+n) * (z+1)) hbb hk hkd
     obtain ⟨h1,h2,h3⟩:=A48 (hp.inv.drew) (k:=⟨old++new,.arr fam (β+o)⟩) (c:=(olds++news).toArray++Builtin.zeroCells zv.cells (cap - (len+n))) (el:=e)
      (by
       show (old++new).length<=_
       rw [hcsz,List.length_append,hor.len,hol,hnl',<- Nat.add_mul];exact Nat.mul_le_mul_right _ hge)
      (fun j u hu=>by
       obtain ⟨u',e1,e2⟩:=(hor.append hnew).getElem? hu
       refine ⟨u',?_,e2⟩
       have hj:j < (olds++news).length:=(List.getElem?_eq_some_iff.1 e1).1
       rw [Array.getElem?_append_left (by simpa using hj)]
       simpa using e1) (by simp) (fun f β' hk'=>by simp at hk';rw [<- hk'.1];exact .inr hfs)
     rw [An2]at h1 h2 h3
     have hV:=VR.sl (n:=len+n) (sz:=z+1) (cap:=cap) (o:=0) h2 hge (by rw [h3,hcsz];simp)
     exact ⟨_,_,_,hrun,Adv.trans hp (Adv.trans ⟨.refl ρ,hp.inv.drew,.drew ρ w,.refl _ _,.refl _ _ _⟩ h1),by simpa using hV⟩
    cases hs with
    | slz o sz a hbz =>
     have hol:old=[]:=by
      obtain ⟨k',_,_,rfl,hl⟩:=Af9 hr
      simp
     subst hol
     exact grow _ _ [] (.nil _) (by simp) (by omega) (run_firstCells_some w.drew i.size 0 a 0 0 [] (by simp) (fun j u hu=>by simp at hu)) (fun _ _ _=>trivial) (h.fam b k fam β _ hbz hk hkd) ⟨_,hbz⟩
    | sl hb hn hc =>
     rename_i xb db cap0
     have hfs:=h.fam b k fam β _ hb hk hkd
     obtain ⟨olds,ho1,ho2,ho3⟩:=Am9 h hb hr
     by_cases hroom:len+n<=cap0
     ·
      obtain ⟨k',hk',hrow,hbase⟩:=h.blk b xb db hb
      rw [hk]at hk';cases hk'
      have hbx:base<=xb:=hbase (by rw [hkd];simp)
      obtain ⟨c,el,fr,hcc,hcs,hfr,hcl,hcell⟩:=hrow.row
      have hsp:o+db+(len+n) * (z+1)<=c.size:=by
       have:=Nat.mul_le_mul_right (z+1) hroom
       omega
      rw [Nat.add_mul]at hsp
      have hrun:=run_append_room_src (P:=P) w t tx ty e i ht hi xb (o+db) len cap0 x' n news hS hroom
       (fun j hj=>by rw [his,Af8 hcc,Array.getElem?_eq_getElem (by omega)];rfl)
       (fun j hj=>by rw [his,At4 hcc];exact decide_eq_false ((hfr (by rw [hkd];simp)).not _ (by omega)))
      rw [his]at hrun
      have hp:=AK1 h (β+o+len * (z+1)) (β+o+(len+n) * (z+1)) hb hk hkd
      have hI:=AZ7 hp.inv (p:=o+db+len * (z+1)) (vs':=news) hcc hbx (fun b1 d1 k1 j u hb1 hk1 hu h1 h2=>by
       rw [An1]at hk1
       cases hq:A.blk[b1]? with
       | none=>simp [hq]at hk1
       | some k0 =>
        simp [hq]at hk1
        subst hk1
        rcases h.inj b b1 xb db d1 k k0 hb hb1 hk hq with e' | ⟨e',_⟩ | ⟨f,β1,β2,e1,e2,e3⟩
        . subst e'
          rw [hb]at hb1;cases hb1
          rw [hk]at hq;cases hq
          rcases Al3 _ _ _ _ hu with rfl | ⟨_,hnot⟩
          . rfl
          . have := hnot β hkd
            rw [Nat.add_mul]at this
            omega
        . rw [hkd]at e';simp at e'
        . rw [hkd] at e1; cases e1
          rcases Al3 _ _ _ _ hu with rfl | ⟨_,hnot⟩
          . rfl
          . have := hnot β2 e2
            rw [Nat.add_mul]at this
            omega)
      have hlenA:(A.poison fam (β+o+len * (z+1)) (β+o+(len+n) * (z+1)) none).blk.length=A.blk.length:=An2 _ _ _ _ _
      obtain ⟨c',hc',hsz',hget⟩:=Al4 xb el fr news (o+db+len * (z+1)) w c hcc
      have hlay:=hI.lay (A':=(A.poison fam (β+o+len * (z+1)) (β+o+(len+n) * (z+1)) none).push ⟨old++new,.arr fam (β+o)⟩)
       (w':=w.setCells xb (o+db+len * (z+1)) news) (b:=A.blk.length) (x:=xb) (d:=o+db) (k:=⟨old++new,.arr fam (β+o)⟩) (c:=c') (el:=el) (fr:=fr)
       (h.b_none (Nat.le_refl _)) (by rw [<- hlenA];exact Ae9 _ _) (fun i k1 _ hk1=>Ag0 hk1)
       (fun i k1 f β' hne hn' hk1 hkd1=>by
        rcases Aw0 hk1 with hq | ⟨hq,_⟩
        . exact hp.inv.own i k1 f β' hn' hq hkd1
        . rw [hlenA]at hq;exact absurd hq hne) rfl rfl rfl hI hc' (fun _=>by rw [hsz'];exact hfr (by rw [hkd];simp)) hbx
       (by
        show (old++new).length+(o+db)<=c'.size
        rw [List.length_append,ho1.len,ho2,hnl',hsz'];omega)
       (fun j u hu=>by
        rw [hget]
        obtain ⟨u',e1,e2⟩:=(ho1.append hnew).getElem? hu
        have hj:j < (olds++news).length:=(List.getElem?_eq_some_iff.1 e1).1
        rw [List.length_append,ho2,hnl]at hj
        by_cases hjo:j < len * (z+1)
        . rw [if_neg (by omega)]
          rw [List.getElem?_append_left (by omega)]at e1
          have:=ho3 j u' e1
          rw [Af8 hcc]at this
          exact ⟨u',by rw [<- this];congr 1;omega,e2⟩
        . rw [if_pos ⟨by omega, by omega, by omega⟩]
          rw [List.getElem?_append_right (by omega),ho2]at e1
          exact ⟨u',by rw [<- e1];congr 1;omega,e2⟩)
       (by simp) (fun i' d' q=>by
        obtain ⟨k9,_,hr9,_⟩:=h.blk i' xb d' q
        obtain ⟨c9,_,_,hc9,hs9,_⟩:=hr9.row
        rw [hcc]at hc9;cases hc9
        rw [hsz',hs9])
       (fun b1 d1 k1 hb1 hk1=>by
        rw [An1]at hk1
        cases hq:A.blk[b1]? with
        | none=>simp [hq]at hk1
        | some k0 =>
         simp [hq]at hk1
         subst hk1
         rw [Ae2]
         rcases h.inj b b1 xb db d1 k k0 hb hb1 hk hq with e' | ⟨e',_⟩ | ⟨f,β1,β2,e1,e2,e3⟩
         . subst e'
           rw [hb]at hb1;cases hb1
           rw [hk]at hq;cases hq
           exact ⟨fam,β,β+o,hkd,rfl,by omega⟩
         . rw [hkd]at e';simp at e'
         . rw [hkd] at e1; cases e1
           exact ⟨fam,β2,β+o,e2,rfl,by omega⟩)
       (fun f β' hk'=>by simp at hk';rw [<- hk'.1];exact .inr hfs)
      have hxhas:ρ.has xb:=.inl ⟨b,db,hb⟩
      have hszx:∀ i' d',ρ.b i'=some (xb,d')->ρ.sz xb=c'.size:=fun i' d' q=>by rw [hsz',hcs]
      refine ⟨ρ.withB A.blk.length xb (o+db) c'.size,_,_,hrun,⟨Rho.withB_le (h.b_none (Nat.le_refl _)) hszx,hlay,⟨by rw [Ai8];exact Nat.le_refl _,fun i' hi' hn'=>Ab4 xb news _ w (fun e'=>hn' (e' ▸ hxhas))⟩,?_,?_⟩,?_⟩
      . refine ⟨by simp [AS.push, An2], Nat.le_refl _, fun b1 hb1 hn1 => ?_, fun _ _ _ => rfl⟩
        rw [<- hp.fa.blk b1 hb1 hn1]
        exact List.getElem?_append_left (by rw [hlenA];exact hb1)
      . refine ⟨fun i' x1 d1 hi' hn' => ?_, fun i' x1 hi' hn' => ?_, fun x1 hx1 hh => ?_⟩
        . simp only [Rho.withB] at hi'
          split at hi'
          . omega
          . rw [hn']at hi';simp at hi'
        . rw [show (ρ.withB A.blk.length xb (o+db) c'.size).m i'=ρ.m i' from rfl,hn']at hi';simp at hi'
        . rcases Rho.withB_has hh with hh | rfl
          . exact hh
          . exact hxhas
      . have hb2 : (ρ.withB A.blk.length xb (o + db) c'.size).b A.blk.length = some (xb, o + db) := by simp [Rho.withB]
        have:=VR.sl (n:=len+n) (sz:=z+1) (cap:=cap0) (o:=0) hb2 hroom (by
         show _<=(ρ.withB A.blk.length xb (o+db) c'.size).sz xb
         simp only [Rho.withB,if_true]
         rw [hsz',hcs];omega)
        simpa using this
     . have hfc : (Builtin.firstCells i.size len (.slice (some ⟨xb, o + db, none⟩) len cap0)).run P w.drew = .ok olds.toArray w.drew := by
        exact run_firstCells_some w.drew i.size len ⟨xb,o+db,none⟩ len cap0 olds (by rw [ho2,his]) (fun j u hu=>by rw [Addr.add_lit];exact ho3 j u hu)
       exact grow _ _ olds ho1 ho2 (by omega) hfc (fun _ _ _=>trivial) hfs ⟨_,hb⟩
 . simp at hv
end Go.Sv
namespace Go.Sv
open Go
def V.toVal:V->Value
 | .bool b=>.bool b
 | .int k n=>.int k n
 | .str s=>.string ⟨s.toArray⟩
 | _=>Go.undef
theorem VR.toVal {ρ:Rho} {v:V} {v':Value} (h:VR ρ v v') (hf:v.flat=true):v'=v.toVal:=by
 cases h <;> simp_all [V.flat,V.toVal]
theorem CK.fits_flat {c:CK} {v:V} (h:c.fits v=true):v.flat=true:=by
 cases c <;> cases v <;> simp_all [CK.fits,V.flat]
theorem Ab9:∀ {sh:List CK} {xs:List V},fitsAll sh xs=true->xs.length=sh.length
 | [],[],_=>rfl
 | [],_::_,h=>by simp [fitsAll]at h
 | _::_,[],h=>by simp [fitsAll]at h
 | c::cs,v::vs,h=>by simp [fitsAll]at h;simp [Ab9 h.2]
theorem Al5:∀ {sh:List CK} {xs:List V},fitsAll sh xs=true->∀ x∈xs,x.flat=true
 | [],[],_,_,h=>by cases h
 | [],_::_,h,_,_=>by simp [fitsAll]at h
 | _::_,[],h,_,_=>by simp [fitsAll]at h
 | c::cs,v::vs,h,x,hx=>by
  simp [fitsAll]at h
  cases hx with
  | head=>exact CK.fits_flat h.1
  | tail _ hm=>exact Al5 h.2 x hm
theorem VRs.toVal {ρ:Rho}:∀ {xs:List V} {xs':List Value},VRs ρ xs xs'->(∀ x∈xs,x.flat=true)->xs'=xs.map V.toVal
 | [],xs',h,_=>h.nil_inv
 | x::xs,xs',h,hf=>by
  obtain ⟨v',r',rfl,h1,h2⟩:=h.cons_inv
  rw [h1.toVal (hf x (by simp)),VRs.toVal h2 (fun y hy=>hf y (by simp [hy]))]
  rfl
theorem Ad4:∀ {a b:List CK} {xs:List V},fitsAll (a++b) xs=true->fitsAll a (xs.take a.length)=true/\fitsAll b (xs.drop a.length)=true
 | [],b,xs,h=>by simpa [fitsAll] using h
 | c::a,b,[],h=>by simp [fitsAll]at h
 | c::a,b,x::xs,h=>by
  simp [fitsAll]at h
  have:=Ad4 h.2
  simp [fitsAll,h.1,this]
theorem Al9:∀ {a b c d:List V},a.length=c.length->eqFlats (a++b) (c++d)=(eqFlats a c && eqFlats b d)
 | [],b,[],d,_=>by simp [eqFlats]
 | [],_,_::_,_,h=>by simp at h
 | _::_,_,[],_,h=>by simp at h
 | x::a,b,y::c,d,h=>by
  simp at h
  simp [eqFlats,Al9 h,Bool.and_assoc]
theorem Az1 {c:CK} {xs:List V} (h:fitsAll [c] xs=true):∃ v,xs=[v]/\c.fits v=true:=by
 match xs,h with
 | [v],h=>simp [fitsAll]at h;exact ⟨v,rfl,h⟩
 | [],h=>simp [fitsAll]at h
 | _::_::_,h=>simp [fitsAll]at h
theorem Aw1 {v:V} (h:CK.bool.fits v=true):∃ b,v=.bool b:=by cases v <;> simp_all [CK.fits]
theorem AC5 {k:IntKind} {v:V} (h:(CK.int k).fits v=true):∃ n,v=.int k n:=by cases v <;> simp_all [CK.fits]
theorem AC6 {v:V} (h:CK.str.fits v=true):∃ b,v=.str b:=by cases v <;> simp_all [CK.fits]
def packV (P:Program) (t:TypeId) (vs:List Value):Value:=if aggT P t=some true then .agg vs.toArray else vs.headD Go.undef
theorem Bh0 {P:Program} {d:Nat} {t:TypeId} {sh:List CK} (h:shapeT P d t=some sh):(aggT P t=some true)∨(aggT P t=some false/\sh.length=1):=by
 cases d with
 | zero=>simp [shapeT]at h
 | succ d =>
  unfold shapeT at h
  unfold aggT
  cases hu:P.underlying t with
  | none=>simp [hu]at h
  | some k =>
   cases k <;> simp [hu]at h ⊢
   all_goals (subst h;rfl)
theorem Ae3 {P:Program} {d:Nat} {e:TypeId} {sh:List CK} (hs:shapeT P d e=some sh) (hn:szT P e=some sh.length) {xs:Array Value} {off:Nat} (hl:off+sh.length<=xs.size) (w:World) :
 (part e xs off).run P w=.ok (packV P e ((xs.toList.drop off).take sh.length)) w:=by
 rcases Bh0 hs with ha | ⟨ha,h1⟩
 . simp only [part, Sem.run_bind, An0 ha, Result.andThen_ok, if_true, Ab1 hn, Sem.run_pure]
   unfold packV
   rw [if_pos ha]
   congr 2
   apply Array.ext'
   simp
 . have hlt : off < xs.size := by omega
   simp only [part,Sem.run_bind,An0 ha,Result.andThen_ok,Bool.false_eq_true,if_false,Array.getElem?_eq_getElem hlt,Sem.run_pure]
   unfold packV
   rw [if_neg (by rw [ha];simp),h1]
   congr 1
   rw [List.drop_eq_getElem_cons (by simpa using hlt)]
   simp
theorem Ai9 (l:List V) (a b:Nat):((l.map V.toVal).drop a).take b=((l.drop a).take b).map V.toVal:=by
 rw [List.map_take,List.map_drop]
theorem Bh1 {P:Program} {t:TypeId} {n:Nat} (h:szT P t=some n):∃ i,P.info? t=some i/\P.cellsOf t=n:=by
 unfold szT at h
 cases hi:P.info? t with
 | none=>simp [hi]at h
 | some i=>simp [hi]at h;exact ⟨i,rfl,by simp [Program.cellsOf,hi,h]⟩
def EqShape (P:Program) (D:Nat) (t:TypeId) (sh:List CK):Prop :=
 ∀ (w:World) (xs ys:List V),fitsAll sh xs=true->fitsAll sh ys=true ->
  (Op.equalIn D t (packV P t (xs.map V.toVal)) (packV P t (ys.map V.toVal))).run P w=.ok (eqFlats xs ys) w
theorem Aw2 {P:Program} {D:Nat} {e:TypeId} {sh:List CK} {d:Nat} (hs:shapeT P d e=some sh) (hn:szT P e=some sh.length) (ih:EqShape P D e sh) (w:World) (xs ys:List V) :
 ∀ (n k:Nat),fitsAll (List.replicate n sh).flatten (xs.drop (k * sh.length))=true->fitsAll (List.replicate n sh).flatten (ys.drop (k * sh.length))=true ->
  (Op.eqItems D e sh.length (xs.map V.toVal).toArray (ys.map V.toVal).toArray (List.range' k n)).run P w=.ok (eqFlats (xs.drop (k * sh.length)) (ys.drop (k * sh.length))) w
 | 0,k,hx,hy=>by
  have e1:xs.drop (k * sh.length)=[]:=List.length_eq_zero_iff.1 (by have:=Ab9 hx;simpa using this)
  have e2:ys.drop (k * sh.length)=[]:=List.length_eq_zero_iff.1 (by have:=Ab9 hy;simpa using this)
  simp [Op.eqItems,e1,e2,eqFlats]
 | n+1,k,hx,hy=>by
  rw [List.replicate_succ,List.flatten_cons]at hx hy
  obtain ⟨hx1,hx2⟩:=Ad4 hx
  obtain ⟨hy1,hy2⟩:=Ad4 hy
  have lx:=Ab9 hx
  have ly:=Ab9 hy
  simp only [List.length_append,List.length_drop]at lx ly
  rw [List.drop_drop]at hx2 hy2
  rw [show k * sh.length+sh.length=(k+1) * sh.length by rw [Nat.add_mul];omega]at hx2 hy2
  have IH:=Aw2 hs hn ih w xs ys n (k+1) hx2 hy2
  have hlx:k * sh.length+sh.length<=xs.length:=by
   rcases Nat.eq_zero_or_pos sh.length with h0 | h0
   . rw [h0];simp
   . omega
  have hly:k * sh.length+sh.length<=ys.length:=by
   rcases Nat.eq_zero_or_pos sh.length with h0 | h0
   . rw [h0];simp
   . omega
  have p1:=Ae3 hs hn (xs:=(xs.map V.toVal).toArray) (off:=k * sh.length) (by simpa using hlx) w
  have p2:=Ae3 hs hn (xs:=(ys.map V.toVal).toArray) (off:=k * sh.length) (by simpa using hly) w
  simp only []at p1 p2
  rw [Ai9]at p1 p2
  have p3:=ih w _ _ hx1 hy1
  rw [List.range'_succ]
  simp only [Op.eqItems,Sem.run_bind,p1,p2,Result.andThen_ok,p3]
  have split:∀ (l:List V),l.drop (k * sh.length)=(l.drop (k * sh.length)).take sh.length++l.drop ((k+1) * sh.length):=fun l=>by
   conv=>lhs;rw [<- List.take_append_drop sh.length (l.drop (k * sh.length))]
   rw [List.drop_drop,show k * sh.length+sh.length=(k+1) * sh.length by rw [Nat.add_mul];omega]
  have hE:eqFlats (xs.drop (k * sh.length)) (ys.drop (k * sh.length))=(eqFlats ((xs.drop (k * sh.length)).take sh.length) ((ys.drop (k * sh.length)).take sh.length) && eqFlats (xs.drop ((k+1) * sh.length)) (ys.drop ((k+1) * sh.length))):=by
   conv=>lhs;rw [split xs,split ys]
   rw [Al9 (by rw [Ab9 hx1,Ab9 hy1])]
  rw [hE]
  cases hb:eqFlats ((xs.drop (k * sh.length)).take sh.length) ((ys.drop (k * sh.length)).take sh.length)
  . simp
  . simp [IH]
theorem At6 {P:Program} {D d:Nat} (ih:∀ t sh,shapeT P d t=some sh->EqShape P D t sh) (w:World) (xs ys:List V) :
 ∀ (fs:List Field) (k:Nat) (sh:List CK),shapeFieldsW P (shapeT P d) k fs=some sh->fitsAll sh (xs.drop k)=true->fitsAll sh (ys.drop k)=true ->
  (Op.eqFields D (xs.map V.toVal).toArray (ys.map V.toVal).toArray fs).run P w=.ok (eqFlats (xs.drop k) (ys.drop k)) w
 | [],k,sh,hs,hx,hy=>by
  simp [shapeFieldsW]at hs
  subst hs
  have e1:xs.drop k=[]:=List.length_eq_zero_iff.1 (by have:=Ab9 hx;simpa using this)
  have e2:ys.drop k=[]:=List.length_eq_zero_iff.1 (by have:=Ab9 hy;simpa using this)
  simp [Op.eqFields,e1,e2,eqFlats]
 | f::fs,k,sh,hs,hx,hy=>by
  unfold shapeFieldsW at hs
  split at hs
  . simp at hs
  . rename_i hc
    have hname : f.name ≠ "_" := fun e => hc (.inl e)
    have hoff:f.offset=k:=Classical.byContradiction fun e=>hc (.inr e)
    split at hs
    . rename_i l s hl hsz
      split at hs
      . rename_i hsl
        obtain ⟨hsl,hpos⟩:=hsl
        split at hs
        . simp at hs
        . rename_i r hr
          simp at hs;subst hs;subst hsl
          obtain ⟨hx1,hx2⟩:=Ad4 hx
          obtain ⟨hy1,hy2⟩:=Ad4 hy
          have lx:=Ab9 hx1
          have ly:=Ab9 hy1
          rw [List.drop_drop]at hx2 hy2
          have IH:=At6 ih w xs ys fs (k+l.length) r hr hx2 hy2
          simp only [List.length_take,List.length_drop]at lx ly
          have p1:=Ae3 hl hsz (xs:=(xs.map V.toVal).toArray) (off:=k) (by simp;omega) w
          have p2:=Ae3 hl hsz (xs:=(ys.map V.toVal).toArray) (off:=k) (by simp;omega) w
          simp only []at p1 p2
          rw [Ai9]at p1 p2
          have p3:=ih _ _ hl w _ _ hx1 hy1
          simp only [Op.eqFields,hname,ne_eq,not_false_eq_true,if_true,Sem.run_bind,hoff,p1,p2,Result.andThen_ok,p3]
          have split:∀ (q:List V),q.drop k=(q.drop k).take l.length++q.drop (k+l.length):=fun q=>by
           conv=>lhs;rw [<- List.take_append_drop l.length (q.drop k)]
           rw [List.drop_drop]
          have hE:eqFlats (xs.drop k) (ys.drop k)=(eqFlats ((xs.drop k).take l.length) ((ys.drop k).take l.length) && eqFlats (xs.drop (k+l.length)) (ys.drop (k+l.length))):=by
           conv=>lhs;rw [split xs,split ys]
           rw [Al9 (by rw [Ab9 hx1,Ab9 hy1])]
          rw [hE]
          cases hb:eqFlats ((xs.drop k).take l.length) ((ys.drop k).take l.length)
          . simp
          . simp [IH]
      . simp at hs
    . simp at hs
theorem Ak2 {P:Program}:∀ (d:Nat) (D:Nat) (t:TypeId) (sh:List CK),shapeT P d t=some sh->EqShape P (D+d) t sh
 | 0,_,_,_,h=>by simp [shapeT]at h
 | d+1,D,t,sh,hs=>by
  intro w xs ys hx hy
  have hs0:=hs
  unfold shapeT at hs
  cases hu:P.underlying t with
  | none=>simp [hu]at hs
  | some kd =>
   cases kd
   case bool =>
    simp [hu]at hs;subst hs
    have ha:aggT P t=some false:=by simp [aggT,hu]
    obtain ⟨x,rfl,hx1⟩:=Az1 hx
    obtain ⟨y,rfl,hy1⟩:=Az1 hy
    obtain ⟨a,rfl⟩:=Aw1 hx1
    obtain ⟨b,rfl⟩:=Aw1 hy1
    simp [packV,ha,V.toVal,eqFlats,V.eqFlat,show D+(d+1)=(D+d)+1 from rfl,run_equalIn_bool' w (D+d) t a b hu]
   case int q =>
    simp [hu]at hs;subst hs
    have ha:aggT P t=some false:=by simp [aggT,hu]
    obtain ⟨x,rfl,hx1⟩:=Az1 hx
    obtain ⟨y,rfl,hy1⟩:=Az1 hy
    obtain ⟨a,rfl⟩:=AC5 hx1
    obtain ⟨b,rfl⟩:=AC5 hy1
    simp [packV,ha,V.toVal,eqFlats,V.eqFlat,show D+(d+1)=(D+d)+1 from rfl,run_equalIn_int w (D+d) t q q a b hu]
   case string =>
    simp [hu]at hs;subst hs
    have ha:aggT P t=some false:=by simp [aggT,hu]
    obtain ⟨x,rfl,hx1⟩:=Az1 hx
    obtain ⟨y,rfl,hy1⟩:=Az1 hy
    obtain ⟨a,rfl⟩:=AC6 hx1
    obtain ⟨b,rfl⟩:=AC6 hy1
    simp [packV,ha,V.toVal,eqFlats,V.eqFlat,show D+(d+1)=(D+d)+1 from rfl,run_equalIn_string w (D+d) t _ _ hu,ByteArray.toList_eq]
   case array n e =>
    simp only [hu]at hs
    split at hs
    . rename_i l s hl hsz
      split at hs
      . rename_i hsl
        simp at hs;subst hs;subst hsl
        have ha:aggT P t=some true:=by simp [aggT,hu]
        obtain ⟨i,hi,hce⟩:=Bh1 hsz
        simp only [packV,ha,if_true]
        rw [show D+(d+1)=(D+d)+1 from rfl,run_equalIn_array w (D+d) _ _ hu hi,hce,List.range_eq_range']
        have:=Aw2 hl hsz (Ak2 d D e l hl) w xs ys n 0 (by simpa using hx) (by simpa using hy)
        simpa using this
      . simp at hs
    . simp at hs
   case struct fs =>
    simp only [hu]at hs
    split at hs
    . simp at hs
    . rename_i hst
      have ha:aggT P t=some true:=by simp [aggT,hu]
      have hfo:P.fieldsOf t=fs:=by simp [Program.fieldsOf,hu]
      simp only [packV,ha,if_true]
      rw [show D+(d+1)=(D+d)+1 from rfl,run_equalIn_struct w (D+d) t _ _ (by rw [hfo];exact hu) (by simpa using hst),hfo]
      have:=At6 (D:=D+d) (fun t sh h=>Ak2 d D t sh h) w xs ys fs.toList 0 sh hs (by simpa using hx) (by simpa using hy)
      simpa using this
   all_goals (simp [hu]at hs)
end Go.Sv
namespace Go.Sv
open Go
theorem Ah4 {P:Program} (em:Bool):∀ (d:Nat) (D:Nat) (t:TypeId) (sh:List CK),shapeT P d t=some sh->∀ (w:World) (xs:List V),fitsAll sh xs=true ->
 (Instr.checkKey em (D+d) t (packV P t (xs.map V.toVal))).run P w=.ok () w
 | 0,_,_,_,h,_,_,_=>by simp [shapeT]at h
 | d+1,D,t,sh,hs,w,xs,hx=>by
  unfold shapeT at hs
  rw [show D+(d+1)=(D+d)+1 from rfl]
  cases hu:P.underlying t with
  | none=>simp [hu]at hs
  | some kd =>
   cases kd
   case bool =>
    have ha:aggT P t=some false:=by simp [aggT,hu]
    simp [Instr.checkKey,run_underlying hu,packV,ha]
   case int q =>
    have ha:aggT P t=some false:=by simp [aggT,hu]
    simp [Instr.checkKey,run_underlying hu,packV,ha]
   case string =>
    have ha:aggT P t=some false:=by simp [aggT,hu]
    simp [Instr.checkKey,run_underlying hu,packV,ha]
   case array n e =>
    simp only [hu]at hs
    split at hs
    . rename_i l s hl hsz
      split at hs
      . rename_i hsl
        simp at hs;subst hs;subst hsl
        have ha:aggT P t=some true:=by simp [aggT,hu]
        simp only [Instr.checkKey,Sem.run_bind,run_underlying hu,Result.andThen_ok,packV,ha,if_true]
        simp only [Std.Legacy.Range.forIn_eq_forIn_range',Std.Legacy.Range.size,Nat.sub_zero,Nat.add_one_sub_one,Nat.div_one]
        have key:∀ (m k:Nat),fitsAll (List.replicate m l).flatten (xs.drop (k * l.length))=true ->
         (forIn (List.range' k m) PUnit.unit fun i (_:PUnit)=>(do Instr.checkKey em (D+d) e (<- part e (xs.map V.toVal).toArray (i * (<- sizeOf e)));pure (ForInStep.yield PUnit.unit):Sem (ForInStep PUnit))).run P w=.ok PUnit.unit w:=by
         intro m
         induction m with
         | zero=>intro k _;simp
         | succ m ih =>
          intro k hk
          rw [List.replicate_succ,List.flatten_cons]at hk
          obtain ⟨hk1,hk2⟩:=Ad4 hk
          have lx:=Ab9 hk
          simp only [List.length_append,List.length_drop]at lx
          rw [List.drop_drop,show k * l.length+l.length=(k+1) * l.length by rw [Nat.add_mul];omega]at hk2
          have hlx:k * l.length+l.length<=xs.length:=by
           rcases Nat.eq_zero_or_pos l.length with h0 | h0
           . rw [h0];simp
           . omega
          have p1:=Ae3 hl hsz (xs:=(xs.map V.toVal).toArray) (off:=k * l.length) (by simpa using hlx) w
          simp only []at p1
          rw [Ai9]at p1
          have p2:=Ah4 em d D e l hl w _ hk1
          rw [List.range'_succ]
          simp only [List.forIn_cons,Sem.run_bind,Ab1 hsz,Result.andThen_ok,p1,p2,Sem.run_pure]
          exact ih (k+1) hk2
        have h2:=key n 0 (by simpa using hx)
        simp at h2 ⊢
        rw [h2];rfl
      . simp at hs
    . simp at hs
   case struct fs =>
    simp only [hu]at hs
    split at hs
    . simp at hs
    . rename_i hst
      have ha:aggT P t=some true:=by simp [aggT,hu]
      simp only [Instr.checkKey,Sem.run_bind,run_underlying hu,Result.andThen_ok,packV,ha,if_true]
      rw [<- Array.forIn_toList]
      have key:∀ (L:List Field) (k:Nat) (sh:List CK),shapeFieldsW P (shapeT P d) k L=some sh->fitsAll sh (xs.drop k)=true ->
       (forIn L PUnit.unit fun f (_:PUnit)=>(do
        if f.name ≠ "_" then do Instr.checkKey em (D + d) f.type (<- part f.type (xs.map V.toVal).toArray f.offset); pure (ForInStep.yield PUnit.unit) else pure (ForInStep.yield PUnit.unit) : Sem (ForInStep PUnit))).run P w = .ok PUnit.unit w := by
       intro L
       induction L with
       | nil=>intro k sh _ _;simp
       | cons f L ih =>
        intro k sh hsf hk
        unfold shapeFieldsW at hsf
        split at hsf
        . simp at hsf
        . rename_i hc
          have hname : f.name ≠ "_" := fun e => hc (.inl e)
          have hoff:f.offset=k:=Classical.byContradiction fun e=>hc (.inr e)
          split at hsf
          . rename_i l s hl hsz
            split at hsf
            . rename_i hsl
              obtain ⟨hsl,hpos⟩:=hsl
              split at hsf
              . simp at hsf
              . rename_i r hr
                simp at hsf;subst hsf;subst hsl
                obtain ⟨hk1,hk2⟩:=Ad4 hk
                have lx:=Ab9 hk1
                rw [List.drop_drop]at hk2
                simp only [List.length_take,List.length_drop]at lx
                have p1:=Ae3 hl hsz (xs:=(xs.map V.toVal).toArray) (off:=k) (by simp;omega) w
                simp only []at p1
                rw [Ai9]at p1
                have p2:=Ah4 em d D f.type l hl w _ hk1
                simp only [List.forIn_cons,Sem.run_bind,hname,ne_eq,not_false_eq_true,if_true,hoff,p1,p2,Result.andThen_ok,Sem.run_pure]
                exact ih (k+l.length) r hr hk2
            . simp at hsf
          . simp at hsf
      have h2:=key fs.toList 0 sh hs (by simpa using hx)
      simp at h2 ⊢
      rw [h2];rfl
   all_goals (simp [hu]at hs)
def keyVal (k:V):Value:=match k with
 | .agg cs=>.agg (cs.map V.toVal).toArray
 | v=>v.toVal
def findIx (k:V):List ME->Option Nat
 | []=>none
 | e::es=>if V.eqGround k e.key then some 0 else (findIx k es).map (·+1)
theorem Aw3 (k:V):∀ (es:List ME),findME k es=(findIx k es).bind (es[·]?)
 | []=>rfl
 | e::es=>by
  unfold findME findIx
  split
  . simp
  . rw [Aw3 k es];cases findIx k es <;> simp
theorem Aw4 {k:V}:∀ {es:List ME} {i:Nat},findIx k es=some i->i < es.length
 | [],_,h=>by simp [findIx]at h
 | e::es,i,h=>by
  unfold findIx at h
  split at h
  . simp at h;subst h;simp
  . cases hq : findIx k es with
    | none=>simp [hq]at h
    | some j=>simp [hq]at h;subst h;have:=Aw4 hq;simp;omega
theorem Au4 {P:Program} {t:TypeId} {k:V} {es:List ME} (h:keyOk P t k es=true):∃ sh,shapeT P 50 t=some sh /\
 ((aggT P t=some true/\(∃ cs,k=.agg cs/\fitsAll sh cs=true)/\∀ e∈es,∃ cs,e.key=.agg cs/\fitsAll sh cs=true) ∨
  (aggT P t=some false/\(fitsAll sh [k]=true)/\∀ e∈es,fitsAll sh [e.key]=true)):=by
 have hk:∀ (es:List ME) (sh:List CK),keysFit sh es=true->∀ e∈es,(match e.key with | .agg cs=>fitsAll sh cs | v=>fitsAll sh [v])=true:=by
  intro es sh
  induction es with
  | nil=>intro _ e he;cases he
  | cons x xs ih =>
   intro h e he
   simp only [keysFit,Bool.and_eq_true]at h
   cases he with
   | head=>exact h.1
   | tail _ hm=>exact ih h.2 e hm
 unfold keyOk at h
 split at h
 . rename_i sh cs hs ha
   simp only [Bool.and_eq_true,List.all_eq_true]at h
   refine ⟨sh,hs,.inl ⟨ha,⟨cs,rfl,h.1.1⟩,fun e he=>?_⟩⟩
   have h1:=hk es sh h.1.2 e he
   have h2:=h.2 e he
   cases hq:e.key <;> simp [hq]at h1 h2
   exact ⟨_,rfl,h1⟩
 . simp at h
 . rename_i sh hs ha hna
   simp only [Bool.and_eq_true,List.all_eq_true]at h
   refine ⟨sh,hs,.inr ⟨ha,h.1.1,fun e he=>?_⟩⟩
   have h1:=hk es sh h.1.2 e he
   have h2:=h.2 e he
   cases hq:e.key <;> simp [hq]at h1 h2 <;> exact h1
 . simp at h
theorem AF1 {P:Program} {t:TypeId} (ha:aggT P t=some true) (cs:List V):packV P t (cs.map V.toVal)=keyVal (.agg cs):=by simp [packV,ha,keyVal]
theorem Ag1 {sh:List CK} {v:V} (h:fitsAll sh [v]=true):(∃ c,sh=[c]/\c.fits v=true)/\v.flat=true/\keyVal v=v.toVal:=by
 match sh,h with
 | [c],h =>
  simp [fitsAll]at h
  refine ⟨⟨c,rfl,h⟩,CK.fits_flat h,?_⟩
  cases v <;> simp_all [CK.fits,keyVal] <;> cases c <;> simp_all [CK.fits]
 | [],h=>simp [fitsAll]at h
 | _::_::_,h=>simp [fitsAll]at h
theorem Az2 {P:Program} {t:TypeId} (ha:aggT P t=some false) {sh:List CK} {v:V} (h:fitsAll sh [v]=true):packV P t ([v].map V.toVal)=keyVal v:=by
 rw [(Ag1 h).2.2];simp [packV,ha]
theorem VR.keyVal {ρ:Rho} {v:V} {v':Value} (h:VR ρ v v') (hg:v.ground=true):v'=keyVal v:=by
 cases v <;> simp [V.ground]at hg
 . exact h.toVal rfl
 . exact h.toVal rfl
 . exact h.toVal rfl
 . obtain ⟨c', rfl, hc⟩ := h.agg_inv
   simp only [Sv.keyVal]
   rw [<- hc.toVal hg]
theorem Ak3 {sh:List CK} {v:V} (h:fitsAll sh [v]=true):v.ground=true:=by
 have:=(Ag1 h).2.1
 cases v <;> simp_all [V.flat,V.ground]
theorem Ah8 {sh:List CK} {cs:List V} (h:fitsAll sh cs=true):(V.agg cs).ground=true:=by
 simp only [V.ground,List.all_eq_true]
 exact Al5 h
theorem Af0 {P:Program} {ρ:Rho} {t:TypeId} {k:V} {k':Value} {es:List ME} (h:keyOk P t k es=true) (hk:VR ρ k k') (em:Bool) (w:World):(Instr.checkKey em 10000 t k').run P w=.ok () w:=by
 obtain ⟨sh,hs,⟨ha,⟨cs,rfl,hf⟩,_⟩ | ⟨ha,hf,_⟩⟩:=Au4 h
 . rw [hk.keyVal (Ah8 hf), <- AF1 ha]
   exact Ah4 em 50 9950 t sh hs w cs hf
 . rw [hk.keyVal (Ak3 hf), <- Az2 ha hf]
   exact Ah4 em 50 9950 t sh hs w [k] hf
theorem Bh2 {P:Program} {t:TypeId} {sh:List CK} (hs:shapeT P 50 t=some sh) {a b:V}
 (h:(aggT P t=some true/\∃ x y,a=.agg x/\b=.agg y/\fitsAll sh x=true/\fitsAll sh y=true)∨(aggT P t=some false/\fitsAll sh [a]=true/\fitsAll sh [b]=true)) (w:World) :
 (Op.equal t (keyVal a) (keyVal b)).run P w=.ok (V.eqGround a b) w:=by
 rcases h with ⟨ha,x,y,rfl,rfl,hx,hy⟩ | ⟨ha,hx,hy⟩
 . rw [<- AF1 ha, <- AF1 ha]
   exact Ak2 50 9950 t sh hs w x y hx hy
 . rw [<- Az2 ha hx, <- Az2 ha hy]
   have:=Ak2 50 9950 t sh hs w [a] [b] hx hy
   rw [show Op.equal t (packV P t ([a].map V.toVal)) (packV P t ([b].map V.toVal))=Op.equalIn (9950+50) t (packV P t ([a].map V.toVal)) (packV P t ([b].map V.toVal)) from rfl,this]
   have h1:=(Ag1 hx).2.1
   have h2:=(Ag1 hy).2.1
   cases a <;> cases b <;> simp_all [V.flat,eqFlats,V.eqGround]
theorem AA6 {sh:List CK} {kd:TypeDesc} {k:V} (hkd:∀ v:V,fitsAll sh [v]=true->∀ u:V,fitsAll sh [u]=true->Instr.sameNow kd v.toVal u.toVal=some (V.eqGround v u)) (hk:fitsAll sh [k]=true) :
 ∀ (es:List ME) (es':List MapEntry) (i:Nat),(∀ e∈es,fitsAll sh [e.key]=true)->es'.length=es.length->(∀ (j:Nat) e e',es[j]?=some e->es'[j]?=some e'->e'.key=keyVal e.key) ->
  Instr.findNow kd (keyVal k) es' i=some ((findIx k es).bind fun j=>(es'[j]?).map fun e'=>(i+j,e'.val))
 | [],[],i,_,_,_=>rfl
 | [],_::_,_,_,h,_=>by simp at h
 | _::_,[],_,_,h,_=>by simp at h
 | e::es,e'::es',i,hf,hl,hr=>by
  have h1:=hf e (by simp)
  have h2:=hr 0 e e' rfl rfl
  have hs:=hkd k hk e.key h1
  rw [<- (Ag1 hk).2.2,<- (Ag1 h1).2.2,<- h2]at hs
  unfold Instr.findNow findIx
  rw [hs]
  cases hb:V.eqGround k e.key
  . simp only []
    rw [AA6 hkd hk es es' (i+1) (fun x hx=>hf x (by simp [hx])) (by simpa using hl) (fun j x x' a b=>hr (j+1) x x' (by simpa using a) (by simpa using b))]
    cases hq:findIx k es with
    | none=>simp
    | some j=>simp [show i+1+j=i+(j+1) by omega]
  . simp
theorem An3 {P:Program} {t:TypeId} {sh:List CK} (hs:shapeT P 50 t=some sh) (ha:aggT P t=some true) {cs:List V} (hk:fitsAll sh cs=true) (w:World) :
 ∀ (es:List ME) (es':List MapEntry) (i:Nat),(∀ e∈es,∃ c,e.key=.agg c/\fitsAll sh c=true)->es'.length=es.length->(∀ (j:Nat) e e',es[j]?=some e->es'[j]?=some e'->e'.key=keyVal e.key) ->
  (Instr.findAsking t (keyVal (.agg cs)) es' i).run P w=.ok ((findIx (.agg cs) es).bind fun j=>(es'[j]?).map fun e'=>(i+j,e'.val)) w
 | [],[],i,_,_,_=>rfl
 | [],_::_,_,_,h,_=>by simp at h
 | _::_,[],_,_,h,_=>by simp at h
 | e::es,e'::es',i,hf,hl,hr=>by
  obtain ⟨c,h1,h1'⟩:=hf e (by simp)
  have h2:=hr 0 e e' rfl rfl
  have he:=Bh2 hs (a:=.agg cs) (b:=e.key) (.inl ⟨ha,cs,c,rfl,h1,hk,h1'⟩) w
  rw [<- h2]at he
  unfold Instr.findAsking findIx
  simp only [Sem.run_bind,he,Result.andThen_ok]
  cases hb:V.eqGround (.agg cs) e.key
  . simp only [Bool.false_eq_true, if_false]
    rw [An3 hs ha hk w es es' (i+1) (fun x hx=>hf x (by simp [hx])) (by simpa using hl) (fun j x x' a b=>hr (j+1) x x' (by simpa using a) (by simpa using b))]
    cases hq:findIx (.agg cs) es with
    | none=>simp
    | some j=>simp [show i+1+j=i+(j+1) by omega]
  . simp
theorem Ah5 {P:Program} {ρ:Rho} {t:TypeId} {k:V} {k':Value} {es:List ME} {es':Array MapEntry} (h:keyOk P t k es=true) (hk:VR ρ k k') (hm:MER ρ es es'.toList) (w:World) :
 (Instr.findKey t k' es'.toList).run P w=.ok ((findIx k es).bind fun j=>(es'.toList[j]?).map fun e'=>(j,e'.val)) w:=by
 obtain ⟨sh,hs,⟨ha,⟨cs,rfl,hf⟩,he⟩ | ⟨ha,hf,he⟩⟩:=Au4 h
 . have hkv := hk.keyVal (Ah8 hf)
   have hr:∀ (j:Nat) e e',es[j]?=some e->es'.toList[j]?=some e'->e'.key=keyVal e.key:=fun j e e' a b=>by
    obtain ⟨c,h1,h2⟩:=he e (List.mem_of_getElem? a)
    exact (hm.at_ j e e' a b).1.keyVal (by rw [h1];exact Ah8 h2)
   have hu:∃ kd,P.underlying t=some kd/\((∃ n e,kd=.array n e)∨∃ fs,kd=.struct fs):=by
    unfold aggT at ha
    split at ha
    . rename_i fs hu;exact ⟨_,hu,.inr ⟨_,rfl⟩⟩
    . rename_i n e hu;exact ⟨_,hu,.inl ⟨_,_,rfl⟩⟩
    . simp at ha
    . simp at ha
   obtain ⟨kd,hu,hkd⟩:=hu
   have hfa:=An3 hs ha hf w es es'.toList 0 he (by rw [hm.len]) hr
   subst hkv
   unfold Instr.findKey
   simp only [Sem.run_bind,run_underlying hu,Result.andThen_ok]
   cases hes:es'.toList with
   | nil =>
    have:es=[]:=List.length_eq_zero_iff.1 (by rw [hm.len,hes];rfl)
    subst this
    simp [Instr.findNow,findIx]
   | cons x xs =>
    have:Instr.findNow kd (keyVal (.agg cs)) (x::xs) 0=none:=by
     unfold Instr.findNow
     rcases hkd with ⟨n,e,rfl⟩ | ⟨fs,rfl⟩ <;> simp [Instr.sameNow]
    rw [this]
    rw [hes]at hfa
    simpa using hfa
 . have hkv := hk.keyVal (Ak3 hf)
   have hr:∀ (j:Nat) e e',es[j]?=some e->es'.toList[j]?=some e'->e'.key=keyVal e.key:=fun j e e' a b=>(hm.at_ j e e' a b).1.keyVal (Ak3 (he e (List.mem_of_getElem? a)))
   subst hkv
   unfold Instr.findKey
   have hu:∃ kd,P.underlying t=some kd/\∀ v:V,fitsAll sh [v]=true->∀ u:V,fitsAll sh [u]=true->Instr.sameNow kd v.toVal u.toVal=some (V.eqGround v u):=by
    unfold shapeT at hs
    cases hu:P.underlying t with
    | none=>simp [hu]at hs
    | some kd =>
     refine ⟨kd,rfl,?_⟩
     unfold aggT at ha
     cases kd <;> simp [hu]at hs ha
     . subst hs
       intro v hv u hu'
       obtain ⟨a,rfl⟩:=Aw1 (by simpa [fitsAll] using hv)
       obtain ⟨b,rfl⟩:=Aw1 (by simpa [fitsAll] using hu')
       rfl
     . subst hs
       intro v hv u hu'
       obtain ⟨a,rfl⟩:=AC5 (by simpa [fitsAll] using hv)
       obtain ⟨b,rfl⟩:=AC5 (by simpa [fitsAll] using hu')
       simp [Instr.sameNow,V.toVal,V.eqGround,V.eqFlat]
     . subst hs
       intro v hv u hu'
       obtain ⟨a,rfl⟩:=AC6 (by simpa [fitsAll] using hv)
       obtain ⟨b,rfl⟩:=AC6 (by simpa [fitsAll] using hu')
       simp only [Instr.sameNow,V.toVal,V.eqGround,V.eqFlat]
       rw [beq_toListBytes,ByteArray.toList_eq,ByteArray.toList_eq]
   obtain ⟨kd,hu,hkd⟩:=hu
   simp only [Sem.run_bind,run_underlying hu,Result.andThen_ok]
   rw [AA6 hkd hf es es'.toList 0 he (by rw [hm.len]) hr]
   simp
end Go.Sv
namespace Go.Sv
open Go
theorem As4 {w:World} {x:Nat} (o:Obj) (hx:x < w.heap.size) (i:Nat):(w.putObj x o).heap[i]?=if i=x then some o else w.heap[i]?:=by
 by_cases h:i=x
 . subst h;rw [if_pos rfl];exact World.putObj_heap_same hx
 . rw [if_neg h];exact World.putObj_heap_other h
theorem Aj6 {w:World} {x:Nat} {o:Obj} (h:w.heap[x]?=some o):x < w.heap.size:=(Array.getElem?_eq_some_iff.1 h).1
def noRow:Obj->Bool
 | .cells ..=>false
 | _=>true
theorem Ab6 {P:Program} {w:World} {x:Nat} {o:Obj} (h:w.heap[x]?=some o) (hc:noRow o=true):(getObj x).run P w=.ok o w:=by
 cases o <;> simp_all [getObj,Sem.run,noRow]
theorem Ac6 {P:Program} {w:World} {x:Nat} {o:Obj} (o':Obj) (h:w.heap[x]?=some o) (hc:noRow o=true):(setObj x o').run P w=.ok () (w.putObj x o'):=by
 cases o <;> simp_all [setObj,Sem.run,noRow,World.putObj]
theorem Inv.putMap {P:Program} {base:Nat} {W:World} {ρ:Rho} {A:AS} {w:World} (h:Inv P base W ρ A w) {r x:Nat} {mo:MapO} {es2:Array MapEntry}
 (hx:ρ.m r=some x) (hr:MER ρ mo.es es2.toList):Adv P base W ρ A w ρ (A.setMap r mo) (w.putObj x (.map es2 mo.clock)):=by
 obtain ⟨hb,mo0,es0,h1,h2,h3⟩:=h.map r x hx
 have hlt:=Aj6 h2
 have hget:=As4 (.map es2 mo.clock) hlt
 have hrl:=(List.getElem?_eq_some_iff.1 h1).1
 refine ⟨.refl ρ,?_,⟨by simp,fun i hi hn=>?_⟩,⟨Nat.le_refl _,by simp [AS.setMap],fun _ _ _=>rfl,fun r' hr' hn=>?_⟩,.refl _ _ _⟩
 . refine { os := h.os, tape := h.tape, output := h.output, size := by simpa using h.size, old := ?_, blk := ?_, inj := h.inj, fam := h.fam, own := h.own, map := ?_, minj := h.minj, it := ?_, iinj := h.iinj, lp := ?_, linj := h.linj }
   . intro i hi
     rw [hget,if_neg (by omega)];exact h.old i hi
   . intro b y d hy
     obtain ⟨k,e1,e2,e3⟩:=h.blk b y d hy
     refine ⟨k,e1,e2.world ?_,e3⟩
     rw [hget,if_neg]
     rintro rfl
     obtain ⟨c,el,fr,e4,_⟩:=e2.row
     rw [h2]at e4;simp at e4
   . intro r' y hy
     by_cases hrr:r'=r
     . subst hrr
       rw [hx]at hy;cases hy
       exact ⟨hb,mo,es2,by simp [AS.setMap,hrl],by rw [hget,if_pos rfl],hr⟩
     . obtain ⟨e0, mo', es', e1, e2, e3⟩ := h.map r' y hy
       refine ⟨e0,mo',es',by simp [AS.setMap,List.getElem?_set,Ne.symm hrr,e1],?_,e3⟩
       rw [hget,if_neg (fun (e:y=x)=>hrr (h.minj r' r x (e ▸ hy) hx))];exact e2
   . intro i y hy
     obtain ⟨e0,io,mo',e1,e2,e3⟩:=h.it i y hy
     refine ⟨e0,io,mo',e1,?_,e3⟩
     rw [hget,if_neg];exact e2
     rintro rfl;rw [h2]at e2;simp at e2
   . intro i y hy
     obtain ⟨e0,io,mo',e1,e2,e3⟩:=h.lp i y hy
     refine ⟨e0,io,mo',e1,?_,e3⟩
     rw [hget,if_neg];exact e2
     rintro rfl;rw [h2]at e2;simp at e2
 . rw [hget,if_neg (fun (e:i=x)=>hn (by rw [e];exact .inr (.inl ⟨r,hx⟩)))]
 . have hne : r' ≠ r := fun e => by rw [e, hx] at hn; simp at hn
   simp [AS.setMap,List.getElem?_set,Ne.symm hne]
theorem MER.set {ρ:Rho} {l:List ME} {l':List MapEntry} (h:MER ρ l l') {i:Nat} {e:ME} {e':MapEntry} (he:VR ρ e.key e'.key/\VR ρ e.val e'.val/\e'.born=e.born):MER ρ (l.set i e) (l'.set i e') :=
 ⟨by simp [h.len],fun j x x' a b=>by
  rw [List.getElem?_set]at a b
  by_cases hij:i=j
  . subst hij
    rw [if_pos rfl]at a b
    split at a <;> split at b <;> simp_all
  . rw [if_neg hij]at a b;exact h.at_ j x x' a b⟩
theorem MER.push {ρ:Rho} {l:List ME} {l':List MapEntry} (h:MER ρ l l') {e:ME} {e':MapEntry} (he:VR ρ e.key e'.key/\VR ρ e.val e'.val/\e'.born=e.born):MER ρ (l++[e]) (l'++[e']) :=
 ⟨by simp [h.len],fun j x x' a b=>by
  by_cases hj:j < l.length
  . rw [List.getElem?_append_left hj] at a
    rw [List.getElem?_append_left (by rw [<- h.len];exact hj)]at b
    exact h.at_ j x x' a b
  . rw [List.getElem?_append_right (by omega)] at a
    rw [List.getElem?_append_right (by rw [<- h.len];omega),<- h.len]at b
    have:j - l.length=0:=by have:=(List.getElem?_eq_some_iff.1 a).1;simp at this;omega
    rw [this]at a b
    simp at a b
    subst a;subst b;exact he⟩
theorem MER.erase {ρ:Rho} {l:List ME} {l':List MapEntry} (h:MER ρ l l') (i:Nat):MER ρ (l.eraseIdx i) (l'.eraseIdx i) :=
 ⟨by simp [List.length_eraseIdx,h.len],fun j x x' a b=>by
  rw [List.getElem?_eraseIdx]at a b
  split at a
  . rename_i hj;rw [if_pos hj]at b;exact h.at_ _ x x' a b
  . rename_i hj;rw [if_neg hj]at b;exact h.at_ _ x x' a b⟩
theorem AC7 (k v:V):∀ (es:List ME) (i:Nat),findIx k es=some i->∃ e,es[i]?=some e/\V.eqGround k e.key=true/\setME k v es=es.set i { e with key:=k,val:=v }
 | [],_,h=>by simp [findIx]at h
 | e::es,i,h=>by
  unfold findIx at h
  unfold setME
  split at h
  . rename_i hb
    simp at h;subst h
    exact ⟨e,rfl,hb,by rw [if_pos hb];rfl⟩
  . rename_i hb
    cases hq:findIx k es with
    | none=>simp [hq]at h
    | some j =>
     simp [hq]at h;subst h
     obtain ⟨e',h1,h2,h3⟩:=AC7 k v es j hq
     exact ⟨e',by simpa using h1,h2,by rw [if_neg hb,h3];rfl⟩
theorem Az3 (k:V):∀ (es:List ME),eraseME k es=match findIx k es with | some i=>es.eraseIdx i | none=>es
 | []=>rfl
 | e::es=>by
  unfold eraseME findIx
  split
  . rfl
  . rw [Az3 k es]
    cases findIx k es <;> rfl
theorem AU0 {a b:V} (h:V.eqFlat a b=true):a=b:=by
 cases a <;> cases b <;> simp_all [V.eqFlat]
theorem AK2:∀ {a b:List V},eqFlats a b=true->a=b
 | [],[],_=>rfl
 | [],_::_,h=>by simp [eqFlats]at h
 | _::_,[],h=>by simp [eqFlats]at h
 | x::a,y::b,h=>by simp [eqFlats]at h;rw [AU0 h.1,AK2 h.2]
theorem AZ8 {a b:V} (h:V.eqGround a b=true):a=b:=by
 unfold V.eqGround at h
 split at h
 . rw [AK2 h]
 . exact AU0 h
theorem Aj0 (n:Nat) {v:V} (h:v.flat=true):Instr.sameBits n v.toVal v.toVal=true:=by
 cases v <;> simp_all [V.flat,V.toVal] <;> cases n <;> simp [Instr.sameBits,beq_toListBytes]
theorem AU1 {v:V} (h:v.ground=true):Instr.sameBits 10000 (keyVal v) (keyVal v)=true:=by
 cases v <;> simp [V.ground]at h
 . exact Aj0 10000 (v:=.bool _) rfl
 . exact Aj0 10000 (v:=.int _ _) rfl
 . exact Aj0 10000 (v:=.str _) rfl
 . rename_i cs
   simp only [keyVal]
   rw [show (10000:Nat)=9999+1 from rfl,Instr.sameBits]
   simp only [beq_self_eq_true,Bool.true_and,List.all_eq_true]
   intro x hx
   obtain ⟨a,b⟩:=x
   have hz:∀ (l:List V) (a b:Value),(a,b)∈(l.map V.toVal).zip (l.map V.toVal)->∃ v∈l,a=v.toVal/\b=v.toVal:=by
    intro l
    induction l with
    | nil=>intro a b h;simp at h
    | cons y l ih =>
     intro a b h
     simp only [List.map_cons,List.zip_cons_cons,List.mem_cons,Prod.mk.injEq]at h
     rcases h with ⟨rfl,rfl⟩ | h
     . exact ⟨y,by simp,rfl,rfl⟩
     . obtain ⟨v, h1, h2⟩ := ih a b h
       exact ⟨v,by simp [h1],h2⟩
   obtain ⟨v,h1,h2,h3⟩:=hz cs a b (by simpa using hx)
   subst h2;subst h3
   exact Aj0 9999 (h v h1)
theorem AA7 {P:Program} {t:TypeId} {k:V} {es:List ME} (h:keyOk P t k es=true):k.ground=true/\∀ e∈es,e.key.ground=true:=by
 obtain ⟨sh,hs,⟨ha,⟨cs,rfl,hf⟩,he⟩ | ⟨ha,hf,he⟩⟩:=Au4 h
 . exact ⟨Ah8 hf,fun e hm=>by obtain ⟨c,h1,h2⟩:=he e hm;rw [h1];exact Ah8 h2⟩
 . exact ⟨Ak3 hf,fun e hm=>Ak3 (he e hm)⟩
theorem Ap2 {P:Program} {t kt et:TypeId} (h:mapT P t=some (kt,et)):P.underlying t=some (.map kt et):=by
 unfold mapT at h
 split at h
 . rename_i k e hu;simp at h;rw [hu,h.1,h.2]
 . simp at h
theorem Aj1 {P:Program} {t:TypeId} {z:V} (h:zeroT P t=some z) (w:World):∃ z',(zeroValue t).run P w=.ok z' w/\∀ ρ,VR ρ z z':=by
 unfold zeroT at h
 cases hi:P.info? t with
 | none=>simp [hi]at h
 | some i =>
  simp [hi]at h
  cases hz:i.zero with
  | none=>simp [hz]at h
  | some z' =>
   simp [hz]at h
   exact ⟨z',by simp [zeroValue,typeInfo,hi,hz],fun ρ=>AN6 h⟩
theorem AO0 {P:Program} {base:Nat} {W:World} {ρ:Rho} {A:AS} {w:World} (h:Inv P base W ρ A w) {t:TypeId} {x k:V} {x' k':Value} {ok:Bool} {v:V}
 (hx:VR ρ x x') (hk:VR ρ k k') (hv:evLookup P t x k ok A=some v):∃ v',(Instr.lookup t x' k' ok).run P w=.ok v' w/\VR ρ v v':=by
 unfold evLookup at hv
 split at hv
 . simp at hv
 . rename_i kt et hmt
   simp only []at hv
   have hu:=Ap2 hmt
   split at hv
   . rename_i es z hes hz
     split at hv
     . rename_i hko
       obtain ⟨z',hz1,hz2⟩:=Aj1 hz w
       have hchk:=Af0 (ρ:=ρ) hko hk
       have hent:∃ es':Array MapEntry,MER ρ es es'.toList/\((x'=.map none/\es'=#[])∨∃ r cl,x'=.map (some r)/\w.heap[r]?=some (.map es' cl)):=by
        cases hx <;> simp at hes
        . subst hes
          exact ⟨#[],⟨rfl,fun _ _ _ a _=>by simp at a⟩,.inl ⟨rfl,rfl⟩⟩
        . rename_i r y hr
          obtain ⟨_,mo,es',h1,h2,h3⟩:=h.map _ _ hr
          obtain ⟨mo1,hm1,hm2⟩:=hes
          rw [h1]at hm1
          cases hm1
          subst hm2
          exact ⟨es',h3,.inr ⟨y,_,rfl,h2⟩⟩
       obtain ⟨es',hmer,hent⟩:=hent
       have hfk:=Ah5 hko hk hmer w
       have hrun:(Instr.lookup t x' k' ok).run P w=((do
        let (v,ok') <- match <- Instr.findKey kt k' es'.toList with
         | some (_,v)=>pure (v,true)
         | none=>pure (<- zeroValue et,false)
        pure (if ok then .tuple #[v,.bool ok'] else v):Sem Value)).run P w:=by
        unfold Instr.lookup
        rcases hent with ⟨rfl,rfl⟩ | ⟨r,cl,rfl,hr⟩
        . simp only [Sem.run_bind,run_underlying hu,Result.andThen_ok,Sem.run_pure,hchk];rfl
        . simp only [Sem.run_bind,run_underlying hu,Result.andThen_ok,Sem.run_pure,Ab6 hr rfl,hchk];rfl
       rw [hrun]
       rw [Aw3]at hv
       cases hfi:findIx k es with
       | none =>
        simp [hfi]at hv
        simp only [Sem.run_bind,hfk,hfi,Option.bind_none,Result.andThen_ok,hz1,Sem.run_pure]
        refine ⟨_,rfl,?_⟩
        cases ok <;> simp at hv ⊢ <;> subst hv
        . exact hz2 ρ
        . exact .tup_mk (.cons (hz2 ρ) (.cons (.bool _) (.nil _)))
       | some i =>
        have hi:=Aw4 hfi
        simp [hfi,List.getElem?_eq_getElem hi]at hv
        obtain ⟨e',he1,he2⟩:∃ e',es'.toList[i]?=some e'/\VR ρ es[i].val e'.val:=by
         have hi':i < es'.toList.length:=by rw [<- hmer.len];exact hi
         exact ⟨_,List.getElem?_eq_getElem hi',(hmer.at_ i _ _ (List.getElem?_eq_getElem hi) (List.getElem?_eq_getElem hi')).2.1⟩
        simp only [Sem.run_bind,hfk,hfi,Option.bind_some,he1,Option.map_some,Result.andThen_ok,Sem.run_pure]
        refine ⟨_,rfl,?_⟩
        cases ok <;> simp at hv ⊢ <;> subst hv
        . exact he2
        . exact .tup_mk (.cons he2 (.cons (.bool _) (.nil _)))
     . simp at hv
   . simp at hv
end Go.Sv
namespace Go.Sv
open Go
theorem A49 {ρ:Rho} {k:V} {k':Value} {es:List ME} {es':Array MapEntry} {i:Nat} (hk:VR ρ k k') (hg:k.ground=true/\∀ e∈es,e.key.ground=true) (hm:MER ρ es es'.toList) (hi:findIx k es=some i) :
 ∃ e e',es[i]?=some e/\es'[i]?=some e'/\e'.key=k'/\VR ρ e.val e'.val/\e'.born=e.born/\e.key=k/\Instr.sameBits 10000 e'.key k'=true:=by
 obtain ⟨e,h1,h2,_⟩:=AC7 k .undef es i hi
 have hlt:=Aw4 hi
 have hlt':i < es'.toList.length:=by rw [<- hm.len];exact hlt
 have h3:=hm.at_ i e _ h1 (List.getElem?_eq_getElem hlt')
 have hek:k=e.key:=AZ8 h2
 have hk1:=hk.keyVal hg.1
 have hk2:=h3.1.keyVal (hg.2 e (List.mem_of_getElem? h1))
 refine ⟨e,es'.toList[i],h1,by simpa using List.getElem?_eq_getElem hlt',by rw [hk2,hk1,hek],h3.2.1,h3.2.2,hek.symm,?_⟩
 rw [hk2,hk1,hek]
 exact AU1 (hek ▸ hg.1)
theorem AA8 {P:Program} {w:World} {a b:Value} (h:Instr.sameBits 10000 a b=true):(Instr.keyThatStays a b).run P w=.ok b w:=by
 simp [Instr.keyThatStays,h]
theorem Am0 (es:Array MapEntry) (i:Nat) (f:MapEntry->MapEntry) {e:MapEntry} (h:es[i]?=some e):(es.modify i f).toList=es.toList.set i (f e):=by
 apply List.ext_getElem?
 intro j
 have hi:=(Array.getElem?_eq_some_iff.1 h).1
 rw [List.getElem?_set]
 have:(es.modify i f).toList[j]?=(es.modify i f)[j]?:=Array.getElem?_toList
 rw [this,Array.getElem?_modify]
 by_cases hij:i=j
 . subst hij
   rw [if_pos rfl,if_pos rfl,h]
   simp [hi]
 . rw [if_neg hij,if_neg hij];simp
theorem Ap9 {P:Program} {base:Nat} {W:World} {ρ:Rho} {A A':AS} {w:World} (h:Inv P base W ρ A w) {t:TypeId} {m k x:V} {m' k' x':Value}
 (hm:VR ρ m m') (hk:VR ρ k k') (hx:VR ρ x x') (hv:evMapUpdate P t m k x A=some A'):∃ w',(Instr.mapUpdate t m' k' x').run P w=.ok () w'/\Adv P base W ρ A w ρ A' w':=by
 unfold evMapUpdate at hv
 split at hv
 . rename_i kt et r hmt
   have hu:=Ap2 hmt
   split at hv
   . rename_i mo hmo
     split at hv
     . rename_i hko
       simp only [Option.some.injEq]at hv
       cases hm with
       | map hr =>
        rename_i y
        obtain ⟨hb,mo1,es',h1,h2,h3⟩:=h.map r y hr
        rw [hmo]at h1;cases h1
        have hfk:=Ah5 hko hk h3 w
        have hchk:=Af0 (ρ:=ρ) hko hk
        have hg:=AA7 hko
        rw [Aw3]at hv
        have hpre:(Instr.mapUpdate t (.map (some y)) k' x').run P w=((do
         match <- Instr.findKey kt k' es'.toList with
         | some (i,_)=>do
          let key <- Instr.keyThatStays (((es'[i]?).map (·.key)).getD k') k'
          setObj y (.map (es'.modify i fun e=>{ e with key,val:=x' }) mo.clock)
         | none=>setObj y (.map (es'.push { key:=k',val:=x',born:=mo.clock }) (mo.clock+1)):Sem Unit)).run P w:=by
         unfold Instr.mapUpdate
         simp only [Sem.run_bind,run_underlying hu,Result.andThen_ok,Ab6 h2 rfl,hchk];rfl
        rw [hpre]
        cases hfi:findIx k mo.es with
        | none =>
         simp only [hfi,Option.bind_none]at hv
         subst hv
         refine ⟨_,?_,h.putMap (mo:=⟨mo.es++[⟨k,x,mo.clock⟩],mo.clock+1⟩) hr (es2:=es'.push { key:=k',val:=x',born:=mo.clock }) ?_⟩
         . simp only [Sem.run_bind, hfk, hfi, Option.bind_none, Result.andThen_ok]
           exact Ac6 _ h2 rfl
         . simpa using h3.push (e:=⟨k,x,mo.clock⟩) (e':={ key:=k',val:=x',born:=mo.clock }) ⟨hk,hx,rfl⟩
        | some i =>
         obtain ⟨e,e',e1,e2,e3,e4,e5,e6,e7⟩:=A49 hk hg h3 hfi
         obtain ⟨e0,q1,_,q3⟩:=AC7 k x mo.es i hfi
         rw [e1]at q1;cases q1
         simp only [hfi,Option.bind_some,e1]at hv
         subst hv
         have e2':es'.toList[i]?=some e':=by simpa using e2
         refine ⟨_,?_,h.putMap (mo:=⟨setME k x mo.es,mo.clock⟩) hr (es2:=es'.modify i fun e=>{ e with key:=k',val:=x' }) ?_⟩
         . simp only [Sem.run_bind, hfk, hfi, Option.bind_some, e2', Option.map_some, Result.andThen_ok, e2, Option.getD_some, AA8 e7]
           exact Ac6 _ h2 rfl
         . rw [q3, Am0 _ _ _ e2]
           exact h3.set ⟨hk,hx,e5⟩
     . simp at hv
   . simp at hv
 . simp at hv
theorem AF2 {P:Program} {base:Nat} {W:World} {ρ:Rho} {A A':AS} {w:World} (h:Inv P base W ρ A w) {t:TypeId} {m k v:V} {m' k':Value}
 (hm:VR ρ m m') (hk:VR ρ k k') (hv:evMapEntry P t m k A=some (v,A')):∃ v' w',(Instr.mapEntry t m' k').run P w=.ok v' w'/\VR ρ v v'/\Adv P base W ρ A w ρ A' w':=by
 unfold evMapEntry at hv
 split at hv
 . rename_i kt et r hmt
   have hu:=Ap2 hmt
   split at hv
   . rename_i mo z hmo hz
     split at hv
     . rename_i hko
       cases hm with
       | map hr =>
        rename_i y
        obtain ⟨hb,mo1,es',h1,h2,h3⟩:=h.map r y hr
        rw [hmo]at h1;cases h1
        have hfk:=Ah5 hko hk h3 w
        have hchk:=Af0 (ρ:=ρ) hko hk
        have hg:=AA7 hko
        obtain ⟨z',hz1,hz2⟩:=Aj1 hz w
        rw [Aw3]at hv
        have hpre:(Instr.mapEntry t (.map (some y)) k').run P w=((do
         match <- Instr.findKey kt k' es'.toList with
         | some (i,v)=>do
          let key <- Instr.keyThatStays (((es'[i]?).map (·.key)).getD k') k'
          setObj y (.map (es'.modify i fun e=>{ e with key }) mo.clock)
          pure (.tuple #[v,goInt (((es'[i]?).map (·.born)).getD 0)])
         | none =>
          let zero <- zeroValue et
          setObj y (.map (es'.push { key:=k',val:=zero,born:=mo.clock }) (mo.clock+1))
          pure (.tuple #[zero,goInt mo.clock]):Sem Value)).run P w:=by
         unfold Instr.mapEntry
         simp only [Sem.run_bind,run_underlying hu,Result.andThen_ok,Ab6 h2 rfl,hchk];rfl
        rw [hpre]
        cases hfi:findIx k mo.es with
        | none =>
         simp only [hfi,Option.bind_none,Option.some.injEq,Prod.mk.injEq]at hv
         obtain ⟨rfl,rfl⟩:=hv
         refine ⟨_,_,?_,.tup_mk (.cons (hz2 ρ) (.cons (.int _ _) (.nil _))),h.putMap (mo:=⟨mo.es++[⟨k,z,mo.clock⟩],mo.clock+1⟩) hr (es2:=es'.push { key:=k',val:=z',born:=mo.clock }) ?_⟩
         . simp only [Sem.run_bind,hfk,hfi,Option.bind_none,Result.andThen_ok,hz1,Ac6 _ h2 rfl,Sem.run_pure,goInt]
         . simpa using h3.push (e:=⟨k,z,mo.clock⟩) (e':={ key:=k',val:=z',born:=mo.clock }) ⟨hk,hz2 ρ,rfl⟩
        | some i =>
         obtain ⟨e,e',e1,e2,e3,e4,e5,e6,e7⟩:=A49 hk hg h3 hfi
         obtain ⟨e0,q1,_,q3⟩:=AC7 k e.val mo.es i hfi
         rw [e1]at q1;cases q1
         simp only [hfi,Option.bind_some,e1,Option.some.injEq,Prod.mk.injEq]at hv
         obtain ⟨rfl,rfl⟩:=hv
         have e2':es'.toList[i]?=some e':=by simpa using e2
         refine ⟨_,_,?_,.tup_mk (c':=#[e'.val,.int .i64 e.born]) (.cons e4 (.cons (.int _ _) (.nil _))),h.putMap (mo:=⟨setME k e.val mo.es,mo.clock⟩) hr (es2:=es'.modify i fun e=>{ e with key:=k' }) ?_⟩
         . simp only [Sem.run_bind,hfk,hfi,Option.bind_some,e2',Option.map_some,Result.andThen_ok,e2,Option.getD_some,AA8 e7,Ac6 _ h2 rfl,Sem.run_pure,goInt,e5]
         . rw [q3, Am0 _ _ _ e2]
           exact h3.set ⟨hk,e4,e5⟩
     . simp at hv
   . simp at hv
 . simp at hv
theorem AK3 (n:Int) (v:V):∀ (es es2:List ME),setBorn n v es=some es2->∃ (i:Nat) (e:ME),es[i]?=some e/\(e.born:Int)=n/\es2=es.set i { e with val:=v }/\∀ (j:Nat) (e':ME),j < i->es[j]?=some e'->(e'.born:Int)≠n
 | [],_,h=>by simp [setBorn]at h
 | e::es,es2,h=>by
  unfold setBorn at h
  split at h
  . rename_i hb
    simp at h;subst h
    exact ⟨0,e,rfl,hb,rfl,fun j e' hj _=>by omega⟩
  . rename_i hb
    cases hq:setBorn n v es with
    | none=>simp [hq]at h
    | some es3 =>
     simp [hq]at h;subst h
     obtain ⟨i,e',h1,h2,h3,h4⟩:=AK3 n v es es3 hq
     refine ⟨i+1,e',by simpa using h1,h2,by rw [h3];rfl,fun j e'' hj he''=>?_⟩
     cases j with
     | zero=>simp at he'';subst he'';exact hb
     | succ j=>exact h4 j e'' (by omega) (by simpa using he'')
theorem Az4 {P:Program} {base:Nat} {W:World} {ρ:Rho} {A A':AS} {w:World} (h:Inv P base W ρ A w) {t:TypeId} {m s x:V} {m' s' x':Value}
 (hm:VR ρ m m') (hs:VR ρ s s') (hx:VR ρ x x') (hv:evEntryStore m s x A=some A'):∃ w',(Instr.entryStore t m' s' x').run P w=.ok () w'/\Adv P base W ρ A w ρ A' w':=by
 unfold evEntryStore at hv
 split at hv
 . rename_i r k n
   have:=hs.int_inv
   subst this
   split at hv
   . rename_i mo hmo
     cases hq:setBorn n x mo.es with
     | none=>simp [hq]at hv
     | some es2 =>
      simp [hq]at hv;subst hv
      obtain ⟨i,e,h4,h5,h6,h7⟩:=AK3 n x mo.es es2 hq
      cases hm with
      | map hr =>
       rename_i y
       obtain ⟨hb,mo1,es',h1,h2,h3⟩:=h.map r y hr
       rw [hmo]at h1;cases h1
       have hlt:i < es'.toList.length:=by rw [<- h3.len];exact (List.getElem?_eq_some_iff.1 h4).1
       have h8:=h3.at_ i e _ h4 (List.getElem?_eq_getElem hlt)
       have hidx:es'.findIdx? (fun e=>(e.born:Int) == n)=some i:=by
        rw [Array.findIdx?_eq_some_iff_getElem]
        refine ⟨by simpa using hlt,?_,fun j hj=>?_⟩
        . have : es'[i]'(by simpa using hlt) = es'.toList[i] := by simp
          rw [this,h8.2.2,h5];simp
        . have hj' : j < es'.toList.length := by omega
          have hj2:j < mo.es.length:=by rw [h3.len];exact hj'
          have h9:=h3.at_ j _ _ (List.getElem?_eq_getElem hj2) (List.getElem?_eq_getElem hj')
          have h10:=h7 j _ hj (List.getElem?_eq_getElem hj2)
          have:es'[j]'(by simpa using hj')=es'.toList[j]:=by simp
          rw [this,h9.2.2]
          simpa using h10
       have he':es'[i]?=some es'.toList[i]:=by simpa using List.getElem?_eq_getElem hlt
       refine ⟨_,?_,h.putMap (mo:=⟨es2,mo.clock⟩) hr (es2:=es'.modify i fun e=>{ e with val:=x' }) ?_⟩
       . unfold Instr.entryStore
         simp only [Sem.run_bind,Ab6 h2 rfl,Result.andThen_ok,asInt,asIntOf,Sem.run_pure,hidx]
         exact Ac6 _ h2 rfl
       . rw [h6, Am0 _ _ _ he']
         exact h3.set ⟨h8.1,hx,h8.2.2⟩
   . simp at hv
 . simp at hv
theorem AF3 (es:Array MapEntry) {i:Nat} (hi:i < es.size):(es.eraseIdxIfInBounds i).toList=es.toList.eraseIdx i:=by
 simp [Array.eraseIdxIfInBounds,hi]
theorem AO1 {P:Program} {base:Nat} {W:World} {ρ:Rho} {A A':AS} {w:World} (h:Inv P base W ρ A w) {t t2 ty:TypeId} {m k:V} {m' k':Value}
 (hm:VR ρ m m') (hk:VR ρ k k') (hv:evDelete P t m k A=some A'):∃ w',(Builtin.delete_ #[t,t2] ty #[m',k']).run P w=.ok (.tuple #[]) w'/\Adv P base W ρ A w ρ A' w':=by
 unfold evDelete at hv
 split at hv
 . rename_i kt et hmt
   have hu:=Ap2 hmt
   split at hv
   . rename_i hko
     simp at hv;subst hv
     cases hm
     refine ⟨w,?_,.refl h⟩
     simp [Builtin.delete_,run_underlying hu,Af0 (ρ:=ρ) hko hk]
   . simp at hv
 . rename_i kt et r hmt
   have hu:=Ap2 hmt
   split at hv
   . rename_i mo hmo
     split at hv
     . rename_i hko
       simp at hv;subst hv
       cases hm with
       | map hr =>
        rename_i y
        obtain ⟨hb,mo1,es',h1,h2,h3⟩:=h.map r y hr
        rw [hmo]at h1;cases h1
        have hfk:=Ah5 hko hk h3 w
        have hchk:=Af0 (ρ:=ρ) hko hk
        cases hfi:findIx k mo.es with
        | none =>
         refine ⟨_,?_,h.putMap (mo:=⟨eraseME k mo.es,mo.clock⟩) hr (es2:=es') ?_⟩
         . simp [Builtin.delete_,run_underlying hu,Ab6 h2 rfl,hchk,hfk,hfi,Ac6 _ h2 rfl]
         . rw [Az3,hfi];exact h3
        | some i =>
         have hlt:i < es'.toList.length:=by rw [<- h3.len];exact Aw4 hfi
         have he':es'.toList[i]?=some es'.toList[i]:=List.getElem?_eq_getElem hlt
         refine ⟨_,?_,h.putMap (mo:=⟨eraseME k mo.es,mo.clock⟩) hr (es2:=es'.eraseIdxIfInBounds i) ?_⟩
         . unfold Builtin.delete_
           simp only [List.getElem?_toArray,List.getElem?_cons_zero,List.getElem?_cons_succ,Sem.run_bind,run_underlying hu,Result.andThen_ok,Ab6 h2 rfl,hchk,hfk,hfi,Option.bind_some,he',Option.map_some,Ac6 _ h2 rfl,Sem.run_pure]
         . rw [Az3, hfi, AF3 _ (by simpa using hlt)]
           exact h3.erase i
     . simp at hv
   . simp at hv
 . simp at hv
theorem AU2 {P:Program} {base:Nat} {W:World} {ρ:Rho} {A A':AS} {w:World} (h:Inv P base W ρ A w) {t ty:TypeId} {m:V} {m':Value}
 (hm:VR ρ m m') (hv:evClear P t m A=some A'):∃ w',(Builtin.clear_ #[t] ty #[m']).run P w=.ok (.tuple #[]) w'/\Adv P base W ρ A w ρ A' w':=by
 unfold evClear at hv
 split at hv
 . rename_i q hmt
   obtain ⟨kt,et⟩:=q
   have hu:=Ap2 hmt
   simp at hv;subst hv
   cases hm
   exact ⟨w,by simp [Builtin.clear_,run_underlying hu],.refl h⟩
 . rename_i q r hmt
   obtain ⟨kt,et⟩:=q
   have hu:=Ap2 hmt
   split at hv
   . rename_i mo hmo
     simp at hv;subst hv
     cases hm with
     | map hr =>
      rename_i y
      obtain ⟨hb,mo1,es',h1,h2,h3⟩:=h.map r y hr
      rw [hmo]at h1;cases h1
      refine ⟨_,?_,h.putMap (mo:=⟨[],mo.clock⟩) hr (es2:=#[]) ⟨rfl,fun _ _ _ a _=>by simp at a⟩⟩
      simp [Builtin.clear_,run_underlying hu,Ab6 h2 rfl,Ac6 _ h2 rfl]
   . simp at hv
 . simp at hv
end Go.Sv
