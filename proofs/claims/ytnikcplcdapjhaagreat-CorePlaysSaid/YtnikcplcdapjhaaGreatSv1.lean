/- The abstract machine: values, memory, and a computable evaluator of the program's code, with no tape and no capacities. Definitions alone. -/
import GoSem.Step
import Derived.Deep.AppendSrc
import Derived.RangeFuncRecord
import Derived.Deep.Upon
import Derived.DeepKeys3
set_option linter.unnecessarySimpa false
set_option linter.unusedSimpArgs false
set_option linter.unusedVariables false
namespace Go.Sv
theorem DF {p : Prop} [Decidable p] (h : ¬p) : decide p = false := decide_eq_false h
theorem DT {p : Prop} [Decidable p] (h : p) : decide p = true := decide_eq_true h
theorem LG {α : Type _} {l : List α} {i : Nat} {a : α} : l[i]? = some a ↔ ∃ h : i < l.length, l[i] = a := List.getElem?_eq_some_iff
theorem LH {α : Type _} {l : List α} {i : Nat} (h : i < l.length) : l[i]? = some l[i] := List.getElem?_eq_getElem h
inductive V where
 |undef
 |bool (b:Bool)
 |int (k:IntKind) (n:Int)
 |str (s:List UInt8)
 |eg
 |ptr (b o:Nat)
 |ah
 |sl (b o n sz:Nat)
 |gm
 |map (r:Nat)
 |iP
 |fn (f:FuncId) (first captured:List V)
 |yield (l:Nat)
 |iter (i:Nat)
 |agg (cs:List V)
 |tup (cs:List V)
 deriving Inhabited
def V.one:V->Bool
 |.undef | .agg _ | .tup _ | .iter _=>false
 | _=>true
def V.flat:V->Bool
 |.bool _ | .int _ _ | .str _=>true
 | _=>false
def V.ground:V->Bool
 |.bool _ | .int _ _ | .str _=>true
 |.agg cs=>cs.all V.flat
 | _=>false
def V.fZ:V->V->Bool
 |.bool a,.bool b=>a == b
 |.int j a,.int k b=>j == k && a == b
 |.str a,.str b=>a == b
 | _,_=>false
def aN:List V->List V->Bool
 |[],[]=>true
 |a::as,b::bs=>V.fZ a b && aN as bs
 | _,_=>false
def V.bU:V->V->Bool
 |.agg a,.agg b=>aN a b
 |a,b=>V.fZ a b
mutual
def V.beq:V->V->Bool
 |.undef,.undef=>true
 |.bool a,.bool b=>a == b
 |.int j a,.int k b=>j == k && a == b
 |.str a,.str b=>a == b
 |.eg,.eg=>true
 |.ptr a b,.ptr c d=>a == c && b == d
 |.ah,.ah=>true
 |.sl a b c d,.sl e f g h=>a == e && b == f && c == g && d == h
 |.gm,.gm=>true
 |.map a,.map b=>a == b
 |.iP,.iP=>true
 |.fn f a b,.fn g c d=>f == g && jP a c && jP b d
 |.yield a,.yield b=>a == b
 |.iter a,.iter b=>a == b
 |.agg a,.agg b=>jP a b
 |.tup a,.tup b=>jP a b
 | _,_=>false
def jP:List V->List V->Bool
 |[],[]=>true
 |a::as,b::bs=>V.beq a b && jP as bs
 | _,_=>false
end
def V.cells:V->Option (List V)
 |.undef | .tup _ | .iter _=>none
 |.agg cs=>some cs
 |v=>some [v]
inductive BK where
 |var
 |ro
 |arr (fam base:Nat)
 deriving Inhabited,DecidableEq
structure Blk where
 cells:List V
 kind:BK
 deriving Inhabited
structure ME where
 key:V
 val:V
 born:Nat
 deriving Inhabited
structure jQ where
 es:List ME
 clock:Nat
 deriving Inhabited
structure ItO where
 map:Option Nat
 since:Nat
 seen:List Nat
 cM:Nat
 deriving Inhabited
abbrev Env:=List (Nat×V)
def Env.get:Env->Nat->V
 |[],_=>.undef
 | (k,v)::r,t=>if k == t then v else Env.get r t
inductive Ex where
 |normal
 |exit (id:Nat)
 |ret
 deriving Inhabited,DecidableEq
structure ez where
 state:LoopState
 pending:Option Code
 fn:FuncId
 env:Env
 params:List Tmp
 assign:Code
 body:Code
 deriving Inhabited
structure AS where
 blk:List Blk
 maps:List jQ
 its:List ItO
 loops:List ez
 orc:Nat->Nat->Nat
 odr:Nat
 deriving Inhabited
def AS.cell(A:AS)(b o:Nat):Option V:=(A.blk[b]?).bind (·.cells[o]?)
def AS.range(A:AS)(b o n:Nat):Option (List V):=
 match A.blk[b]? with
 |some k=>if o+n<=k.cells.length then some ((k.cells.drop o).take n)else none
 |none=>none
def putAt(cs:List V)(o:Nat)(vs:List V):List V:=cs.take o++vs++cs.drop (o+vs.length)
def dD(cs:List V)(base lo hi:Nat):List V:=cs.mapIdx fun i v=>if lo<=base+i/\base+i<hi then .undef else v
def aK(fam lo hi:Nat)(k:Blk):Blk :=
 match k.kind with
 |.arr f base=>if f=fam then { k with cells:=dD k.cells base lo hi }else k
 | _=>k
def AS.a8(A:AS)(fam lo hi:Nat)(but:Option Nat):AS :=
 { A with blk:=A.blk.mapIdx fun i k=>if some i=but then k else aK fam lo hi k }
def AS.bN(A:AS)(b:Nat)(cs:List V):AS:={ A with blk:=A.blk.modify b fun k=>{ k with cells:=cs } }
def AS.put(A:AS)(b o:Nat)(vs:List V):Option AS :=
 match A.blk[b]? with
 |none=>none
 |some k =>
  if o+vs.length<=k.cells.length/\vs.all V.one then
   match k.kind with
   |.ro=>none
   |.var=>some (A.bN b (putAt k.cells o vs))
   |.arr fam base=>some ((A.bN b (putAt k.cells o vs)).a8 fam (base+o) (base+o+vs.length) (some b))
  else none
def AS.push(A:AS)(k:Blk):AS:={ A with blk:=A.blk++[k] }
def AS.bQ(A:AS)(m:jQ):AS:={ A with maps:=A.maps++[m] }
def AS.cY(A:AS)(r:Nat)(m:jQ):AS:={ A with maps:=A.maps.set r m }
def AS.jR(A:AS)(m:ItO):AS:={ A with its:=A.its++[m] }
def AS.mE(A:AS)(r:Nat)(m:ItO):AS:={ A with its:=A.its.set r m }
def AS.aS(A:AS)(m:ez):AS:={ A with loops:=A.loops++[m] }
def AS.ay(A:AS)(r:Nat)(m:ez):AS:={ A with loops:=A.loops.set r m }
def szT(P:Program)(t:TypeId):Option Nat:=(P.info? t).map (·.size)
def ct(P:Program)(t:TypeId):Option Nat:=(P.info? t).map (·.bytes)
def aH(P:Program)(t:TypeId):Option Bool :=
 match P.underlying t with
 |some (.struct _) | some (.array _ _)=>some true
 |some _=>some false
 |none=>none
def kI:Value->Option V
 |.bool b=>some (.bool b)
 |.int k n=>some (.int k n)
 |.string s=>some (.str s.data.toList)
 |.pointer none=>some .eg
 |.slice none 0 0=>some .ah
 |.map none=>some .gm
 |.nilFunc=>some .iP
 | _=>none
def iA:List Value->Option (List V)
 |[]=>some []
 |v::vs=>match kI v,iA vs with | some x,some xs=>some (x::xs) | _,_=>none
def gn:Value->Option V
 |.agg cs=>(iA cs.toList).map .agg
 |.tuple cs=>match cs.toList with | []=>some (.tup []) | _=>none
 |v=>kI v
def aC(P:Program)(t:TypeId):Option V:=((P.info? t).bind (·.zero)).bind gn
def jE(P:Program)(t:TypeId):Option (Array Field):=
 match P.underlying t with
 |some (.struct fs)=>some fs
 | _=>none
inductive CK where
 |bool
 |int (k:IntKind)
 |str
 deriving DecidableEq,Inhabited
def CK.fits:CK->V->Bool
 |.bool,.bool _=>true
 |.int k,.int j _=>k == j
 |.str,.str _=>true
 | _,_=>false
def an:List CK->List V->Bool
 |[],[]=>true
 |c::cs,v::vs=>c.fits v && an cs vs
 | _,_=>false
def di(P:Program)(rec:TypeId->Option (List CK)):Nat->List Field->Option (List CK)
 | _,[]=>some []
 |at_,f::fs =>
  if f.name = "_" ∨ f.offset ≠ at_ then none else
  match rec f.type,szT P f.type with
  |some l,some s=>if s=l.length/\0<s then match di P rec (at_+l.length) fs with
   |none=>none
   |some r=>some (l++r)
   else none
  | _,_=>none
def bT(P:Program):(depth:Nat)->TypeId->Option (List CK)
 | 0,_=>none
 |d+1,t =>
  match P.underlying t with
  |some .bool=>some [.bool]
  |some (.int k)=>some [.int k]
  |some .string=>some [.str]
  |some (.array n e) =>
   match bT P d e,szT P e with
   |some l,some s=>if s=l.length then some (List.replicate n l).flatten else none
   | _,_=>none
  |some (.struct fs)=>if P.stoodInHeld t then none else di P (bT P d) 0 fs.toList
  | _=>none
def bg(op:BinOp)(k:IntKind)(x y:Int):Option V :=
 if y<0 then none
 else
  let n:=min y.toNat k.bits
  match op with
  |.shl=>some (.int k (k.wrap (x*2^n)))
  |.shr=>some (.int k (x.fdiv (2^n)))
  | _=>none
def ck(op:BinOp)(k:IntKind)(x y:Int):Option V :=
 let a:=BitVec.ofInt k.bits x
 let b:=BitVec.ofInt k.bits y
 match op with
 |.and=>some (.int k (k.wrap (a &&& b).toNat))
 |.or=>some (.int k (k.wrap (a ||| b).toNat))
 |.xor=>some (.int k (k.wrap (a ^^^ b).toNat))
 |.andNot=>some (.int k (k.wrap (a &&& ~~~b).toNat))
 | _=>none
def eO(op:BinOp)(k:IntKind)(x y:Int):Option V :=
 match op with
 |.add=>some (.int k (k.wrap (x+y)))
 |.sub=>some (.int k (k.wrap (x-y)))
 |.mul=>some (.int k (k.wrap (x*y)))
 |.quo=>if y=0 then none else some (.int k (k.wrap (x.tdiv y)))
 |.rem=>if y=0 then none else some (.int k (x.tmod y))
 |.and | .or | .xor | .andNot=>ck op k x y
 |.eql=>some (.bool (x == y))
 |.neq=>some (.bool (x != y))
 |.lss=>some (.bool (decide (x<y)))
 |.leq=>some (.bool (decide (x<=y)))
 |.gtr=>some (.bool (decide (x>y)))
 |.geq=>some (.bool (decide (x>=y)))
 | _=>none
def iY(op:BinOp)(x y:List UInt8):Option V :=
 match op with
 |.add=>if x.length+y.length<=9223372036854775807 then some (.str (x++y))else none
 |.eql=>some (.bool (x == y))
 |.neq=>some (.bool (!(x == y)))
 | _=>none
def fO(P:Program)(t:TypeId):V->V->Option Bool
 |.bool a,.bool b=>match P.underlying t with | some .bool=>some (a == b) | _=>none
 |.eg,.eg=>match P.underlying t with | some (.pointer _)=>some true | _=>none
 |.eg,.ptr _ _=>match P.underlying t with | some (.pointer _)=>some false | _=>none
 |.ptr _ _,.eg=>match P.underlying t with | some (.pointer _)=>some false | _=>none
 |.ah,.ah=>match P.underlying t with | some (.slice _)=>some true | _=>none
 |.ah,.sl ..=>match P.underlying t with | some (.slice _)=>some false | _=>none
 |.sl ..,.ah=>match P.underlying t with | some (.slice _)=>some false | _=>none
 |.agg xs,.agg ys =>
  match bT P 50 t,aH P t with
  |some sh,some true=>if an sh xs && an sh ys && !P.eqGuardType P.depth t then some (aN xs ys)else none
  | _,_=>none
 | _,_=>none
def aw(P:Program)(op:BinOp)(t:TypeId)(x y:V):Option V :=
 match op,x,y with
 |.shl,.int k a,.int _ b=>bg .shl k a b
 |.shr,.int k a,.int _ b=>bg .shr k a b
 |op,.int k a,.int k' b=>if k=k' then eO op k a b else none
 |op,.str a,.str b=>iY op a b
 |.eql,x,y=>(fO P t x y).map .bool
 |.neq,x,y=>(fO P t x y).map fun b=>.bool (!b)
 | _,_,_=>none
def lg(op:UnOp):V->Option V
 |.int k n =>
  match op with
  |.neg=>some (.int k (k.wrap (0-n)))
  |.xor=>ck .xor k (if k.signed then -1 else k.max) n
  | _=>none
 |.bool b=>match op with | .not=>some (.bool (!b)) | _=>none
 | _=>none
def eP(place:Nat->Option (Nat×Nat))(cells:List V):List (Nat×V)->Option (List V)
 |[]=>some cells
 | (i,v)::rest =>
  match place i,v.cells with
  |some (off,size),some cs=>if cs.length=size/\off+size<=cells.length then eP place (putAt cells off cs) rest else none
  | _,_=>none
def iZ(P:Program)(fs:Array Field)(i:Nat):Option (Nat×Nat):=
 match fs[i]? with
 |some f=>(szT P f.type).map fun s=>(f.offset,s)
 |none=>none
def au(P:Program)(t:TypeId)(parts:List (Nat×V)):Option V :=
 match aC P t with
 |some (.agg zero) =>
  match P.underlying t with
  |some (.struct fs)=>if fs.all (fun f=>(szT P f.type).isSome)then(eP (iZ P fs) zero parts).map .agg else none
  |some (.array _ e) =>
   match szT P e with
   |some s=>(eP (fun i=>some (i*s,s)) zero parts).map .agg
   |none=>none
  | _=>none
 | _=>none
def du(z:List V):Nat->List V
 | 0=>[]
 |n+1=>z++du z n
def mF(P:Program)(t:TypeId)(cs:List V)(off:Nat):Option V :=
 match aH P t,szT P t with
 |some true,some n=>if off+n<=cs.length then some (.agg ((cs.drop off).take n))else none
 |some false,_=>cs[off]?
 | _,_=>none
def gM(P:Program)(t:TypeId)(x:V)(i:Nat):Option V :=
 match x,jE P t with
 |.agg cs,some fs=>match fs[i]? with | some f=>mF P f.type cs f.offset | none=>none
 | _,_=>none
def dU(P:Program)(t:TypeId)(x i:V):Option V :=
 match x,i with
 |.agg cs,.int _ n =>
  match P.underlying t with
  |some (.array len e)=>match szT P e with
   |some s=>if 0<=n/\n<len then mF P e cs (n.toNat*s)else none
   |none=>none
  | _=>none
 |.str s,.int _ n =>
  match P.underlying t with
  |some .string=>if 0<=n then(s[n.toNat]?).map fun b=>.int .u8 b.toNat else none
  | _=>none
 | _,_=>none
def ae(P:Program)(t:TypeId)(x:V)(i:Nat):Option V :=
 match x,jE P t with
 |.ptr b o,some fs =>
  match fs[i]? with
  |some f=>match szT P f.type with
   |some (_+1)=>some (.ptr b (o+f.offset))
   | _=>none
  |none=>none
 | _,_=>none
def aj(P:Program)(t:TypeId)(x i:V):Option V :=
 match P.underlying t,x,i with
 |some (.array len e),.ptr b o,.int _ n =>
  match szT P e with
  |some s=>if 0<=n/\n<len then some (.ptr b (o+n.toNat*s))else none
  |none=>none
 |some (.slice e),.sl b o len sz,.int _ n =>
  match szT P e with
  |some s=>if s=sz/\0<=n/\n<len then some (.ptr b (o+n.toNat*s))else none
  |none=>none
 | _,_,_=>none
def aV(d:Nat)(top:Nat):Option V->Option Nat
 |none=>some d
 |some (.int _ n)=>if 0<=n/\n<=top then some n.toNat else none
 |some _=>none
def aE(P:Program)(t:TypeId)(x:V)(lo hi mx:Option V)(A:AS):Option V :=
 match P.underlying t,x with
 |some .string,.str s =>
  match mx,aV s.length s.length hi with
  |none,some h=>match aV 0 h lo with
   |some l=>some (.str ((s.take h).drop l))
   |none=>none
  | _,_=>none
 |some (.slice e),.sl b o n sz =>
  match szT P e,aV n n mx with
  |some s,some m=>if s≠sz∨(mx.isSome/\hi.isNone)then none else
   match aV n (if mx.isSome then m else n) hi with
   |some h=>match aV 0 h lo with
    |some l=>some (.sl b (o+l*sz) (h-l) sz)
    |none=>none
   |none=>none
  | _,_=>none
 |some (.slice e),.ah =>
  match szT P e,aV 0 0 mx with
  |some _,some m=>if mx.isSome/\hi.isNone then none else
   match aV 0 (if mx.isSome then m else 0) hi with
   |some h=>match aV 0 h lo with
    |some _=>some .ah
    |none=>none
   |none=>none
  | _,_=>none
 |some (.array n e),.ptr b o =>
  match szT P e,mx,aV n n hi with
  |some (s+1),none,some h=>match aV 0 h lo,A.range b o (n*(s+1))with
   |some l,some _=>some (.sl b (o+l*(s+1)) (h-l) (s+1))
   | _,_=>none
  | _,_,_=>none
 | _,_=>none
def jS(P:Program)(t:TypeId)(x:V):Option V :=
 match P.underlying t,x with
 |some (.array n _),.sl b o (len+1) _=>if n<=len+1 then some (.ptr b o)else none
 | _,_=>none
def dE:V->Option V
 |.ptr b o=>some (.ptr b o)
 |.fn f a c=>some (.fn f a c)
 |.yield l=>some (.yield l)
 | _=>none
def aa(P:Program)(t:TypeId)(x:V)(A:AS):Option V :=
 match x,aH P t,szT P t with
 |.ptr b o,some true,some n=>(A.range b o n).map .agg
 |.ptr b o,some false,_=>A.cell b o
 | _,_,_=>none
def bytesOf:List V->Option (List UInt8)
 |[]=>some []
 |.int .u8 n::r=>(bytesOf r).map ((UInt8.ofNat n.toNat)::·)
 | _=>none
def aU(P:Program)(s d:TypeId)(x:V)(A:AS):Option V :=
 match x with
 |.int _ n=>match P.underlying s,P.underlying d with
  |some _,some (.int k)=>some (.int k (k.wrap n))
  | _,_=>none
 |.str b=>match P.underlying s,P.underlying d with
  |some .string,some .string=>some (.str b)
  | _,_=>none
 |.ah=>match P.underlying s,P.underlying d with
  |some (.slice e),some .string=>match P.underlying e with
   |some (.int .u8)=>some (.str [])
   | _=>none
  | _,_=>none
 |.sl b o n sz=>match P.underlying s,P.underlying d with
  |some (.slice e),some .string=>match P.underlying e with
   |some (.int .u8)=>if sz=1 then match A.range b o n with
    |some cs=>(bytesOf cs).map .str
    |none=>none
    else none
   | _=>none
  | _,_=>none
 | _=>none
def ic(P:Program)(s d:TypeId)(x:V)(A:AS):Option V :=
 match x with
 |.sl b o (n+1) 1=>if s=d then match P.underlying s with
  |some (.slice e)=>match P.underlying e,A.blk[b]? with
   |some (.int .u8),some ⟨_,.arr _ _⟩=>some (.sl b o (n+1) 1)
   | _,_=>none
  | _=>none
  else none
 | _=>none
def gN(k:V):List ME->Option ME
 |[]=>none
 |e::es=>if V.bU k e.key then some e else gN k es
def gO(sh:List CK):List ME->Bool
 |[]=>true
 |e::es=>(match e.key with | .agg cs=>an sh cs | v=>an sh [v]) && gO sh es
def ia(P:Program)(t:TypeId):Option (TypeId×TypeId):=
 match P.underlying t with
 |some (.map k e)=>some (k,e)
 | _=>none
def gj(P:Program)(t:TypeId)(k:V)(es:List ME):Bool :=
 match bT P 50 t,aH P t,k with
 |some sh,some true,.agg cs=>an sh cs && gO sh es && es.all (fun e=>match e.key with | .agg _=>true | _=>false)
 |some sh,some false,.agg _=>false && sh.isEmpty
 |some sh,some false,v=>an sh [v] && gO sh es && es.all (fun e=>match e.key with | .agg _=>false | _=>true)
 | _,_,_=>false
def cL(P:Program)(t:TypeId)(x k:V)(ok:Bool)(A:AS):Option V :=
 match ia P t with
 |none=>none
 |some (kt,et) =>
  let es:Option (List ME):=match x with
   |.gm=>some []
   |.map r=>(A.maps[r]?).map (·.es)
   | _=>none
  match es,aC P et with
  |some es,some z =>
   if gj P kt k es then
    match gN k es with
    |some e=>some (if ok then .tup [e.val,.bool true] else e.val)
    |none=>some (if ok then .tup [z,.bool false] else z)
   else none
  | _,_=>none
def dr(P:Program)(t:TypeId)(x:V)(A:AS):Option V :=
 match P.underlying t,x with
 |some .string,.str s=>some (.int .i64 s.length)
 |some (.array n _),_=>some (.int .i64 n)
 |some (.slice _),.sl _ _ n _=>some (.int .i64 n)
 |some (.slice _),.ah=>some (.int .i64 0)
 |some (.map _ _),.gm=>some (.int .i64 0)
 |some (.map _ _),.map r=>(A.maps[r]?).map fun m=>.int .i64 m.es.length
 | _,_=>none
def eX(f:Int->Int->Int)(k:IntKind):Int->List V->Option V
 |x,[]=>some (.int k x)
 |x,.int j y::r=>if j=k then eX f k (f x y) r else none
 | _,_=>none
def iU(f:Int->Int->Int):List V->Option V
 |.int k x::r=>eX f k x r
 | _=>none
inductive QR where
 |val (v:V)
 |cu (cells:List V)
 |aB (cells:List V) (n sz:Nat)
 |cq
def QR.value(A:AS):QR->V
 |.val v=>v
 |.cu _=>.ptr A.blk.length 0
 |.aB _ n sz=>.sl A.blk.length 0 n sz
 |.cq=>.map A.maps.length
def QR.state(A:AS):QR->AS
 |.val _=>A
 |.cu cells=>A.push ⟨cells,.var⟩
 |.aB cells _ _=>A.push ⟨cells,.arr A.blk.length 0⟩
 |.cq=>A.bQ ⟨[],0⟩
def Env.eval(e:Env):Operand->Option V
 |.tmp t=>some (e.get t)
 |.const v=>gn v
 |.global _=>none
 |.func f=>some (.fn f [] [])
def aD(e:Env):List Operand->Option (List V)
 |[]=>some []
 |x::xs=>match e.eval x,aD e xs with | some v,some vs=>some (v::vs) | _,_=>none
def a5(e:Env):List (Nat×Operand)->Option (List (Nat×V))
 |[]=>some []
 | (i,x)::xs=>match e.eval x,a5 e xs with | some v,some vs=>some ((i,v)::vs) | _,_=>none
def bR(e:Env):Option Operand->Option (Option V)
 |none=>some none
 |some x=>match e.eval x with | some v=>some (some v) | none=>none
def evQ(P:Program)(o:Oper)(e:Env)(A:AS):Option QR :=
 let v (x:Option V):Option QR:=x.map .val
 let on1 (x:Operand) (f:V->Option V):Option QR:=v ((e.eval x).bind f)
 let on2 (x y:Operand) (f:V->V->Option V):Option QR:=v ((e.eval x).bind fun a=>(e.eval y).bind fun b=>f a b)
 match o.op with
 |.move x | .assign x=>on1 x some
 |.pick c a b=>match e.eval c with
  |some (.bool true)=>on1 a some
  |some (.bool false)=>on1 b some
  | _=>none
 |.alloc t=>match (aC P t).bind V.cells with
  |some cs=>some (.cu cs)
  |none=>none
 |.box _ x=>match (e.eval x).bind V.cells with
  |some cs=>some (.cu cs)
  |none=>none
 |.build t ps=>v ((a5 e ps.toList).bind fun l=>au P t l)
 |.buildSlice t n ps =>
  match P.underlying t with
  |some (.slice et)=>match szT P et,(aC P et).bind V.cells,a5 e ps.toList with
   |some (s+1),some z,some l=>if z.length=s+1/\n*(s+1)<=16777216 then
    (eP (fun i=>some (i*(s+1),s+1)) (du z n) l).map fun cs=>.aB cs n (s+1)
    else none
   | _,_,_=>none
  | _=>none
 |.load t a=>on1 a fun x=>aa P t x A
 |.nilCheck x=>on1 x dE
 |.binOp op t x y _=>on2 x y fun a b=>aw P op t a b
 |.unOp op _ x=>on1 x fun a=>lg op a
 |.convert s d x =>
  if s=d then on1 x fun a=>ic P s d a A else
  match e.eval x with
  |some (.str b)=>match P.underlying s,P.underlying d with
   |some .string,some (.slice et)=>match P.underlying et with
    |some (.int .u8)=>some (.aB (b.map fun u=>.int .u8 u.toNat) b.length 1)
    | _=>none
   | _,_=>v (aU P s d (.str b) A)
  |some a=>v (aU P s d a A)
  |none=>none
 |.sliceToArrayPointer t x=>on1 x fun a=>jS P t a
 |.makeFunc (.func f) first cap=>match aD e first.toList,aD e cap.toList with
  |some a,some c=>some (.val (.fn f a c))
  | _,_=>none
 |.makeMap t r=>match ia P t,bR e r with
  |some _,some none=>some .cq
  |some _,some (some (.int _ _))=>some .cq
  | _,_=>none
 |.makeSlice t l c =>
  match P.underlying t,e.eval l,e.eval c with
  |some (.slice et),some (.int _ n),some (.int _ m) =>
   match szT P et,ct P et,(aC P et).bind V.cells with
   |some (s+1),some by_,some z =>
    if z.length=s+1/\0<=n/\n=m/\n<=9223372036854775807/\by_*n<=281474976710656 then some (.aB (du z n.toNat) n.toNat (s+1))else none
   | _,_,_=>none
  | _,_,_=>none
 |.slice t x lo hi mx=>match e.eval x,bR e lo,bR e hi,bR e mx with
  |some a,some l,some h,some m=>v (aE P t a l h m A)
  | _,_,_,_=>none
 |.fieldAddr t x i=>on1 x fun a=>ae P t a i
 |.field t x i=>on1 x fun a=>gM P t a i
 |.indexAddr t x i=>on2 x i fun a b=>aj P t a b
 |.index t x i=>on2 x i fun a b=>dU P t a b
 |.lookup t x k ok=>on2 x k fun a b=>cL P t a b ok A
 |.extract t i=>on1 t fun a=>match a with | .tup vs=>vs[i]? | _=>none
 |.call { callee:=.builtin .len,args,argTypes } =>
  match args.toList,argTypes.toList with
  |[x],[t]=>on1 x fun a=>dr P t a A
  | _,_=>none
 |.call { callee:=.builtin .max,args,argTypes:=_ }=>v ((aD e args.toList).bind (iU fun x y=>if y>x then y else x))
 |.call { callee:=.builtin .min,args,argTypes:=_ }=>v ((aD e args.toList).bind (iU fun x y=>if y<x then y else x))
 | _=>none
def aR(P:Program)(t tx:TypeId)(s x:V)(A:AS):Option (V×AS):=
 match P.underlying t with
 |some (.slice e) =>
  match szT P e,ct P e,(aC P e).bind V.cells with
  |some (z+1),some by_,some zc =>
   if zc.length≠z+1 then none else
   let sz:=z+1
   let src:Option (Nat×List V):=match x with
    |.ah=>match P.underlying tx with
     |some (.slice _)=>some (0,[])
     | _=>none
    |.sl b o n sz'=>match P.underlying tx with
     |some (.slice _)=>if sz'=sz then(A.range b o (n*sz)).map fun cs=>(n,cs)else none
     | _=>none
    |.str b=>match P.underlying tx with
     |some .string=>if sz=1 then some (b.length,b.map fun u=>.int .u8 u.toNat)else none
     | _=>none
    | _=>none
   match src with
   |none=>none
   |some (n,new) =>
    if new.all V.one then
     match s with
     |.ah=>if n=0 then some (.ah,A)else if n*by_<=140737488355328/\n<=4611686018427387903 then
      some (.sl A.blk.length 0 n sz,A.push ⟨new,.arr A.blk.length 0⟩)else none
     |.sl b o len sz' =>
      if sz'≠sz then none else if n=0 then some (.sl b o len sz,A)else
      match A.blk[b]?,A.range b o (len*sz)with
      |some k,some old =>
       match k.kind with
       |.arr fam base =>
        if old.all V.one/\(len+n)*by_<=140737488355328/\len+n<=4611686018427387903 then
         some (.sl A.blk.length 0 (len+n) sz,
          (A.a8 fam (base+o+len*sz) (base+o+(len+n)*sz) none).push ⟨old++new,.arr fam (base+o)⟩)
        else none
       | _=>none
      | _,_=>none
     | _=>none
    else none
  | _,_,_=>none
 | _=>none
def gH(P:Program)(t:TypeId)(d x:V)(A:AS):Option (V×AS):=
 match P.underlying t,d,x with
 |some (.slice e),.sl b o n sz,.sl b' o' n' sz' =>
  match szT P e with
  |some s=>if s=sz/\s=sz' then
   match A.range b' o' (min n' n*sz)with
   |some cs=>(A.put b o cs).map fun A'=>(.int .i64 (min n' n:Nat),A')
   |none=>none
   else none
  |none=>none
 | _,_,_=>none
def ag(P:Program)(t:TypeId)(a x:V)(A:AS):Option AS :=
 match a,szT P t,x.cells with
 |.ptr b o,some n,some cs=>if cs.length=n then A.put b o cs else none
 | _,_,_=>none
def jT(k v:V):List ME->List ME
 |[]=>[]
 |e::es=>if V.bU k e.key then { e with key:=k,val:=v }::es else e::jT k v es
def iB(k:V):List ME->List ME
 |[]=>[]
 |e::es=>if V.bU k e.key then es else e::iB k es
def aZ(P:Program)(t:TypeId)(m k x:V)(A:AS):Option AS :=
 match ia P t,m with
 |some (kt,_),.map r =>
  match A.maps[r]? with
  |some mo =>
   if gj P kt k mo.es then
    some (A.cY r (match gN k mo.es with
     |some _=>⟨jT k x mo.es,mo.clock⟩
     |none=>⟨mo.es++[⟨k,x,mo.clock⟩],mo.clock+1⟩))
   else none
  |none=>none
 | _,_=>none
def dF(P:Program)(t:TypeId)(m k:V)(A:AS):Option (V×AS):=
 match ia P t,m with
 |some (kt,et),.map r =>
  match A.maps[r]?,aC P et with
  |some mo,some z =>
   if gj P kt k mo.es then
    match gN k mo.es with
    |some e=>some (.tup [e.val,.int .i64 e.born],A.cY r ⟨jT k e.val mo.es,mo.clock⟩)
    |none=>some (.tup [z,.int .i64 mo.clock],A.cY r ⟨mo.es++[⟨k,z,mo.clock⟩],mo.clock+1⟩)
   else none
  | _,_=>none
 | _,_=>none
def gP(n:Int)(v:V):List ME->Option (List ME)
 |[]=>none
 |e::es=>if (e.born:Int)=n then some ({ e with val:=v }::es)else(gP n v es).map (e::·)
def cN(m s x:V)(A:AS):Option AS :=
 match m,s with
 |.map r,.int _ n =>
  match A.maps[r]? with
  |some mo=>(gP n x mo.es).map fun es=>A.cY r ⟨es,mo.clock⟩
  |none=>none
 | _,_=>none
def fz(P:Program)(t:TypeId)(m k:V)(A:AS):Option AS :=
 match ia P t,m with
 |some (kt,_),.gm=>if gj P kt k [] then some A else none
 |some (kt,_),.map r =>
  match A.maps[r]? with
  |some mo=>if gj P kt k mo.es then some (A.cY r ⟨iB k mo.es,mo.clock⟩)else none
  |none=>none
 | _,_=>none
def dH(P:Program)(t:TypeId)(m:V)(A:AS):Option AS :=
 match ia P t,m with
 |some _,.gm=>some A
 |some _,.map r =>
  match A.maps[r]? with
  |some mo=>some (A.cY r ⟨[],mo.clock⟩)
  |none=>none
 | _,_=>none
def cZ(P:Program)(t:TypeId)(m:V)(A:AS):Option AS :=
 match P.underlying t,m with
 |some (.slice _),.ah=>some A
 |some (.slice e),.sl b o n sz =>
  match szT P e,(aC P e).bind V.cells with
  |some s,some z=>if n=0 then some A else if s=sz/\z.length=s/\0<s then A.put b o (du z n)else none
  | _,_=>none
 | _,_=>none
def fV(P:Program)(t:TypeId)(m:V)(A:AS):Option (V×AS):=
 match ia P t,m with
 |some _,.gm=>some (.iter A.its.length,A.jR ⟨none,0,[],0⟩)
 |some _,.map r =>
  match A.maps[r]? with
  |some mo=>some (.iter A.its.length,A.jR ⟨some r,mo.clock,[],mo.clock⟩)
  |none=>none
 | _,_=>none
def candidates(es:List ME)(it:ItO):List (Option ME):=
 let left:=es.filter fun e=>!it.seen.contains e.born
 let old:=left.filter (·.born<it.since)
 let new:=left.filter (·.born>=it.since)
 (if old.isEmpty then [none] else [])++(old++new).map some
def ie(x:V)(A:AS):Option (V×AS):=
 match x with
 |.iter i =>
  match A.its[i]? with
  |some it =>
   match it.map with
   |none=>some (.tup [.bool false],{ A with odr:=A.odr+1 })
   |some r =>
    match A.maps[r]? with
    |some mo =>
     if !it.seen.isEmpty && !mo.es.isEmpty && mo.es.all (fun e=>decide (e.born>=it.cM))then none else
     let c:=candidates mo.es it
     match c[if c.length<=1 then 0 else A.orc A.odr c.length%c.length]? with
     |some (some e)=>some (.tup [.bool true,e.key,e.val],{ A with odr:=A.odr+1 }.mE i { it with seen:=it.seen++[e.born],cM:=mo.clock })
     |some none=>some (.tup [.bool false],{ A with odr:=A.odr+1 })
     |none=>none
    |none=>none
  |none=>none
 | _=>none
def iC(x:V)(A:AS):Option V :=
 match x with
 |.iter i =>
  match A.its[i]? with
  |some ⟨some r,_,seen,cM⟩ =>
   match A.maps[r]?,seen.getLast? with
   |some mo,some stamp=>if mo.clock≠cM then none else
    match mo.es.find? (fun e=>e.born == stamp)with
    |some e=>some (.tup [e.key,e.val])
    |none=>none
   | _,_=>none
  | _=>none
 | _=>none
abbrev fS:=List (Nat×List Nat)
structure Hints where
 ak:FuncId->Nat->fS
 ground:FuncId->Option V:=fun _=>none
structure Calls where
 call:FuncId->List V->AS->Option (V×AS)
 yield:Nat->List V->AS->Option (V×AS)
def ig(C:Calls)(e:Env)(f:Operand)(args:List V)(A:AS):Option (V×AS):=
 match e.eval f with
 |some (.fn g first cap)=>C.call g (first++args++cap) A
 |some (.yield l)=>C.yield l args A
 | _=>none
def evE(P:Program)(C:Calls)(o:Oper)(e:Env)(A:AS):Option (V×AS):=
 let u (x:Option AS):Option (V×AS):=x.map fun A'=>(.tup [],A')
 match o.op with
 |.store t a x=>match e.eval a,e.eval x with
  |some p,some v=>u (ag P t p v A)
  | _,_=>none
 |.mapUpdate t m k x | .insert t m k x=>match e.eval m,e.eval k,e.eval x with
  |some m,some k,some x=>u (aZ P t m k x A)
  | _,_,_=>none
 |.mapEntry t m k=>match e.eval m,e.eval k with
  |some m,some k=>dF P t m k A
  | _,_=>none
 |.entryStore _ m s x=>match e.eval m,e.eval s,e.eval x with
  |some m,some s,some x=>u (cN m s x A)
  | _,_,_=>none
 |.range t x=>match e.eval x with
  |some x=>fV P t x A
  |none=>none
 |.next x false=>match e.eval x with
  |some x=>ie x A
  |none=>none
 |.entry x=>match e.eval x with
  |some x=>(iC x A).map fun v=>(v,A)
  |none=>none
 |.call c =>
  match aD e c.args.toList with
  |none=>none
  |some args =>
   match c.callee with
   |.value f=>ig C e f args A
   |.builtin .append=>match args,c.argTypes.toList with
    |[s,x],[t,tx]=>aR P t tx s x A
    | _,_=>none
   |.builtin .copy=>match args,c.argTypes.toList with
    |[d,x],[t,_]=>gH P t d x A
    | _,_=>none
   |.builtin .delete=>match args,c.argTypes.toList with
    |[m,k],[t,_]=>u (fz P t m k A)
    | _,_=>none
   |.builtin .clear=>match args,c.argTypes.toList with
    |[m],[t]=>u ((dH P t m A).or (cZ P t m A))
    | _,_=>none
   | _=>none
 | _=>none
def quiet(o:Oper):Bool :=
 match o.op with
 |.store .. | .mapUpdate .. | .insert .. | .mapEntry .. | .entryStore .. | .range .. | .next .. | .entry ..=>false
 |.call { callee:=.builtin .len,.. } | .call { callee:=.builtin .max,.. } | .call { callee:=.builtin .min,.. }=>true
 |.call _=>false
 | _=>true
def bG(e:Env)(o:Oper)(v:V):Env :=
 match o.dst with
 |some d=>(d,v)::e
 |none=>e
def aT(ops:Array Oper)(e:Env)(o:Oper):Option Bool :=
 match o.guard with
 |none=>some true
 |some (j,want) =>
  match (ops[j]?).bind (·.dst)with
  |none=>none
  |some d=>match e.get d with
   |.bool b=>some (b == want)
   |.tup []=>some false
   | _=>none
def iL(nt:Nat)(o:Oper):Bool:=match o.dst with |some d=>decide (d<nt) |none=>true
def fF(P:Program)(C:Calls)(nt:Nat)(ops:Array Oper)(o:Oper)(e:Env)(A:AS):Option (Env×AS):=
 if iL nt o then
  match aT ops e o with
  |some true =>
   if quiet o then
    match evQ P o e A with
    |some q=>some (bG e o (q.value A),q.state A)
    |none=>none
   else
    match evE P C o e A with
    |some (v,A')=>some (bG e o v,A')
    |none=>none
  |some false=>some (bG e o (.tup []),A)
  |none=>none
 else none
def jw(P:Program)(C:Calls)(nt:Nat)(ops:Array Oper):List Oper->Env->AS->Option (Env×AS)
 |[],e,A=>some (e,A)
 |o::r,e,A =>
  match fF P C nt ops o e A with
  |some (e',A')=>jw P C nt ops r e' A'
  |none=>none
def recheck(P:Program)(ops:Array Oper)(e:Env)(A:AS):List Nat->Bool
 |[]=>true
 |q::r =>
  (match ops[q]? with
  |some o =>
   match aT ops e o with
   |some true=>match evQ P o e A,o.dst with
    |some (.val v),some d=>V.beq v (e.get d)
    | _,_=>false
   |some false=>true
   |none=>false
  |none=>false) && recheck P ops e A r
def ij(P:Program)(C:Calls)(nt:Nat)(ops:Array Oper):fS->Env->AS->Option (Env×AS)
 |[],e,A=>some (e,A)
 | (i,rc)::r,e,A =>
  match ops[i]? with
  |none=>none
  |some o =>
   match fF P C nt ops o e A with
   |some (e',A')=>if recheck P ops e' A' rc then ij P C nt ops r e' A' else none
   |none=>none
def ca(e:Env):List Tmp->List V->Option Env
 |[],[]=>some e
 |p::ps,v::vs=>ca ((p,v)::e) ps vs
 | _,_=>none
def gQ(body:Env->AS->Option (Ex×Env×AS)):Nat->Env->AS->Option (Ex×Env×AS)
 | 0,_,_=>none
 |n+1,e,A =>
  match body e A with
  |some (.normal,e',A')=>gQ body n e' A'
  |r=>r
def jU(C:Calls)(e:Env)(g:Operand)(l:Nat)(A:AS):Option (V×AS):=
 match e.eval g with
 |some (.fn h first cap)=>C.call h (first++[.yield l]++cap) A
 | _=>none
def aM(P:Program)(H:Hints)(C:Calls)(k:Nat)(f:FuncId)(nt:Nat):Code->Env->AS->Option (Ex×Env×AS)
 |.skip,e,A=>some (.normal,e,A)
 |.label _,e,A=>some (.normal,e,A)
 |.region id ops draw,e,A =>
  if draw then(ij P C nt ops (H.ak f id) e A).map fun r=>(.normal,r.1,r.2)
  else(jw P C nt ops ops.toList e A).map fun r=>(.normal,r.1,r.2)
 |.seq a b,e,A =>
  match aM P H C k f nt a e A with
  |some (.normal,e',A')=>aM P H C k f nt b e' A'
  |r=>r
 |.cond c a b,e,A =>
  match e.eval c with
  |some (.bool true)=>aM P H C k f nt a e A
  |some (.bool false)=>aM P H C k f nt b e A
  | _=>none
 |.block id a,e,A =>
  (aM P H C k f nt a e A).map fun r=>(if r.1=.exit id then .normal else r.1,r.2.1,r.2.2)
 |.loop a,e,A=>gQ (fun e A=>aM P H C k f nt a e A) k e A
 |.scope a,e,A=>aM P H C k f nt a e A
 |.exit id,e,A=>some (.exit id,e,A)
 |.ret,e,A=>some (.ret,e,A)
 |.rangeFunc g ps as b,e,A =>
  let l:=A.loops.length
  let A1:=A.aS { state:=.ready,pending:=none,fn:=f,env:=e,params:=ps.toList,assign:=as,body:=b }
  match jU C e g l A1 with
  |some (_,A2) =>
   match A2.loops[l]? with
   |some r =>
    if r.state=.busy then none else
    let A3:=A2.ay l { r with state:=.exhausted }
    match r.pending with
    |none=>some (.normal,e,A3)
    |some .ret=>some (.ret,e,A3)
    |some (.exit id)=>some (.exit id,e,A3)
    |some _=>none
   |none=>none
  |none=>none
 |.goto _,_,_=>none
 |.refuse _,_,_=>none
def aW(P:Program)(e:Env)(A:AS):List ResultVar->Option (List V)
 |[]=>some []
 |.tmp t::r=>(aW P e A r).map (e.get t::·)
 |.cell a t::r=>match aa P t (e.get a) A,aW P e A r with
  |some v,some vs=>some (v::vs)
  | _,_=>none
def single:List V->V
 |[v]=>v
 |vs=>.tup vs
def eD:Nat->List V->Env
 | _,[]=>[]
 |i,v::vs=>(i,v)::eD (i+1) vs
mutual
def evFn(P:Program)(H:Hints):Nat->FuncId->List V->AS->Option (V×AS)
 | 0,_,_,_=>none
 |k+1,f,args,A =>
  match (if args.isEmpty then H.ground f else none)with
  |some v=>some (v,A)
  |none =>
  match P.funcs[f]? with
  |none=>none
  |some fn =>
   match fn.body with
   |none=>none
   |some body =>
    if args.length<=fn.ntmps then
     match aM P H ⟨evFn P H k,cS P H k⟩ k f fn.ntmps body (eD 0 args) A with
     |some (.normal,e,A') | some (.ret,e,A')=>(aW P e A' fn.results.toList).map fun vs=>(single vs,A')
     | _=>none
    else none
def cS(P:Program)(H:Hints):Nat->Nat->List V->AS->Option (V×AS)
 | 0,_,_,_=>none
 |k+1,l,args,A =>
  match A.loops[l]? with
  |none=>none
  |some r =>
   match P.funcs[r.fn]?,ca r.env r.params args with
   |some fn,some e0 =>
    if r.params.all (fun p=>decide (p<fn.ntmps))then
     match aM P H ⟨evFn P H k,cS P H k⟩ k r.fn fn.ntmps r.assign e0 A with
     |some (.normal,e1,A1) =>
      match A1.loops[l]? with
      |some r1 =>
       if r1.state=.ready then
        match aM P H ⟨evFn P H k,cS P H k⟩ k r.fn fn.ntmps r.body e1 (A1.ay l { r1 with state:=.busy })with
        |some (x,_,A2) =>
         match A2.loops[l]? with
         |some r2 =>
          let jump:Option Code:=match x with
           |.normal=>none
           |.ret=>some .ret
           |.exit id=>some (.exit id)
          some (.bool jump.isNone,A2.ay l { r2 with state:=if jump.isNone then .ready else .done,pending:=jump })
         |none=>none
        |none=>none
       else none
      |none=>none
     | _=>none
    else none
   | _,_=>none
end
end Go.Sv
namespace Go.Sv
structure Rho where
 b:Nat->Option (Nat×Nat)
 sz:Nat->Nat
 m:Nat->Option Nat
 it:Nat->Option Nat
 lp:Nat->Option Nat
structure Rho.le(ρ ρ':Rho):Prop where
 b:∀i x d,ρ.b i=some (x,d)->ρ'.b i=some (x,d)/\ρ'.sz x=ρ.sz x
 m:∀i x,ρ.m i=some x->ρ'.m i=some x
 it:∀i x,ρ.it i=some x->ρ'.it i=some x
 lp:∀i x,ρ.lp i=some x->ρ'.lp i=some x
theorem Rho.le.refl(ρ:Rho):ρ.le ρ:=⟨fun _ _ _ h=>⟨h,rfl⟩,fun _ _ h=>h,fun _ _ h=>h,fun _ _ h=>h⟩
theorem Rho.le.trans{a b c:Rho}(h:a.le b)(k:b.le c):a.le c :=
 ⟨fun i x d q=>let ⟨q1,q2⟩:=h.b i x d q;let ⟨q3,q4⟩:=k.b i x d q1;⟨q3,q4.trans q2⟩,
  fun i x q=>k.m i x (h.m i x q),fun i x q=>k.it i x (h.it i x q),fun i x q=>k.lp i x (h.lp i x q)⟩
inductive VR(ρ:Rho):V->Value->Prop
 |undef (v:Value):VR ρ .undef v
 |bool (b:Bool):VR ρ (.bool b) (.bool b)
 |int (k:IntKind) (n:Int):VR ρ (.int k n) (.int k n)
 |str (s:ByteArray):VR ρ (.str s.data.toList) (.string s)
 |eg:VR ρ .eg (.pointer none)
 |ptr {b o x d:Nat} (h:ρ.b b=some (x,d)):VR ρ (.ptr b o) (.pointer (some ⟨x,o+d,none⟩))
 |ah:VR ρ .ah (.slice none 0 0)
 |sl {b o n sz x d cap:Nat} (h:ρ.b b=some (x,d)) (hn:n<=cap) (hc:o+d+cap*sz<=ρ.sz x):VR ρ (.sl b o n sz) (.slice (some ⟨x,o+d,none⟩) n cap)
 |slz {b x d:Nat} (o sz:Nat) (a:Addr) (h:ρ.b b=some (x,d)):VR ρ (.sl b o 0 sz) (.slice (some a) 0 0)
 |gm:VR ρ .gm (.map none)
 |map {r x:Nat} (h:ρ.m r=some x):VR ρ (.map r) (.map (some x))
 |iP:VR ρ .iP .nilFunc
 |fn (f:FuncId) {a c:List V} {a' c':Array Value} (ha:a.length=a'.toList.length) (hc:c.length=c'.toList.length)
  (iha:∀(i:Nat) v v',a[i]?=some v->a'.toList[i]?=some v'->VR ρ v v') (ihc:∀(i:Nat) v v',c[i]?=some v->c'.toList[i]?=some v'->VR ρ v v'):
  VR ρ (.fn f a c) (.func (.func f) a' c')
 |yield {l x:Nat} (h:ρ.lp l=some x):VR ρ (.yield l) (.func (.yield x) #[] #[])
 |iter {i x:Nat} (h:ρ.it i=some x):VR ρ (.iter i) (.pointer (some ⟨x,0,none⟩))
 |agg {c:List V} {c':Array Value} (hc:c.length=c'.toList.length) (ih:∀(i:Nat) v v',c[i]?=some v->c'.toList[i]?=some v'->VR ρ v v'):VR ρ (.agg c) (.agg c')
 |tup {c:List V} {c':Array Value} (hc:c.length=c'.toList.length) (ih:∀(i:Nat) v v',c[i]?=some v->c'.toList[i]?=some v'->VR ρ v v'):VR ρ (.tup c) (.tuple c')
theorem VR.mono{ρ ρ':Rho}(hle:ρ.le ρ'){v:V}{v':Value}(h:VR ρ v v'):VR ρ' v v':=by
 induction h with
 |undef v=>exact .undef v
 |bool b=>exact .bool b
 |int k n=>exact .int k n
 |str s=>exact .str s
 |eg=>exact .eg
 |ptr h=>exact .ptr (hle.b _ _ _ h).1
 |ah=>exact .ah
 |sl h hn hc=>exact .sl (hle.b _ _ _ h).1 hn (by rw[(hle.b _ _ _ h).2];exact hc)
 |slz o sz a h=>exact .slz o sz a (hle.b _ _ _ h).1
 |gm=>exact .gm
 |map h=>exact .map (hle.m _ _ h)
 |iP=>exact .iP
 |fn f ha hc _ _ iha ihc=>exact .fn f ha hc iha ihc
 |yield h=>exact .yield (hle.lp _ _ h)
 |iter h=>exact .iter (hle.it _ _ h)
 |agg hc _ ih=>exact .agg hc ih
 |tup hc _ ih=>exact .tup hc ih
structure VRs(ρ:Rho)(l:List V)(l':List Value):Prop where
 len:l.length=l'.length
 at_:∀(i:Nat) v v',l[i]?=some v->l'[i]?=some v'->VR ρ v v'
theorem VRs.mono{ρ ρ':Rho}(hle:ρ.le ρ'){l:List V}{l':List Value}(h:VRs ρ l l'):VRs ρ' l l' :=
 ⟨h.len,fun i v v' a b=>(h.at_ i v v' a b).mono hle⟩
theorem VRs.nil(ρ:Rho):VRs ρ [] []:=⟨rfl,fun _ _ _ h=>by simp at h⟩
theorem VRs.cons{ρ:Rho}{v:V}{v':Value}{l:List V}{l':List Value}(h:VR ρ v v')(hl:VRs ρ l l'):VRs ρ (v::l) (v'::l'):=
 ⟨by simp[hl.len],fun i x x' a b=>by
  cases i with
  |zero=>simp at a b;subst a;subst b;exact h
  |succ i=>simp at a b;exact hl.at_ i x x' a b⟩
theorem VRs.head{ρ:Rho}{v:V}{v':Value}{l:List V}{l':List Value}(h:VRs ρ (v::l) (v'::l')):VR ρ v v':=h.at_ 0 v v' rfl rfl
theorem VRs.tail{ρ:Rho}{v:V}{v':Value}{l:List V}{l':List Value}(h:VRs ρ (v::l) (v'::l')):VRs ρ l l' :=
 ⟨by have:=h.len;simpa using this,fun i x x' a b=>h.at_ (i+1) x x' (by simpa using a) (by simpa using b)⟩
theorem VRs.dI{ρ:Rho}{l':List Value}(h:VRs ρ [] l'):l'=[]:=List.length_eq_zero_iff.1 (by have:=h.len;simpa using this.symm)
theorem VRs.cons_inv{ρ:Rho}{v:V}{l:List V}{l':List Value}(h:VRs ρ (v::l) l'):∃v' r',l'=v'::r'/\VR ρ v v'/\VRs ρ l r':=by
 cases l' with
 |nil=>have:=h.len;simp at this
 |cons v' r'=>exact⟨v',r',rfl,h.head,h.tail⟩
theorem VRs.append{ρ:Rho}{a b:List V}{a' b':List Value}(h:VRs ρ a a')(k:VRs ρ b b'):VRs ρ (a++b) (a'++b'):=by
 induction a generalizing a' with
 |nil=>have:=h.dI;subst this;simpa using k
 |cons v l ih=>obtain⟨v',r',rfl,h1,h2⟩:=h.cons_inv;exact .cons h1 (ih h2)
theorem VRs.take{ρ:Rho}{a:List V}{a':List Value}(h:VRs ρ a a')(n:Nat):VRs ρ (a.take n) (a'.take n):=
 ⟨by simp[h.len],fun i v v' x y=>by
  rw[List.getElem?_take]at x y
  split at x<;>simp_all
  exact h.at_ i v v' x y⟩
theorem VRs.drop{ρ:Rho}{a:List V}{a':List Value}(h:VRs ρ a a')(n:Nat):VRs ρ (a.drop n) (a'.drop n):=
 ⟨by simp[h.len],fun i v v' x y=>by
  rw[List.getElem?_drop]at x y
  exact h.at_ (n+i) v v' x y⟩
theorem VRs.getElem?{ρ:Rho}{a:List V}{a':List Value}(h:VRs ρ a a'){i:Nat}{v:V}(hv:a[i]?=some v):∃v',a'[i]?=some v'/\VR ρ v v':=by
 obtain⟨hi,rfl⟩:=LG.1 hv
 have hi':i<a'.length:=by rw[<- h.len];exact hi
 exact⟨a'[i],LH hi',h.at_ i _ _ hv (LH hi')⟩
theorem VR.jm{ρ:Rho}{c:List V}{c':Array Value}(h:VRs ρ c c'.toList):VR ρ (.agg c) (.agg c'):=.agg h.len h.at_
theorem VR.dy{ρ:Rho}{c:List V}{c':Array Value}(h:VRs ρ c c'.toList):VR ρ (.tup c) (.tuple c'):=.tup h.len h.at_
theorem VR.gR{ρ:Rho}{c:List V}{v':Value}(h:VR ρ (.agg c) v'):∃c',v'=.agg c'/\VRs ρ c c'.toList:=by
 cases h with |agg hc ih=>exact⟨_,rfl,hc,ih⟩
theorem VR.mG{ρ:Rho}{c:List V}{v':Value}(h:VR ρ (.tup c) v'):∃c',v'=.tuple c'/\VRs ρ c c'.toList:=by
 cases h with |tup hc ih=>exact⟨_,rfl,hc,ih⟩
theorem VR.pj{ρ:Rho}(f:FuncId){a c:List V}{a' c':Array Value}(ha:VRs ρ a a'.toList)(hc:VRs ρ c c'.toList):VR ρ (.fn f a c) (.func (.func f) a' c'):=.fn f ha.len hc.len ha.at_ hc.at_
theorem VR.l7{ρ:Rho}{f:FuncId}{a c:List V}{v':Value}(h:VR ρ (.fn f a c) v'):∃a' c',v'=.func (.func f) a' c'/\VRs ρ a a'.toList/\VRs ρ c c'.toList:=by
 cases h with |fn f ha hc iha ihc=>exact⟨_,_,rfl,⟨ha,iha⟩,⟨hc,ihc⟩⟩
theorem VR.dR{ρ:Rho}{b:Bool}{v':Value}(h:VR ρ (.bool b) v'):v'=.bool b:=by cases h;rfl
theorem VR.bD{ρ:Rho}{k:IntKind}{n:Int}{v':Value}(h:VR ρ (.int k n) v'):v'=.int k n:=by cases h;rfl
theorem VR.ff{ρ:Rho}{b o:Nat}{v':Value}(h:VR ρ (.ptr b o) v'):∃x d,ρ.b b=some (x,d)/\v'=.pointer (some ⟨x,o+d,none⟩):=by cases h with |ptr h=>exact⟨_,_,h,rfl⟩
theorem VR.fg{ρ:Rho}{s:List UInt8}{v':Value}(h:VR ρ (.str s) v'):∃s':ByteArray,v'=.string s'/\s=s'.data.toList:=by cases h with |str s'=>exact⟨s',rfl,rfl⟩
theorem VR.one{ρ:Rho}{v:V}{v':Value}(h:VR ρ v v')(h1:v.one=true):v'.oneCell'=true:=by
 cases h<;>simp_all[V.one,Value.oneCell']
theorem VR.cells{ρ:Rho}{v:V}{v':Value}(h:VR ρ v v'){cs:List V}(hc:v.cells=some cs):VRs ρ cs v'.cells.toList:=by
 cases h with
 |undef _=>simp[V.cells]at hc
 |tup _ _=>simp[V.cells]at hc
 |iter _=>simp[V.cells]at hc
 |agg hl ih=>simp[V.cells]at hc;subst hc;exact⟨hl,ih⟩
 |bool b=>simp[V.cells]at hc;subst hc;exact .cons (.bool b) (.nil _)
 |int k n=>simp[V.cells]at hc;subst hc;exact .cons (.int k n) (.nil _)
 |str s=>simp[V.cells]at hc;subst hc;exact .cons (.str s) (.nil _)
 |eg=>simp[V.cells]at hc;subst hc;exact .cons .eg (.nil _)
 |ptr h=>simp[V.cells]at hc;subst hc;exact .cons (.ptr h) (.nil _)
 |ah=>simp[V.cells]at hc;subst hc;exact .cons .ah (.nil _)
 |sl h hn h2=>simp[V.cells]at hc;subst hc;exact .cons (.sl h hn h2) (.nil _)
 |slz o sz a h=>simp[V.cells]at hc;subst hc;exact .cons (.slz o sz a h) (.nil _)
 |gm=>simp[V.cells]at hc;subst hc;exact .cons .gm (.nil _)
 |map h=>simp[V.cells]at hc;subst hc;exact .cons (.map h) (.nil _)
 |iP=>simp[V.cells]at hc;subst hc;exact .cons .iP (.nil _)
 |fn f ha hc' iha ihc=>simp[V.cells]at hc;subst hc;exact .cons (.fn f ha hc' iha ihc) (.nil _)
 |yield h=>simp[V.cells]at hc;subst hc;exact .cons (.yield h) (.nil _)
theorem AV6{ρ:Rho}{v:Value}{x:V}(h:kI v=some x):VR ρ x v:=by
 unfold kI at h
 split at h<;>simp at h<;>subst h
 . exact .bool _
 . exact .int _ _
 . exact .str _
 . exact .eg
 . exact .ah
 . exact .gm
 . exact .iP
theorem AL4{ρ:Rho}:∀{vs:List Value} {xs:List V},iA vs=some xs->VRs ρ xs vs
 |[],xs,h=>by simp[iA]at h;subst h;exact .nil _
 |v::vs,xs,h=>by
  simp only[iA]at h
  split at h
  . rename_i x ys h1 h2
    simp at h;subst h
    exact .cons (AV6 h1) (AL4 h2)
  . simp at h
theorem AP5{ρ:Rho}{v:Value}{x:V}(h:gn v=some x):VR ρ x v:=by
 unfold gn at h
 split at h
 . rename_i cs
   cases hc:iA cs.toList with
   |none=>simp[hc]at h
   |some ys=>simp[hc]at h;subst h;exact .jm (AL4 hc)
 . rename_i cs
   split at h<;>simp at h
   rename_i hn
   subst h;exact .dy (by rw[hn];exact .nil _)
 . exact AV6 h
structure MER(ρ:Rho)(l:List ME)(l':List MapEntry):Prop where
 len:l.length=l'.length
 at_:∀(i:Nat) e e',l[i]?=some e->l'[i]?=some e'->VR ρ e.key e'.key/\VR ρ e.val e'.val/\e'.born=e.born
theorem MER.mono{ρ ρ':Rho}(hle:ρ.le ρ'){l:List ME}{l':List MapEntry}(h:MER ρ l l'):MER ρ' l l' :=
 ⟨h.len,fun i e e' a b=>let ⟨x,y,z⟩:=h.at_ i e e' a b;⟨x.mono hle,y.mono hle,z⟩⟩
def ER(ρ:Rho)(e:Env)(tmps:Array Value):Prop:=∀t,VR ρ (e.get t) (tmps.getD t undef)
theorem ER.mono{ρ ρ':Rho}(hle:ρ.le ρ'){e:Env}{tmps:Array Value}(h:ER ρ e tmps):ER ρ' e tmps:=fun t=>(h t).mono hle
def Rho.has(ρ:Rho)(x:Nat):Prop:=(∃i d,ρ.b i=some (x,d))∨(∃i,ρ.m i=some x)∨(∃i,ρ.it i=some x)∨(∃i,ρ.lp i=some x)
def lj(fr:Nat×Nat)(n:Nat):Prop:=fr.1=fr.2∨n<=fr.1
theorem lj.not{fr:Nat×Nat}{n:Nat}(h:lj fr n)(i:Nat)(hi:i<n):¬(fr.1<=i/\i<fr.2):=by
 rcases h with h |h<;>omega
structure BR(ρ:Rho)(k:Blk)(x d:Nat)(w:World):Prop where
 row:∃c el fr,w.heap[x]?=some (.cells c el fr)/\c.size=ρ.sz x/\(k.kind≠.ro->lj fr c.size)/\k.cells.length+d<=c.size /\
  ∀(i:Nat) v,k.cells[i]?=some v->∃v',c[i+d]?=some v'/\VR ρ v v'
inductive Sub:Code->Code->Prop
 |refl (c:Code):Sub c c
 |pQ {a b c:Code} (h:Sub (.seq a b) c):Sub a c
 |rv {a b c:Code} (h:Sub (.seq a b) c):Sub b c
 |pk {x:Operand} {a b c:Code} (h:Sub (.cond x a b) c):Sub a c
 |pn {x:Operand} {a b c:Code} (h:Sub (.cond x a b) c):Sub b c
 |block {i:Nat} {a c:Code} (h:Sub (.block i a) c):Sub a c
 |loop {a c:Code} (h:Sub (.loop a) c):Sub a c
 |scope {a c:Code} (h:Sub (.scope a) c):Sub a c
 |nS {g:Operand} {ps:Array Tmp} {a b c:Code} (h:Sub (.rangeFunc g ps a b) c):Sub a c
 |nT {g:Operand} {ps:Array Tmp} {a b c:Code} (h:Sub (.rangeFunc g ps a b) c):Sub b c
def LR(ρ:Rho)(P:Program)(r:ez)(r':Loop):Prop :=
 r'.state=r.state/\r'.pending=r.pending/\r'.fn=r.fn/\r'.params.toList=r.params/\r'.assign=r.assign/\r'.body=r.body/\ER ρ r.env r'.tmps /\
  ∃fn,P.funcs[r.fn]?=some fn/\r'.tmps.size=fn.ntmps/\∃body,fn.body=some body/\Sub r.assign body/\Sub r.body body
structure Inv(P:Program)(base:Nat)(W:World)(ρ:Rho)(A:AS)(w:World):Prop where
 os:w.os=W.os
 tape:w.tape=W.tape
 output:w.output=W.output
 size:base<=w.heap.size
 old:∀i,i<base->w.heap[i]?=W.heap[i]?
 blk:∀b x d,ρ.b b=some (x,d)->∃k,A.blk[b]?=some k/\BR ρ k x d w/\(k.kind≠.ro->base<=x)
 inj:∀b1 b2 x d1 d2 k1 k2,ρ.b b1=some (x,d1)->ρ.b b2=some (x,d2)->A.blk[b1]?=some k1->A.blk[b2]?=some k2 ->
  b1=b2∨(k1.kind=.ro/\k2.kind=.ro)∨∃f β1 β2,k1.kind=.arr f β1/\k2.kind=.arr f β2/\β1+d2=β2+d1
 fam:∀b k f β x,ρ.b b=some x->A.blk[b]?=some k->k.kind=.arr f β->(ρ.b f).isSome=true
 own:∀b k f β,ρ.b b=none->A.blk[b]?=some k->k.kind=.arr f β->f=b
 map:∀r x,ρ.m r=some x->base<=x/\∃mo es',A.maps[r]?=some mo/\w.heap[x]?=some (.map es' mo.clock)/\MER ρ mo.es es'.toList
 dX:∀r1 r2 x,ρ.m r1=some x->ρ.m r2=some x->r1=r2
 it:∀i x,ρ.it i=some x->base<=x/\∃io mo',A.its[i]?=some io/\w.heap[x]?=some (.mapIter mo' io.since io.seen.toArray io.cM) /\
  (io.map=none/\mo'=none∨∃r y,io.map=some r/\mo'=some y/\ρ.m r=some y)
 dY:∀r1 r2 x,ρ.it r1=some x->ρ.it r2=some x->r1=r2
 lp:∀l x,ρ.lp l=some x->base<=x/\∃r r',A.loops[l]?=some r/\w.heap[x]?=some (.loop r')/\LR ρ P r r'
 dZ:∀r1 r2 x,ρ.lp r1=some x->ρ.lp r2=some x->r1=r2
end Go.Sv
namespace Go.Sv
open Go
structure FU(ρ:Rho)(w w':World):Prop where
 size:w.heap.size<=w'.heap.size
 eN:∀i,i<w.heap.size->¬ ρ.has i->w'.heap[i]?=w.heap[i]?
structure FA(ρ:Rho)(A A':AS):Prop where
 ln:A.blk.length<=A'.blk.length
 gS:A.maps.length<=A'.maps.length
 blk:∀b,b<A.blk.length->ρ.b b=none->A'.blk[b]?=A.blk[b]?
 maps:∀r,r<A.maps.length->ρ.m r=none->A'.maps[r]?=A.maps[r]?
structure kY(ρ ρ':Rho)(A:AS)(w:World):Prop where
 b:∀i x d,ρ'.b i=some (x,d)->ρ.b i=none->A.blk.length<=i
 m:∀i x,ρ'.m i=some x->ρ.m i=none->A.maps.length<=i
 has:∀x,x<w.heap.size->ρ'.has x->ρ.has x
theorem FU.refl(ρ:Rho)(w:World):FU ρ w w:=⟨Nat.le_refl _,fun _ _ _=>rfl⟩
theorem FA.refl(ρ:Rho)(A:AS):FA ρ A A:=⟨Nat.le_refl _,Nat.le_refl _,fun _ _ _=>rfl,fun _ _ _=>rfl⟩
theorem kY.refl(ρ:Rho)(A:AS)(w:World):kY ρ ρ A w:=⟨fun i x d h k=>by simp[h]at k,fun i x h k=>by simp[h]at k,fun _ _ h=>h⟩
structure Adv(P:Program)(base:Nat)(W:World)(ρ:Rho)(A:AS)(w:World)(ρ':Rho)(A':AS)(w':World):Prop where
 le:ρ.le ρ'
 inv:Inv P base W ρ' A' w'
 fu:FU ρ w w'
 fa:FA ρ A A'
 new:kY ρ ρ' A w
theorem Adv.refl{P:Program}{base:Nat}{W:World}{ρ:Rho}{A:AS}{w:World}(h:Inv P base W ρ A w):Adv P base W ρ A w ρ A w :=
 ⟨.refl ρ,h,.refl ρ w,.refl ρ A,.refl ρ A w⟩
theorem Adv.trans{P:Program}{base:Nat}{W:World}{ρ ρ₁ ρ₂:Rho}{A A₁ A₂:AS}{w w₁ w₂:World}
 (h:Adv P base W ρ A w ρ₁ A₁ w₁) (k:Adv P base W ρ₁ A₁ w₁ ρ₂ A₂ w₂):Adv P base W ρ A w ρ₂ A₂ w₂:=by
 refine⟨h.le.trans k.le,k.inv,⟨Nat.le_trans h.fu.size k.fu.size,fun i hi hn=>?_⟩,⟨Nat.le_trans h.fa.ln k.fa.ln,Nat.le_trans h.fa.gS k.fa.gS,fun b hb hn=>?_,fun r hr hn=>?_⟩,⟨fun i x d h2 hn=>?_,fun i x h2 hn=>?_,fun x hx hh=>?_⟩⟩
 . have h1:¬ ρ₁.has i:=fun q=>hn (h.new.has i hi q)
   rw[k.fu.eN i (Nat.lt_of_lt_of_le hi h.fu.size) h1,h.fu.eN i hi hn]
 . have h1:ρ₁.b b=none:=by
    cases q:ρ₁.b b with
    |none=>rfl
    |some y=>obtain⟨x,d⟩:=y;have:=h.new.b b x d q hn;omega
   rw[k.fa.blk b (Nat.lt_of_lt_of_le hb h.fa.ln) h1,h.fa.blk b hb hn]
 . have h1:ρ₁.m r=none:=by
    cases q:ρ₁.m r with
    |none=>rfl
    |some x=>have:=h.new.m r x q hn;omega
   rw[k.fa.maps r (Nat.lt_of_lt_of_le hr h.fa.gS) h1,h.fa.maps r hr hn]
 . cases q:ρ₁.b i with
   |none=>exact Nat.le_trans h.fa.ln (k.new.b i x d h2 q)
   |some y=>obtain⟨x',d'⟩:=y;exact h.new.b i x' d' q hn
 . cases q:ρ₁.m i with
   |none=>exact Nat.le_trans h.fa.gS (k.new.m i x h2 q)
   |some y=>exact h.new.m i y q hn
 . exact h.new.has x hx (k.new.has x (Nat.lt_of_lt_of_le hx h.fu.size) hh)
theorem BR.world{ρ:Rho}{k:Blk}{x d:Nat}{w w':World}(h:BR ρ k x d w)(hw:w'.heap[x]?=w.heap[x]?):BR ρ k x d w':=by
 obtain⟨c,el,fr,h1,h2⟩:=h.row
 exact⟨c,el,fr,by rw[hw,h1],h2⟩
theorem Inv.world{P:Program}{base:Nat}{W:World}{ρ:Rho}{A:AS}{w w':World}(h:Inv P base W ρ A w)
 (ho:w'.os=w.os) (ht:w'.tape=w.tape) (hp:w'.output=w.output) (hs:w.heap.size<=w'.heap.size)
 (hold:∀i,i<base->w'.heap[i]?=w.heap[i]?) (hb:∀x,ρ.has x->w'.heap[x]?=w.heap[x]?):Inv P base W ρ A w' where
 os:=ho.trans h.os
 tape:=ht.trans h.tape
 output:=hp.trans h.output
 size:=Nat.le_trans h.size hs
 old:=fun i hi=>(hold i hi).trans (h.old i hi)
 blk:=fun b x d hx=>let ⟨k,h1,h2,h3⟩:=h.blk b x d hx;⟨k,h1,h2.world (hb x (.inl ⟨b,d,hx⟩)),h3⟩
 inj:=h.inj
 fam:=h.fam
 own:=h.own
 map:=fun r x hx=>let ⟨h0,mo,es',h1,h2,h3⟩:=h.map r x hx;⟨h0,mo,es',h1,by rw[hb x (.inr (.inl ⟨r,hx⟩)),h2],h3⟩
 dX:=h.dX
 it:=fun r x hx=>let ⟨h0,io,mo',h1,h2,h3⟩:=h.it r x hx;⟨h0,io,mo',h1,by rw[hb x (.inr (.inr (.inl ⟨r,hx⟩))),h2],h3⟩
 dY:=h.dY
 lp:=fun r x hx=>let ⟨h0,io,mo',h1,h2,h3⟩:=h.lp r x hx;⟨h0,io,mo',h1,by rw[hb x (.inr (.inr (.inr ⟨r,hx⟩))),h2],h3⟩
 dZ:=h.dZ
theorem Inv.ik{P:Program}{base:Nat}{W:World}{ρ:Rho}{A:AS}{w:World}(h:Inv P base W ρ A w){x:Nat}(hx:ρ.has x):x<w.heap.size:=by
 have key:∀o,w.heap[x]?=some o->x<w.heap.size:=fun o q=>(Array.getElem?_eq_some_iff.1 q).1
 rcases hx with⟨i,d,q⟩ |⟨i,q⟩ |⟨i,q⟩ |⟨i,q⟩
 . obtain⟨k,_,h2,_⟩:=h.blk i x d q
   obtain⟨c,el,fr,h3,_⟩:=h2.row
   exact key _ h3
 . obtain⟨_,mo,es',_,h2,_⟩:=h.map i x q;exact key _ h2
 . obtain⟨_,mo,es',_,h2,_⟩:=h.it i x q;exact key _ h2
 . obtain⟨_,mo,es',_,h2,_⟩:=h.lp i x q;exact key _ h2
theorem Inv.alloc{P:Program}{base:Nat}{W:World}{ρ:Rho}{A:AS}{w:World}(h:Inv P base W ρ A w)(o:Obj):Inv P base W ρ A (w.alloc o):=
 h.world rfl rfl rfl (by simp) (fun i hi=>by
  show(w.heap.push o)[i]?=_
  rw[Array.getElem?_push,if_neg (by have:=h.size;omega)]) (fun x hx=>by
  show(w.heap.push o)[x]?=_
  rw[Array.getElem?_push,if_neg (by have:=h.ik hx;omega)])
theorem Inv.drew{P:Program}{base:Nat}{W:World}{ρ:Rho}{A:AS}{w:World}(h:Inv P base W ρ A w):Inv P base W ρ A w.drew :=
 h.world rfl rfl rfl (Nat.le_refl _) (fun _ _=>rfl) (fun _ _=>rfl)
theorem FU.alloc(ρ:Rho)(w:World)(o:Obj):FU ρ w (w.alloc o):=⟨by simp,fun i hi _=>by
 show(w.heap.push o)[i]?=_
 rw[Array.getElem?_push,if_neg (by omega)]⟩
theorem FU.drew(ρ:Rho)(w:World):FU ρ w w.drew:=⟨Nat.le_refl _,fun _ _ _=>rfl⟩
theorem Ae5(w:World)(o:Obj):(w.alloc o).heap[w.heap.size]?=some o:=by
 show(w.heap.push o)[w.heap.size]?=some o
 simp
theorem At5(w:World)(o:Obj){i:Nat}(h:i<w.heap.size):(w.alloc o).heap[i]?=w.heap[i]?:=by
 show(w.heap.push o)[i]?=_
 rw[Array.getElem?_push,if_neg (by omega)]
theorem Ag6{w:World}{x i:Nat}{c:Array Value}{el:TypeId}{fr:Nat×Nat}(h:w.heap[x]?=some (.cells c el fr)):
 w.cell? ⟨x,i,none⟩=c[i]?:=by simp[World.cell?,h]
theorem At6{w:World}{x i:Nat}{c:Array Value}{el:TypeId}{fr:Nat×Nat}(h:w.heap[x]?=some (.cells c el fr)):
 w.frozen? ⟨x,i,none⟩=decide (fr.1<=i/\i<fr.2):=by
 obtain⟨lo,hi⟩:=fr
 simp[World.frozen?,h]
theorem Bk4{P:Program}{base:Nat}{W:World}{ρ:Rho}{A:AS}{w:World}(h:Inv P base W ρ A w){b x d o:Nat}{v:V}
 (hb:ρ.b b=some (x,d)) (hv:A.cell b o=some v):∃v',w.cell? ⟨x,o+d,none⟩=some v'/\VR ρ v v':=by
 obtain⟨k,hk,hr,_⟩:=h.blk b x d hb
 obtain⟨c,el,fr,hc,_,_,_,ef⟩:=hr.row
 have hv':k.cells[o]?=some v:=by simpa[AS.cell,hk] using hv
 obtain⟨v',h1,h2⟩:=ef o v hv'
 exact⟨v',by rw[Ag6 hc,h1],h2⟩
theorem Ag7{A:AS}{b o n:Nat}{cs:List V}(h:A.range b o n=some cs):∃k,A.blk[b]?=some k/\o+n<=k.cells.length/\cs=(k.cells.drop o).take n/\cs.length=n:=by
 unfold AS.range at h
 split at h
 . rename_i k hk
   split at h
   . rename_i hle
     simp at h
     exact⟨k,hk,hle,h.symm,by rw[<- h];simp;omega⟩
   . simp at h
 . simp at h
theorem An6{P:Program}{base:Nat}{W:World}{ρ:Rho}{A:AS}{w:World}(h:Inv P base W ρ A w){b x d o n:Nat}{cs:List V}
 (hb:ρ.b b=some (x,d)) (hv:A.range b o n=some cs):
 ∃cs':List Value,VRs ρ cs cs'/\cs'.length=n/\∀(j:Nat) u,cs'[j]?=some u->w.cell? ⟨x,o+d+j,none⟩=some u:=by
 obtain⟨k,hk,hle,rfl,hlen⟩:=Ag7 hv
 obtain⟨k',hk',hr,_⟩:=h.blk b x d hb
 rw[hk]at hk';cases hk'
 obtain⟨c,el,fr,hc,_,_,ta,ef⟩:=hr.row
 refine⟨(c.toList.drop (o+d)).take n,⟨?_,?_⟩,?_,?_⟩
 . rw[hlen];simp;omega
 . intro i v v' h1 h2
   rw[List.getElem?_take]at h1 h2
   split at h1
   . rename_i hi
     rw[if_pos hi]at h2
     rw[List.getElem?_drop]at h1 h2
     obtain⟨u,h3,h4⟩:=ef (o+i) v h1
     have:c[o+i+d]?=c.toList[o+d+i]?:=by rw[show o+i+d=o+d+i by omega];simp
     rw[this,h2]at h3
     cases h3;exact h4
   . simp at h1
 . simp;omega
 . intro j u hu
   rw[List.getElem?_take]at hu
   split at hu
   . rw[List.getElem?_drop]at hu
     rw[Ag6 hc];simpa using hu
   . simp at hu
theorem Aj0{P:Program}{w:World}{x o n:Nat}{cs':List Value}(hl:cs'.length=n)(hc:∀(j:Nat) u,cs'[j]?=some u->w.cell? ⟨x,o+j,none⟩=some u):
 (loadCells ⟨x,o,none⟩ n).run P w=.ok cs'.toArray w:=by
 subst hl
 exact run_loadCells_list w ⟨x,o,none⟩ cs' (fun j v hv=>by rw[Addr.add_lit];exact hc j v hv)
theorem Ab8{P:Program}{t:TypeId}{n:Nat}(h:szT P t=some n)(w:World):(sizeOf t).run P w=.ok n w:=by
 unfold szT at h
 cases hi:P.info? t with
 |none=>simp[hi]at h
 |some i=>simp[hi]at h;simp[sizeOf,typeInfo,hi,h]
theorem An7{P:Program}{t:TypeId}{b:Bool}(h:aH P t=some b)(w:World):(isAgg t).run P w=.ok b w:=by
 unfold aH at h
 unfold isAgg
 split at h
 . rename_i hu;simp at h;subst h;simp[run_underlying hu]
 . rename_i hu;simp at h;subst h;simp[run_underlying hu]
 . rename_i d hd1 hd2 hu
   simp at h;subst h
   simp only[Sem.run_bind,run_underlying hu,Result.andThen_ok]
   cases d<;>simp_all
 . simp at h
theorem AG1{P:Program}{base:Nat}{W:World}{ρ:Rho}{A:AS}{w:World}(h:Inv P base W ρ A w){t:TypeId}{x:V}{x':Value}{v:V}
 (hx:VR ρ x x') (hv:aa P t x A=some v):∃v',(Instr.loadAt t x').run P w=.ok v' w/\VR ρ v v':=by
 unfold aa at hv
 split at hv
 . rename_i b o n hag hsz
   obtain⟨y,d,hb,rfl⟩:=hx.ff
   cases hr:A.range b o n with
   |none=>simp[hr]at hv
   |some cs =>
    simp[hr]at hv;subst hv
    obtain⟨cs',h1,h2,h3⟩:=An6 h hb hr
    refine⟨.agg cs'.toArray,?_,.jm (by simpa using h1)⟩
    have h3':=Aj0 (P:=P) h2 h3
    simp[Instr.loadAt,Instr.sureAddr,loadVar,An7 hag,Ab8 hsz,h3']
 . rename_i b o hag
   obtain⟨y,d,hb,rfl⟩:=hx.ff
   obtain⟨v',h1,h2⟩:=Bk4 h hb hv
   exact⟨v',by simp[Instr.loadAt,Instr.sureAddr,loadVar,An7 hag,h1],h2⟩
 . simp at hv
end Go.Sv
namespace Go.Sv
open Go
theorem Af1(f lo hi:Nat)(k:Blk):(aK f lo hi k).kind=k.kind:=by
 unfold aK;split
 . split<;>simp_all
 . rfl
theorem Aj4(f lo hi:Nat)(k:Blk):(aK f lo hi k).cells.length=k.cells.length:=by
 unfold aK;split
 . split
   . simp[dD]
   . rfl
 . rfl
theorem Am1(f lo hi:Nat)(k:Blk){i:Nat}{v:V}(h:(aK f lo hi k).cells[i]?=some v):v=.undef∨(k.cells[i]?=some v/\∀ β,k.kind=.arr f β->¬(lo<=β+i/\β+i<hi)):=by
 unfold aK at h
 split at h
 . rename_i f' β hk
   split at h
   . rename_i hf
     simp only[dD,List.getElem?_mapIdx]at h
     cases hc:k.cells[i]? with
     |none=>simp[hc]at h
     |some u =>
      simp[hc]at h
      split at h
      . exact .inl h.symm
      . rename_i hn
        right
        subst h
        exact⟨rfl,fun β' hβ=>by rw[hk]at hβ;cases hβ;exact hn⟩
   . rename_i hf
     exact .inr ⟨h,fun β' hβ=>by rw[hk]at hβ;cases hβ;exact absurd rfl hf⟩
 . rename_i hk
   exact .inr ⟨h,fun β' hβ=>absurd hβ (hk f β')⟩
theorem An8(A:AS)(f lo hi:Nat)(but:Option Nat)(i:Nat):(A.a8 f lo hi but).blk[i]?=(A.blk[i]?).map fun k=>if some i=but then k else aK f lo hi k:=by
 simp[AS.a8,List.getElem?_mapIdx]
theorem An9(A:AS)(f lo hi:Nat)(but:Option Nat):(A.a8 f lo hi but).blk.length=A.blk.length:=by simp[AS.a8]
theorem BR.a8{ρ:Rho}{k:Blk}{x d:Nat}{w:World}(h:BR ρ k x d w)(f lo hi:Nat):BR ρ (aK f lo hi k) x d w:=by
 obtain⟨c,el,fr,h1,h2,h3,h4,h5⟩:=h.row
 refine⟨c,el,fr,h1,h2,by rw[Af1];exact h3,by rw[Aj4];exact h4,fun i v hv=>?_⟩
 rcases Am1 f lo hi k hv with rfl |⟨hv',_⟩
 . have hi:i<k.cells.length:=by
    have:=(LG.1 hv).1
    rwa[Aj4]at this
   have hi':i+d<c.size:=by omega
   exact⟨c[i+d],Array.getElem?_eq_getElem hi',.undef _⟩
 . exact h5 i v hv'
theorem Am2(x:Nat)(el:TypeId)(fr:Nat×Nat):∀(vs:List Value) (o:Nat) (w:World) (c:Array Value),w.heap[x]?=some (.cells c el fr) ->
 ∃c',(w.setCells x o vs).heap[x]?=some (.cells c' el fr)/\c'.size=c.size/\∀j,c'[j]?=if o<=j/\j<o+vs.length/\j<c.size then vs[j-o]? else c[j]?
 |[],o,w,c,h=>⟨c,h,rfl,fun j=>by simp;intros;omega⟩
 |v::r,o,w,c,h=>by
  have h1:(w.setCell ⟨x,o,none⟩ v).heap[x]?=some (.cells (c.setIfInBounds o v) el fr):=by
   show(w.heap.modify x _)[x]?=_
   rw[Array.getElem?_modify,if_pos rfl,h]
   rfl
  obtain⟨c',h2,h3,h4⟩:=Am2 x el fr r (o+1) _ _ h1
  refine⟨c',h2,by simpa using h3,fun j=>?_⟩
  rw[h4 j]
  simp only[Array.size_setIfInBounds,List.length_cons]
  by_cases hj:o+1<=j/\j<o+1+r.length/\j<c.size
  . rw[if_pos hj,if_pos ⟨by omega,by omega,hj.2.2⟩,show j-o=(j-(o+1))+1 by omega]
    simp
  . rw[if_neg hj]
    by_cases hjo:j=o
    . subst hjo
      by_cases hs:j<c.size
      . rw[if_pos ⟨by omega,by omega,hs⟩]
        simp[Array.getElem?_setIfInBounds,hs]
      . rw[if_neg (by omega)]
        simp[Array.getElem?_setIfInBounds,hs]
    . rw[if_neg (by omega),Array.getElem?_setIfInBounds,if_neg (by omega)]
theorem Ac0(x:Nat):∀(vs:List Value) (o:Nat) (w:World) {i:Nat},i≠x->(w.setCells x o vs).heap[i]?=w.heap[i]?
 |[],_,_,_,_=>rfl
 |v::r,o,w,i,h=>by
  rw[World.setCells,Ac0 x r (o+1) _ h]
  simp[World.setCell,Array.getElem?_modify,Ne.symm h]
theorem Aj5(x:Nat):∀(vs:List Value) (o:Nat) (w:World),(w.setCells x o vs).heap.size=w.heap.size
 |[],_,_=>rfl
 |v::r,o,w=>by rw[World.setCells,Aj5 x r (o+1)];simp
theorem Au5(x:Nat):∀(vs:List Value) (o:Nat) (w:World),(w.setCells x o vs).os=w.os/\(w.setCells x o vs).tape=w.tape/\(w.setCells x o vs).output=w.output
 |[],_,_=>⟨rfl,rfl,rfl⟩
 |v::r,o,w=>by rw[World.setCells];exact Au5 x r (o+1) _
theorem AV7{cs vs:List V}{o:Nat}(h:o+vs.length<=cs.length):(putAt cs o vs).length=cs.length:=by
 simp[putAt];omega
theorem Bk5{cs vs:List V}{o:Nat}(h:o+vs.length<=cs.length)(i:Nat):(putAt cs o vs)[i]?=if o<=i/\i<o+vs.length then vs[i-o]? else cs[i]?:=by
 unfold putAt
 by_cases h1:i<o
 . rw[if_neg (by omega),List.append_assoc,List.getElem?_append_left (by simp;omega),List.getElem?_take,if_pos h1]
 . by_cases h2:i<o+vs.length
   . rw[if_pos ⟨by omega,h2⟩,List.append_assoc,List.getElem?_append_right (by simp;omega)]
     simp only[List.length_take]
     rw[show min o cs.length=o by omega,List.getElem?_append_left (by omega)]
   . rw[if_neg (by omega),List.getElem?_append_right (by simp;omega)]
     simp only[List.length_append,List.length_take,List.getElem?_drop]
     congr 1;omega
theorem As7(A:AS)(b:Nat)(cs:List V)(i:Nat):(A.bN b cs).blk[i]?=if i=b then(A.blk[i]?).map fun k=>{ k with cells:=cs }else A.blk[i]?:=by
 simp only[AS.bN,List.getElem?_modify]
 by_cases h:i=b
 . subst h;simp
 . rw[if_neg h];simp[Ne.symm h]
theorem AL5(A:AS)(b:Nat)(cs:List V):(A.bN b cs).blk.length=A.blk.length:=by simp[AS.bN]
theorem AG2{A A':AS}{b o:Nat}{vs:List V}(h:A.put b o vs=some A'):∃k,A.blk[b]?=some k/\o+vs.length<=k.cells.length/\vs.all V.one=true/\k.kind≠.ro /\
 A'.maps=A.maps/\A'.its=A.its/\A'.loops=A.loops/\A'.orc=A.orc/\A'.odr=A.odr/\A'.blk.length=A.blk.length /\
 A'.blk[b]?=some { k with cells:=putAt k.cells o vs } /\
 (∀i,i≠b->A'.blk[i]?=match k.kind with
  |.arr f β=>(A.blk[i]?).map (aK f (β+o) (β+o+vs.length))
  | _=>A.blk[i]?):=by
 unfold AS.put at h
 split at h
 . simp at h
 . rename_i k hk
   split at h
   . rename_i hc
     split at h
     . simp at h
     . rename_i hkd
       simp at h;subst h
       refine⟨k,hk,hc.1,hc.2,by simp[hkd],rfl,rfl,rfl,rfl,rfl,AL5 _ _ _,?_,fun i hi=>?_⟩
       . rw[As7,if_pos rfl,hk];rfl
       . rw[As7,if_neg hi,hkd]
     . rename_i f β hkd
       simp at h;subst h
       refine⟨k,hk,hc.1,hc.2,by simp[hkd],rfl,rfl,rfl,rfl,rfl,by rw[An9,AL5],?_,fun i hi=>?_⟩
       . rw[An8,As7,if_pos rfl,hk];simp
       . rw[An8,As7,if_neg hi,hkd]
         cases A.blk[i]? with
         |none=>rfl
         |some q=>simp[hi]
   . simp at h
theorem AP6{P:Program}{base:Nat}{W:World}{ρ:Rho}{A A':AS}{w:World}(h:Inv P base W ρ A w){b o x d:Nat}{vs:List V}{vs':List Value}
 (hb:ρ.b b=some (x,d)) (hp:A.put b o vs=some A') (hv:VRs ρ vs vs'):
 ∃w',(storeCells ⟨x,o+d,none⟩ vs').run P w=.ok () w'/\Adv P base W ρ A w ρ A' w':=by
 obtain⟨k,hk,hle,jB,hro,hm,hi,hl,_,_,hlen,eQ,mY⟩:=AG2 hp
 obtain⟨k',hk',hr,fH⟩:=h.blk b x d hb
 rw[hk]at hk';cases hk'
 obtain⟨c,el,fr,hc,hsz,hfr,hcl,ef⟩:=hr.row
 have hbx:base<=x:=fH hro
 have hvl:=hv.len
 have hst:=run_storeCells_cells (P:=P) x (o+d) vs' 0 w (fun j hj=>by
  rw[Ag6 hc,Array.getElem?_eq_getElem (by omega)];rfl) (fun j hj=>by
  rw[At6 hc];exact DF ((hfr hro).not _ (by omega))) (fun v hm=>by
  obtain⟨i,hi1,hi2⟩:=List.getElem_of_mem hm
  have hi':i<vs.length:=by omega
  exact(hv.at_ i vs[i] v (LH hi') (by rw[LH hi1,hi2])).one (List.all_eq_true.1 jB _ (List.getElem_mem hi')))
 simp only[Nat.add_zero]at hst
 obtain⟨c',hc',gZ,bM⟩:=Am2 x el fr vs' (o+d) w c hc
 obtain⟨ho1,ho2,ho3⟩:=Au5 x vs' (o+d) w
 have kx:=Aj5 x vs' (o+d) w
 have mH:ρ.has x:=.inl ⟨b,d,hb⟩
 have blkAll:∀b1 x1 d1,ρ.b b1=some (x1,d1)->∃k1,A'.blk[b1]?=some k1/\BR ρ k1 x1 d1 (w.setCells x (o+d) vs')/\(k1.kind≠.ro->base<=x1):=by
  intro b1 x1 d1 hb1
  by_cases hbb:b1=b
  . subst hbb
    rw[hb]at hb1;cases hb1
    refine⟨_,eQ,⟨c',el,fr,hc',by rw[gZ,hsz],by rw[gZ];exact hfr,?_,fun i v hiv=>?_⟩,fun _=>hbx⟩
    . simp only[AV7 hle];omega
    . rw[Bk5 hle]at hiv
      rw[bM]
      split at hiv
      . rename_i hin
        rw[if_pos ⟨by omega,by omega,by omega⟩]
        obtain⟨v',e1,e2⟩:=hv.getElem? hiv
        exact⟨v',by rw[<- e1];congr 1;omega,e2⟩
      . rename_i hin
        rw[if_neg (by omega)]
        exact ef i v hiv
  . obtain⟨k1,hk1,hr1,ry⟩:=h.blk b1 x1 d1 hb1
    have hA1:=mY b1 hbb
    by_cases hx:x1=x
    . subst hx
      rcases h.inj b b1 x1 d d1 k k1 hb hb1 hk hk1 with e |⟨e,_⟩ |⟨f,β,β1,e1,e2,e3⟩
      . exact absurd e.symm hbb
      . exact absurd e hro
      . rw[e1]at hA1
        simp only[hk1,Option.map_some]at hA1
        obtain⟨c1,el1,fr1,hc1,oQ,pR,nU,jV⟩:=hr1.row
        rw[hc]at hc1;cases hc1
        refine⟨_,hA1,⟨c',el,fr,hc',by rw[gZ,hsz],fun _=>by rw[gZ];exact hfr hro,by rw[Aj4,gZ];exact nU,fun i v hiv=>?_⟩,fun _=>hbx⟩
        rcases Am1 _ _ _ _ hiv with rfl |⟨hv1,kg⟩
        . have hi1:i<k1.cells.length:=by
           have:=(LG.1 hiv).1
           rwa[Aj4]at this
          have hi2:i+d1<c'.size:=by omega
          exact⟨c'[i+d1],Array.getElem?_eq_getElem hi2,.undef _⟩
        . have hn:=kg β1 e2
          rw[bM,if_neg (by omega)]
          exact jV i v hv1
    . have hw:(w.setCells x (o+d) vs').heap[x1]?=w.heap[x1]?:=Ac0 x vs' (o+d) w hx
      have rz:=hr1.world hw
      cases hkd:k.kind with
      |var=>rw[hkd]at hA1;exact⟨k1,by rw[hA1,hk1],rz,ry⟩
      |ro=>exact absurd hkd hro
      |arr f β =>
       rw[hkd]at hA1
       simp only[hk1,Option.map_some]at hA1
       exact⟨_,hA1,rz.a8 f _ _,by rw[Af1];exact ry⟩
 have kindSame:∀(i:Nat) (k1:Blk),A'.blk[i]?=some k1->∃k0:Blk,A.blk[i]?=some k0/\k1.kind=k0.kind:=by
  intro i k1 hk1
  by_cases hib:i=b
  . subst hib
    rw[eQ]at hk1;cases hk1
    exact⟨k,hk,rfl⟩
  . rw[mY i hib]at hk1
    cases hkd:k.kind with
    |var=>rw[hkd]at hk1;exact⟨k1,hk1,rfl⟩
    |ro=>exact absurd hkd hro
    |arr f β =>
     rw[hkd]at hk1
     cases hq:A.blk[i]? with
     |none=>simp[hq]at hk1
     |some k0=>simp[hq]at hk1;subst hk1;exact⟨k0,rfl,Af1 _ _ _ _⟩
 refine⟨_,hst,⟨.refl ρ,?_,⟨by omega,fun i hi hn=>?_⟩,⟨by omega,by rw[hm];exact Nat.le_refl _,fun b1 hb1 hn=>?_,fun r hr hn=>by rw[hm]⟩,.refl _ _ _⟩⟩
 . refine { os:=ho1.trans h.os,tape:=ho2.trans h.tape,output:=ho3.trans h.output,size:=by rw[kx];exact h.size,old:=?_,blk:=blkAll,inj:=?_,fam:=?_,own:=?_,map:=?_,dX:=h.dX,it:=?_,dY:=h.dY,lp:=?_,dZ:=h.dZ }
   . intro i hi
     rw[Ac0 x vs' (o+d) w (by omega)];exact h.old i hi
   . intro b1 b2 y d1 d2 k1 k2 h1 h2 h3 h4
     obtain⟨k1',e1,e2⟩:=kindSame b1 k1 h3
     obtain⟨k2',e3,e4⟩:=kindSame b2 k2 h4
     rw[e2,e4]
     exact h.inj b1 b2 y d1 d2 k1' k2' h1 h2 e1 e3
   . intro b1 k1 f β y h1 h2 h3
     obtain⟨k1',e1,e2⟩:=kindSame b1 k1 h2
     exact h.fam b1 k1' f β y h1 e1 (e2 ▸ h3)
   . intro b1 k1 f β h1 h2 h3
     obtain⟨k1',e1,e2⟩:=kindSame b1 k1 h2
     exact h.own b1 k1' f β h1 e1 (e2 ▸ h3)
   . intro r y hy
     obtain⟨h0,mo,es',h1,h2,h3⟩:=h.map r y hy
     refine⟨h0,mo,es',by rw[hm];exact h1,?_,h3⟩
     rw[Ac0 x vs' (o+d) w (fun e=>by subst e;rw[hc]at h2;simp at h2)];exact h2
   . intro r y hy
     obtain⟨h0,mo,es',h1,h2,h3⟩:=h.it r y hy
     refine⟨h0,mo,es',by rw[hi];exact h1,?_,h3⟩
     rw[Ac0 x vs' (o+d) w (fun e=>by subst e;rw[hc]at h2;simp at h2)];exact h2
   . intro r y hy
     obtain⟨h0,mo,es',h1,h2,h3⟩:=h.lp r y hy
     refine⟨h0,mo,es',by rw[hl];exact h1,?_,h3⟩
     rw[Ac0 x vs' (o+d) w (fun e=>by subst e;rw[hc]at h2;simp at h2)];exact h2
 . exact Ac0 x vs' (o+d) w (fun e=>hn (e ▸ mH))
 . have hne:b1≠b:=fun e=>by rw[e,hb]at hn;simp at hn
   rw[mY b1 hne]
   cases hkd:k.kind with
   |var=>rfl
   |ro=>exact absurd hkd hro
   |arr f β =>
    simp only
    cases hq:A.blk[b1]? with
    |none=>rfl
    |some k1 =>
     have hfm:=h.fam b k f β _ hb hk hkd
     simp only[Option.map_some]
     congr 1
     unfold aK
     split
     . rename_i f1 β1 hk1
       have:=h.own b1 k1 f1 β1 hn hq hk1
       rw[if_neg]
       intro e
       rw[e]at this
       rw[this,hn]at hfm
       simp at hfm
     . rfl
theorem AV8{P:Program}{base:Nat}{W:World}{ρ:Rho}{A A':AS}{w:World}(h:Inv P base W ρ A w){t:TypeId}{a x:V}{a' x':Value}
 (ha:VR ρ a a') (hx:VR ρ x x') (hv:ag P t a x A=some A'):∃w',(Instr.storeAt t a' x').run P w=.ok () w'/\Adv P base W ρ A w ρ A' w':=by
 unfold ag at hv
 split at hv
 . rename_i b o n cs hn hcs
   split at hv
   . rename_i hl
     obtain⟨y,d,hb,rfl⟩:=ha.ff
     have hr:=hx.cells hcs
     obtain⟨w',h1,h2⟩:=AP6 h hb hv hr
     refine⟨w',?_,h2⟩
     have hsz:x'.cells.size=n:=by have:=hr.len;simp at this;omega
     simp[Instr.storeAt,Instr.sureAddr,storeVar,Ab8 hn,hsz,h1]
   . simp at hv
 . simp at hv
end Go.Sv
namespace Go.Sv
open Go
def Rho.bf(ρ:Rho)(b x d n:Nat):Rho:={ ρ with b:=fun i=>if i=b then some (x,d)else ρ.b i,sz:=fun y=>if y=x then n else ρ.sz y }
def Rho.im(ρ:Rho)(r x:Nat):Rho:={ ρ with m:=fun i=>if i=r then some x else ρ.m i }
theorem Rho.gp{ρ:Rho}{b x d n:Nat}(hb:ρ.b b=none)(hn:∀i d',ρ.b i=some (x,d')->ρ.sz x=n):ρ.le (ρ.bf b x d n):=
 ⟨fun i y d' h=>⟨by simp only[Rho.bf];rw[if_neg (fun e=>by rw[e,hb]at h;simp at h)];exact h,by
  simp only[Rho.bf];split
  . rename_i e;subst e;exact(hn i d' h).symm
  . rfl⟩,fun _ _ h=>h,fun _ _ h=>h,fun _ _ h=>h⟩
theorem Rho.lr{ρ:Rho}{r x:Nat}(hb:ρ.m r=none):ρ.le (ρ.im r x):=
 ⟨fun _ _ _ h=>⟨h,rfl⟩,fun i y h=>by simp only[Rho.im];rw[if_neg (fun e=>by rw[e,hb]at h;simp at h)];exact h,fun _ _ h=>h,fun _ _ h=>h⟩
theorem Rho.iD{ρ:Rho}{b x d n y:Nat}(h:(ρ.bf b x d n).has y):ρ.has y∨y=x:=by
 rcases h with⟨i,d',h⟩ |h |h |h
 . simp only[Rho.bf]at h
   split at h
   . simp at h;exact .inr h.1.symm
   . exact .inl (.inl ⟨i,d',h⟩)
 . exact .inl (.inr (.inl h))
 . exact .inl (.inr (.inr (.inl h)))
 . exact .inl (.inr (.inr (.inr h)))
theorem Rho.mZ{ρ:Rho}{r x y:Nat}(h:(ρ.im r x).has y):ρ.has y∨y=x:=by
 rcases h with h |⟨i,h⟩ |h |h
 . exact .inl (.inl h)
 . simp only[Rho.im]at h
   split at h
   . simp at h;exact .inr h.symm
   . exact .inl (.inr (.inl ⟨i,h⟩))
 . exact .inl (.inr (.inr (.inl h)))
 . exact .inl (.inr (.inr (.inr h)))
theorem BR.mono{ρ ρ':Rho}(hle:ρ.le ρ'){k:Blk}{x d:Nat}{w:World}(h:BR ρ k x d w){b d':Nat}(hb:ρ.b b=some (x,d')):BR ρ' k x d w:=by
 obtain⟨c,el,fr,h1,h2,h3,h4,h5⟩:=h.row
 exact⟨c,el,fr,h1,by rw[h2,(hle.b _ _ _ hb).2],h3,h4,fun i v hv=>let ⟨v',a,q⟩:=h5 i v hv;⟨v',a,q.mono hle⟩⟩
theorem LR.mono{ρ ρ':Rho}{P:Program}(hle:ρ.le ρ'){r:ez}{r':Loop}(h:LR ρ P r r'):LR ρ' P r r':=by
 obtain⟨h1,h2,h3,h4,h5,h6,h7,h8⟩:=h
 exact⟨h1,h2,h3,h4,h5,h6,h7.mono hle,h8⟩
theorem Inv.lay{P:Program}{base:Nat}{W:World}{ρ:Rho}{A A':AS}{w w':World}(h:Inv P base W ρ A w){b x d:Nat}{k:Blk}{c:Array Value}{el:TypeId}{fr:Nat×Nat}
 (hb:ρ.b b=none) (hk:A'.blk[b]?=some k) (eQ:∀i k1,ρ.b i≠none->A.blk[i]?=some k1->A'.blk[i]?=some k1)
 (hun:∀i k1 f β,i≠b->ρ.b i=none->A'.blk[i]?=some k1->k1.kind=.arr f β->f=i)
 (hm:A'.maps=A.maps) (hi:A'.its=A.its) (hl:A'.loops=A.loops)
 (hw:Inv P base W ρ A w') (hx:w'.heap[x]?=some (.cells c el fr)) (hfr:k.kind≠.ro->lj fr c.size) (hbx:base<=x)
 (hlen:k.cells.length+d<=c.size) (ef:∀(i:Nat) v,k.cells[i]?=some v->∃v',c[i+d]?=some v'/\VR ρ v v')
 (hro:k.kind≠.ro) (hsz:∀i d',ρ.b i=some (x,d')->ρ.sz x=c.size)
 (rA:∀b1 d1 k1,ρ.b b1=some (x,d1)->A.blk[b1]?=some k1->∃f β1 β2,k1.kind=.arr f β1/\k.kind=.arr f β2/\β1+d=β2+d1)
 (pS:∀f β,k.kind=.arr f β->f=b∨(ρ.b f).isSome=true):Inv P base W (ρ.bf b x d c.size) A' w':=by
 have hle:ρ.le (ρ.bf b x d c.size):=Rho.gp hb hsz
 have bM:∀i y e,(ρ.bf b x d c.size).b i=some (y,e)->(i=b/\y=x/\e=d)∨(i≠b/\ρ.b i=some (y,e)):=by
  intro i y e he
  simp only[Rho.bf]at he
  split at he
  . rename_i e';simp at he;exact .inl ⟨e',he.1.symm,he.2.symm⟩
  . rename_i e';exact .inr ⟨e',he⟩
 have gT:∀i y e,ρ.b i=some (y,e)->∀k1,A'.blk[i]?=some k1->A.blk[i]?=some k1:=by
  intro i y e he k1 hk1
  obtain⟨k2,hk2,_⟩:=h.blk i y e he
  have:=eQ i k2 (by rw[he];simp) hk2
  rw[this]at hk1;cases hk1;exact hk2
 refine { os:=hw.os,tape:=hw.tape,output:=hw.output,size:=hw.size,old:=hw.old,blk:=?_,inj:=?_,fam:=?_,own:=?_,map:=?_,dX:=h.dX,it:=?_,dY:=h.dY,lp:=?_,dZ:=h.dZ }
 . intro i y e he
   rcases bM i y e he with⟨rfl,rfl,rfl⟩ |⟨hne,he⟩
   . exact⟨k,hk,⟨c,el,fr,hx,by simp[Rho.bf],hfr,hlen,fun i v hv=>let ⟨v',a,q⟩:=ef i v hv;⟨v',a,q.mono hle⟩⟩,fun _=>hbx⟩
   . obtain⟨k1,h1,h2,h3⟩:=hw.blk i y e he
     exact⟨k1,eQ i k1 (by rw[he];simp) h1,h2.mono hle he,h3⟩
 . intro b1 b2 y d1 d2 k1 k2 h1 h2 h3 h4
   rcases bM b1 y d1 h1 with⟨rfl,rfl,rfl⟩ |⟨nD,he1⟩
   . rcases bM b2 _ d2 h2 with⟨rfl,_,rfl⟩ |⟨mT,he2⟩
     . exact .inl rfl
     . have h4':=gT b2 _ _ he2 k2 h4
       rw[hk]at h3;cases h3
       obtain⟨f,β1,β2,e1,e2,e3⟩:=rA b2 d2 k2 he2 h4'
       exact .inr (.inr ⟨f,β2,β1,e2,e1,by omega⟩)
   . rcases bM b2 y d2 h2 with⟨rfl,rfl,rfl⟩ |⟨mT,he2⟩
     . have h3':=gT b1 _ _ he1 k1 h3
       rw[hk]at h4;cases h4
       obtain⟨f,β1,β2,e1,e2,e3⟩:=rA b1 d1 k1 he1 h3'
       exact .inr (.inr ⟨f,β1,β2,e1,e2,by omega⟩)
     . exact hw.inj b1 b2 y d1 d2 k1 k2 he1 he2 (gT b1 _ _ he1 k1 h3) (gT b2 _ _ he2 k2 h4)
 . intro b1 k1 f β y h1 h2 h3
   obtain⟨y1,y2⟩:=y
   rcases bM b1 y1 y2 h1 with⟨rfl,_,_⟩ |⟨hne,he⟩
   . rw[hk]at h2;cases h2
     simp only[Rho.bf]
     rcases pS f β h3 with rfl |hf
     . simp
     . split
       . rfl
       . exact hf
   . have:=hw.fam b1 k1 f β _ he (gT b1 _ _ he k1 h2) h3
     simp only[Rho.bf]
     split
     . rfl
     . exact this
 . intro b1 k1 f β h1 h2 h3
   have hne:b1≠b:=fun e=>by subst e;simp[Rho.bf]at h1
   have h1':ρ.b b1=none:=by simpa[Rho.bf,hne] using h1
   exact hun b1 k1 f β hne h1' h2 h3
 . intro r y hy
   obtain⟨h0,mo,es',h1,h2,h3⟩:=hw.map r y hy
   exact⟨h0,mo,es',by rw[hm];exact h1,h2,h3.mono hle⟩
 . intro r y hy
   obtain⟨h0,mo,es',h1,h2,h3⟩:=hw.it r y hy
   exact⟨h0,mo,es',by rw[hi];exact h1,h2,h3⟩
 . intro r y hy
   obtain⟨h0,mo,es',h1,h2,h3⟩:=hw.lp r y hy
   exact⟨h0,mo,es',by rw[hl];exact h1,h2,h3.mono hle⟩
theorem Inv.tg{P:Program}{base:Nat}{W:World}{ρ:Rho}{A:AS}{w:World}(h:Inv P base W ρ A w){b:Nat}{y:Nat×Nat}(hb:ρ.b b=some y):b<A.blk.length:=by
 obtain⟨x,d⟩:=y
 obtain⟨k,hk,_⟩:=h.blk b x d hb
 exact(LG.1 hk).1
theorem Inv.jn{P:Program}{base:Nat}{W:World}{ρ:Rho}{A:AS}{w:World}(h:Inv P base W ρ A w){b:Nat}(hb:A.blk.length<=b):ρ.b b=none:=by
 cases q:ρ.b b with
 |none=>rfl
 |some y=>have:=h.tg q;omega
theorem Inv.pT{P:Program}{base:Nat}{W:World}{ρ:Rho}{A:AS}{w:World}(h:Inv P base W ρ A w){r:Nat}(hb:A.maps.length<=r):ρ.m r=none:=by
 cases q:ρ.m r with
 |none=>rfl
 |some y =>
  obtain⟨_,mo,es',h1,_⟩:=h.map r y q
  have:=(LG.1 h1).1
  omega
theorem Inv.abs{P:Program}{base:Nat}{W:World}{ρ:Rho}{A A':AS}{w:World}(h:Inv P base W ρ A w)
 (eQ:∀i k,ρ.b i≠none->A.blk[i]?=some k->A'.blk[i]?=some k) (hun:∀i k1 f β,ρ.b i=none->A'.blk[i]?=some k1->k1.kind=.arr f β->f=i)
 (hm:∀(r:Nat) mo,ρ.m r≠none->A.maps[r]?=some mo->A'.maps[r]?=some mo) (hi:∀(r:Nat) mo,A.its[r]?=some mo->A'.its[r]?=some mo) (hl:∀(r:Nat) mo,A.loops[r]?=some mo->A'.loops[r]?=some mo):
 Inv P base W ρ A' w:=by
 have gT:∀i y e,ρ.b i=some (y,e)->∀k1,A'.blk[i]?=some k1->A.blk[i]?=some k1:=by
  intro i y e he k1 hk1
  obtain⟨k2,hk2,_⟩:=h.blk i y e he
  have:=eQ i k2 (by rw[he];simp) hk2
  rw[this]at hk1;cases hk1;exact hk2
 refine { os:=h.os,tape:=h.tape,output:=h.output,size:=h.size,old:=h.old,blk:=?_,inj:=?_,fam:=?_,own:=hun,map:=?_,dX:=h.dX,it:=?_,dY:=h.dY,lp:=?_,dZ:=h.dZ }
 . intro i y e he
   obtain⟨k1,h1,h2,h3⟩:=h.blk i y e he
   exact⟨k1,eQ i k1 (by rw[he];simp) h1,h2,h3⟩
 . intro b1 b2 y d1 d2 k1 k2 h1 h2 h3 h4
   exact h.inj b1 b2 y d1 d2 k1 k2 h1 h2 (gT _ _ _ h1 _ h3) (gT _ _ _ h2 _ h4)
 . intro b1 k1 f β y h1 h2 h3
   obtain⟨y1,y2⟩:=y
   exact h.fam b1 k1 f β _ h1 (gT _ _ _ h1 _ h2) h3
 . intro r y hy
   obtain⟨h0,mo,es',h1,h2,h3⟩:=h.map r y hy
   exact⟨h0,mo,es',hm r mo (by rw[hy];simp) h1,h2,h3⟩
 . intro r y hy
   obtain⟨h0,mo,es',h1,h2,h3⟩:=h.it r y hy
   exact⟨h0,mo,es',hi r mo h1,h2,h3⟩
 . intro r y hy
   obtain⟨h0,mo,es',h1,h2,h3⟩:=h.lp r y hy
   exact⟨h0,mo,es',hl r mo h1,h2,h3⟩
theorem Ag8{A:AS}{k:Blk}{i:Nat}{k1:Blk}(h:A.blk[i]?=some k1):(A.push k).blk[i]?=some k1:=by
 have hi:=(LG.1 h).1
 simp[AS.push,List.getElem?_append_left hi,h]
theorem Af7(A:AS)(k:Blk):(A.push k).blk[A.blk.length]?=some k:=by simp[AS.push]
theorem Aw5{A:AS}{k:Blk}{i:Nat}{k1:Blk}(h:(A.push k).blk[i]?=some k1):A.blk[i]?=some k1∨(i=A.blk.length/\k1=k):=by
 simp only[AS.push]at h
 by_cases hi:i<A.blk.length
 . rw[List.getElem?_append_left hi]at h;exact .inl h
 . rw[List.getElem?_append_right (by omega)]at h
   have:i-A.blk.length=0:=by
    have:=(LG.1 h).1
    simp at this;omega
   rw[this]at h
   simp at h
   exact .inr ⟨by omega,h.symm⟩
theorem A80{P:Program}{base:Nat}{W:World}{ρ:Rho}{A:AS}{w:World}(h:Inv P base W ρ A w){k:Blk}{c:Array Value}{el:TypeId}
 (hlen:k.cells.length<=c.size) (ef:∀(i:Nat) v,k.cells[i]?=some v->∃v',c[i]?=some v'/\VR ρ v v')
 (hro:k.kind≠.ro) (pS:∀f β,k.kind=.arr f β->f=A.blk.length∨(ρ.b f).isSome=true):
 Adv P base W ρ A w (ρ.bf A.blk.length w.heap.size 0 c.size) (A.push k) (w.alloc (.cells c el)) /\
  (ρ.bf A.blk.length w.heap.size 0 c.size).b A.blk.length=some (w.heap.size,0)/\(ρ.bf A.blk.length w.heap.size 0 c.size).sz w.heap.size=c.size:=by
 have hbn:=h.jn (Nat.le_refl A.blk.length)
 have gq:∀i d',ρ.b i≠some (w.heap.size,d'):=fun i d' q=>by have:=h.ik (.inl ⟨i,d',q⟩);omega
 have hI:=h.lay (A':=A.push k) (w':=w.alloc (.cells c el)) (b:=A.blk.length) (x:=w.heap.size) (d:=0) (k:=k) (c:=c) (el:=el) (fr:=(0,0)) hbn (Af7 A k)
  (fun i k1 _ hk1=>Ag8 hk1) (fun i k1 f β hne hn hk1 hkd=>by
   rcases Aw5 hk1 with hq |⟨hq,_⟩
   . exact h.own i k1 f β hn hq hkd
   . exact absurd hq hne) rfl rfl rfl (h.alloc _) (Ae5 _ _) (fun _=>.inl rfl) h.size (by simpa using hlen) (by simpa using ef) hro
   (fun i d' q=>absurd q (gq i d')) (fun b1 d1 k1 q=>absurd q (gq b1 d1)) pS
 refine⟨⟨Rho.gp hbn (fun i d' q=>absurd q (gq i d')),hI,.alloc ρ w _,⟨by simp[AS.push],Nat.le_refl _,fun b hb _=>?_,fun _ _ _=>rfl⟩,⟨fun i x d hi hn=>?_,fun i x hi hn=>?_,fun x hx hh=>?_⟩⟩,by simp[Rho.bf],by simp[Rho.bf]⟩
 . simp[AS.push,List.getElem?_append_left hb]
 . simp only[Rho.bf]at hi
   split at hi
   . omega
   . rw[hn]at hi;simp at hi
 . rw[show(ρ.bf A.blk.length w.heap.size 0 c.size).m i=ρ.m i from rfl,hn]at hi;simp at hi
 . rcases Rho.iD hh with hh |rfl
   . exact hh
   . omega
end Go.Sv
namespace Go.Sv
open Go
theorem AL6{P:Program}{base:Nat}{W:World}{ρ:Rho}{A:AS}{w:World}(h:Inv P base W ρ A w){b x d f β:Nat}{k:Blk}(lo hi:Nat)
 (hb:ρ.b b=some (x,d)) (hk:A.blk[b]?=some k) (hkd:k.kind=.arr f β):Adv P base W ρ A w ρ (A.a8 f lo hi none) w:=by
 have bM:∀i,(A.a8 f lo hi none).blk[i]?=(A.blk[i]?).map (aK f lo hi):=fun i=>by
  rw[An8];cases A.blk[i]?<;>simp
 have kindSame:∀(i:Nat) (k1:Blk),(A.a8 f lo hi none).blk[i]?=some k1->∃k0:Blk,A.blk[i]?=some k0/\k1.kind=k0.kind:=by
  intro i k1 hk1
  rw[bM]at hk1
  cases hq:A.blk[i]? with
  |none=>simp[hq]at hk1
  |some k0=>simp[hq]at hk1;subst hk1;exact⟨k0,rfl,Af1 _ _ _ _⟩
 refine⟨.refl ρ,?_,.refl ρ w,⟨by rw[An9];exact Nat.le_refl _,Nat.le_refl _,fun b1 hb1 hn=>?_,fun _ _ _=>rfl⟩,.refl _ _ _⟩
 . refine { os:=h.os,tape:=h.tape,output:=h.output,size:=h.size,old:=h.old,blk:=?_,inj:=?_,fam:=?_,own:=?_,map:=h.map,dX:=h.dX,it:=h.it,dY:=h.dY,lp:=h.lp,dZ:=h.dZ }
   . intro b1 x1 d1 hb1
     obtain⟨k1,h1,h2,h3⟩:=h.blk b1 x1 d1 hb1
     exact⟨_,by rw[bM,h1];rfl,h2.a8 f lo hi,by rw[Af1];exact h3⟩
   . intro b1 b2 y d1 d2 k1 k2 h1 h2 h3 h4
     obtain⟨k1',e1,e2⟩:=kindSame b1 k1 h3
     obtain⟨k2',e3,e4⟩:=kindSame b2 k2 h4
     rw[e2,e4]
     exact h.inj b1 b2 y d1 d2 k1' k2' h1 h2 e1 e3
   . intro b1 k1 f β y h1 h2 h3
     obtain⟨k1',e1,e2⟩:=kindSame b1 k1 h2
     exact h.fam b1 k1' f β y h1 e1 (e2 ▸ h3)
   . intro b1 k1 f β h1 h2 h3
     obtain⟨k1',e1,e2⟩:=kindSame b1 k1 h2
     exact h.own b1 k1' f β h1 e1 (e2 ▸ h3)
 . rw[bM]
   cases hq:A.blk[b1]? with
   |none=>rfl
   |some k1 =>
    have hfm:=h.fam b k f β _ hb hk hkd
    simp only[Option.map_some]
    congr 1
    unfold aK
    split
    . rename_i f1 β1 hk1
      have:=h.own b1 k1 f1 β1 hn hq hk1
      rw[if_neg]
      intro e
      rw[e]at this
      rw[this,hn]at hfm
      simp at hfm
    . rfl
theorem A18{P:Program}{base:Nat}{W:World}{ρ:Rho}{A:AS}{w:World}(h:Inv P base W ρ A w){x p:Nat}{vs':List Value}{c:Array Value}{el:TypeId}{fr:Nat×Nat}
 (hc:w.heap[x]?=some (.cells c el fr)) (hx:base<=x)
 (hun:∀b1 d1 k1 i v,ρ.b b1=some (x,d1)->A.blk[b1]?=some k1->k1.cells[i]?=some v->p<=i+d1->i+d1<p+vs'.length->v=.undef):
 Inv P base W ρ A (w.setCells x p vs'):=by
 obtain⟨c',hc',gZ,bM⟩:=Am2 x el fr vs' p w c hc
 obtain⟨ho1,ho2,ho3⟩:=Au5 x vs' p w
 have kx:=Aj5 x vs' p w
 refine { os:=ho1.trans h.os,tape:=ho2.trans h.tape,output:=ho3.trans h.output,size:=by rw[kx];exact h.size,old:=?_,blk:=?_,inj:=h.inj,fam:=h.fam,own:=h.own,map:=?_,dX:=h.dX,it:=?_,dY:=h.dY,lp:=?_,dZ:=h.dZ }
 . intro i hi
   rw[Ac0 x vs' p w (by omega)];exact h.old i hi
 . intro b1 x1 d1 hb1
   obtain⟨k1,h1,h2,h3⟩:=h.blk b1 x1 d1 hb1
   refine⟨k1,h1,?_,h3⟩
   by_cases hxx:x1=x
   . subst hxx
     obtain⟨c1,el1,fr1,hc1,oQ,pR,nU,jV⟩:=h2.row
     rw[hc]at hc1;cases hc1
     refine⟨c',el,fr,hc',by rw[gZ,oQ],by rw[gZ];exact pR,by rw[gZ];exact nU,fun i v hv=>?_⟩
     by_cases hin:p<=i+d1/\i+d1<p+vs'.length
     . have:=hun b1 d1 k1 i v hb1 h1 hv hin.1 hin.2
       subst this
       have hi1:=(LG.1 hv).1
       have hi2:i+d1<c'.size:=by omega
       exact⟨c'[i+d1],Array.getElem?_eq_getElem hi2,.undef _⟩
     . rw[bM,if_neg (by omega)]
       exact jV i v hv
   . exact h2.world (Ac0 x vs' p w hxx)
 . intro r y hy
   obtain⟨h0,mo,es',h1,h2,h3⟩:=h.map r y hy
   exact⟨h0,mo,es',h1,by rw[Ac0 x vs' p w (fun e=>by subst e;rw[hc]at h2;simp at h2)];exact h2,h3⟩
 . intro r y hy
   obtain⟨h0,mo,es',h1,h2,h3⟩:=h.it r y hy
   exact⟨h0,mo,es',h1,by rw[Ac0 x vs' p w (fun e=>by subst e;rw[hc]at h2;simp at h2)];exact h2,h3⟩
 . intro r y hy
   obtain⟨h0,mo,es',h1,h2,h3⟩:=h.lp r y hy
   exact⟨h0,mo,es',h1,by rw[Ac0 x vs' p w (fun e=>by subst e;rw[hc]at h2;simp at h2)];exact h2,h3⟩
theorem Ap8{P:Program}{t:TypeId}{n:Nat}{zc:List V}(hs:szT P t=some n)(hz:(aC P t).bind V.cells=some zc):
 ∃i z,P.info? t=some i/\i.zero=some z/\i.size=n/\(∀ ρ,VRs ρ zc z.cells.toList):=by
 unfold szT at hs
 unfold aC at hz
 cases hi:P.info? t with
 |none=>simp[hi]at hs
 |some i =>
  simp[hi]at hs hz
  cases hzz:i.zero with
  |none=>simp[hzz]at hz
  |some z =>
   simp[hzz]at hz
   cases hv:gn z with
   |none=>simp[hv]at hz
   |some q =>
    simp[hv]at hz
    exact⟨i,z,rfl,hzz,hs,fun ρ=>(AP5 (ρ:=ρ) hv).cells hz⟩
theorem VRs.oR{ρ:Rho}{cs:List V}{cs':List Value}(h:VRs ρ cs cs')(h1:cs.all V.one=true):∀u∈cs',u.oneCell'=true:=by
 intro u hu
 obtain⟨i,hi1,hi2⟩:=List.getElem_of_mem hu
 have hi':i<cs.length:=by rw[h.len];exact hi1
 exact(h.at_ i cs[i] u (LH hi') (by rw[LH hi1,hi2])).one (List.all_eq_true.1 h1 _ (List.getElem_mem hi'))
theorem At7(z:Array Value)(n:Nat):(Builtin.zeroCells z n).size=n*z.size:=by simp[Builtin.zeroCells]
theorem AP7(ρ:Rho)(s:ByteArray):VRs ρ (s.data.toList.map fun u=>.int .u8 (u.toNat:Int)) (byteCells s):=
 ⟨by simp[byteCells],fun i v v' h1 h2=>by
  simp only[byteCells,List.getElem?_map]at h1 h2
  cases hq:s.data.toList[i]? with
  |none=>simp[hq]at h1
  |some u=>simp only[hq,Option.map_some,Option.some.injEq]at h1 h2;subst h1;subst h2;exact .int _ _⟩
def fR(P:Program)(tx:TypeId)(sz:Nat)(x:V)(A:AS):Option (Nat×List V):=
 match x with
 |.ah=>match P.underlying tx with
  |some (.slice _)=>some (0,[])
  | _=>none
 |.sl b o n sz'=>match P.underlying tx with
  |some (.slice _)=>if sz'=sz then(A.range b o (n*sz)).map fun cs=>(n,cs)else none
  | _=>none
 |.str b=>match P.underlying tx with
  |some .string=>if sz=1 then some (b.length,b.map fun u=>.int .u8 u.toNat)else none
  | _=>none
 | _=>none
theorem BL3{P:Program}{base:Nat}{W:World}{ρ:Rho}{A:AS}{w:World}(h:Inv P base W ρ A w){tx:TypeId}{sz:Nat}{x:V}{x':Value}{n:Nat}{new:List V}
 (hx:VR ρ x x') (hs:fR P tx sz x A=some (n,new)) (h1:new.all V.one=true):∃news,Src P sz tx x' n news w/\VRs ρ new news:=by
 unfold fR at hs
 split at hs
 . split at hs
   . rename_i e hk
     simp at hs
     obtain⟨rfl,rfl⟩:=hs
     cases hx
     exact⟨[],.ofNil w hk 0,.nil _⟩
   . simp at hs
 . rename_i b o n' sz'
   split at hs
   . rename_i e hk
     split at hs
     . rename_i hsz
       subst hsz
       cases hr:A.range b o (n'*sz')with
       |none=>simp[hr]at hs
       |some cs =>
        simp[hr]at hs
        obtain⟨rfl,rfl⟩:=hs
        cases hx with
        |sl hb hn hc =>
         obtain⟨cs',h2,h3,h4⟩:=An6 h hb hr
         exact⟨cs',.ofSlice w hk _ _ _ cs' h3 (fun j u hu=>by rw[Addr.add_lit];exact h4 j u hu) (h2.oR h1),h2⟩
        |slz o sz a hbz =>
         obtain⟨k,hk',_,rfl,hlen⟩:=Ag7 hr
         have pU:List.take (0*sz') (List.drop o k.cells)=[]:=by simp
         refine⟨[],.ofSlice w hk _ _ _ [] (by simp) (fun j u hu=>by simp at hu) (fun u hu=>by cases hu),by rw[pU];exact .nil _⟩
     . simp at hs
   . simp at hs
 . rename_i b
   split at hs
   . rename_i hk
     split at hs
     . rename_i hsz
       simp at hs
       obtain⟨rfl,rfl⟩:=hs
       subst hsz
       obtain⟨s',rfl,rfl⟩:=hx.fg
       refine⟨byteCells s',?_,AP7 ρ s'⟩
       have:=Src.ofString (P:=P) w hk s'
       have e:s'.data.toList.length=s'.size:=by rw[Array.length_toList];rfl
       rw[e];exact this
     . simp at hs
   . simp at hs
 . simp at hs
theorem Au6(P:Program)(t tx:TypeId)(s x:V)(A:AS):aR P t tx s x A =
 match P.underlying t with
 |some (.slice e) =>
  match szT P e,ct P e,(aC P e).bind V.cells with
  |some (z+1),some by_,some zc =>
   if zc.length≠z+1 then none else
   match fR P tx (z+1) x A with
   |none=>none
   |some (n,new) =>
    if new.all V.one then
     match s with
     |.ah=>if n=0 then some (.ah,A)else if n*by_<=140737488355328/\n<=4611686018427387903 then
      some (.sl A.blk.length 0 n (z+1),A.push ⟨new,.arr A.blk.length 0⟩)else none
     |.sl b o len sz' =>
      if sz'≠z+1 then none else if n=0 then some (.sl b o len (z+1),A)else
      match A.blk[b]?,A.range b o (len*(z+1))with
      |some k,some old =>
       match k.kind with
       |.arr fam base =>
        if old.all V.one/\(len+n)*by_<=140737488355328/\len+n<=4611686018427387903 then
         some (.sl A.blk.length 0 (len+n) (z+1),
          (A.a8 fam (base+o+len*(z+1)) (base+o+(len+n)*(z+1)) none).push ⟨old++new,.arr fam (base+o)⟩)
        else none
       | _=>none
      | _,_=>none
     | _=>none
    else none
  | _,_,_=>none
 | _=>none:=rfl
set_option maxHeartbeats 1000000 in
theorem AP8{P:Program}{base:Nat}{W:World}{ρ:Rho}{A A':AS}{w:World}(h:Inv P base W ρ A w){t tx ty:TypeId}{s x v:V}{s' x':Value}
 (hs:VR ρ s s') (hx:VR ρ x x') (hv:aR P t tx s x A=some (v,A')):
 ∃ ρ' v' w',(Builtin.append_ #[t,tx] ty #[s',x']).run P w=.ok v' w'/\Adv P base W ρ A w ρ' A' w'/\VR ρ' v v':=by
 rw[Au6]at hv
 split at hv
 case h_2=>simp at hv
 rename_i e ht
 split at hv
 case h_2=>simp at hv
 rename_i z by_ zc hsz hby hzc
 split at hv
 case isTrue=>simp at hv
 rename_i hzl
 have hzl:zc.length=z+1:=by omega
 obtain⟨i,zv,hi,hiz,his,hzr⟩:=Ap8 hsz hzc
 have his:i.size=z+1:=his
 have hib:i.bytes=by_:=by simpa[ct,hi] using hby
 have hzs:zv.cells.size=z+1:=by have:=(hzr ρ).len;simp at this;omega
 split at hv
 case h_1=>simp at hv
 rename_i n new fQ
 split at hv
 case isFalse=>simp at hv
 rename_i jB
 obtain⟨news,hS,nV⟩:=BL3 h hx fQ jB
 have hnl:=hS.newsLen
 have pV:new.length=n*(z+1):=by rw[nV.len,hnl]
 rw[<- his]at hS
 split at hv
 ·
  cases hs
  split at hv
  . rename_i hn0
    simp at hv;obtain⟨rfl,rfl⟩:=hv
    subst hn0
    have hne:news=[]:=List.length_eq_zero_iff.1 (by simpa using hnl)
    rw[hne]at hS
    exact⟨ρ,_,w,run_append_nothing w t tx ty e i ht hi none 0 0 (Nat.le_refl _) x' hS,.refl h,.ah⟩
  . rename_i hn0
    split at hv
    case isFalse=>simp at hv
    rename_i hb
    simp at hv;obtain⟨rfl,rfl⟩:=hv
    have jC:=run_append_grow_src (P:=P) w t tx ty e i zv ht hi hiz none 0 0 [] (run_firstCells_none (P:=P) w.drew i.size 0 0 0) x' n news hS (by omega) (by omega)
     (growslice_fits (by omega) (by rw[hib];simpa using hb.1))
    have hge:=grownCap_ge w (0+n) 0 e
    generalize hg:grownCap w (0+n) 0 e=cap at *
    have nW:((([]:List Value)++news).toArray++Builtin.zeroCells zv.cells (cap-(0+n))).size=cap*(z+1):=by
     rw[Array.size_append,At7,hzs]
     simp only[List.nil_append,List.size_toArray,hnl]
     rw[<- Nat.add_mul];congr 1;omega
    obtain⟨h1,h2,h3⟩:=A80 (h.drew) (k:=⟨new,.arr A.blk.length 0⟩) (c:=(([]:List Value)++news).toArray++Builtin.zeroCells zv.cells (cap-(0+n))) (el:=e)
     (by
      show new.length<=_
      rw[nW,pV];exact Nat.mul_le_mul_right _ (by omega))
     (fun j u hu=>by
      obtain⟨u',e1,e2⟩:=nV.getElem? hu
      refine⟨u',?_,e2⟩
      have hj:j<news.length:=(LG.1 e1).1
      rw[Array.getElem?_append_left (by simpa using hj)]
      simpa using e1) (by simp) (fun f β hk=>by simp at hk;exact .inl hk.1.symm)
    have hV:=VR.sl (n:=0+n) (sz:=z+1) (cap:=cap) (o:=0) h2 hge (by rw[h3,nW];simp)
    exact⟨_,_,_,jC,Adv.trans ⟨.refl ρ,h.drew,.drew ρ w,.refl _ _,.refl _ _ _⟩ h1,by simpa using hV⟩
 ·
  rename_i b o len sz'
  split at hv
  case isTrue=>simp at hv
  rename_i gZ
  have gZ:sz'=z+1:=by omega
  subst gZ
  split at hv
  . rename_i hn0
    simp at hv;obtain⟨rfl,rfl⟩:=hv
    subst hn0
    have hne:news=[]:=List.length_eq_zero_iff.1 (by simpa using hnl)
    rw[hne]at hS
    cases hs with
    |sl hb hn hc=>exact⟨ρ,_,w,run_append_nothing w t tx ty e i ht hi _ _ _ hn x' hS,.refl h,.sl hb hn hc⟩
    |slz o sz a hbz=>exact⟨ρ,_,w,run_append_nothing w t tx ty e i ht hi _ _ _ (Nat.le_refl _) x' hS,.refl h,.slz _ _ _ hbz⟩
  . rename_i hn0
    split at hv
    case h_2=>simp at hv
    rename_i k old hk hr
    split at hv
    case h_2=>simp at hv
    rename_i fam β hkd
    split at hv
    case isFalse=>simp at hv
    rename_i jx
    obtain⟨tJ,pW,tV⟩:=jx
    simp at hv;obtain⟨rfl,rfl⟩:=hv
    have grow:∀(ao:Option Addr) (cap0:Nat) (olds:List Value),VRs ρ old olds->olds.length=len*(z+1)->cap0<len+n ->
     ((Builtin.firstCells i.size len (.slice ao len cap0)).run P w.drew=.ok olds.toArray w.drew)->(∀x' d',ρ.b b=some (x',d')->True)->(ρ.b fam).isSome=true->(∃y,ρ.b b=some y) ->
     ∃ ρ' v' w',(Builtin.append_ #[t,tx] ty #[.slice ao len cap0,x']).run P w=.ok v' w' /\
      Adv P base W ρ A w ρ' ((A.a8 fam (β+o+len*(z+1)) (β+o+(len+n)*(z+1)) none).push ⟨old++new,.arr fam (β+o)⟩) w' /\
      VR ρ' (.sl A.blk.length 0 (len+n) (z+1)) v':=by
     intro ao cap0 olds hor hol kJ hfc _ hfs hbs
     have jC:=run_append_grow_src (P:=P) w t tx ty e i zv ht hi hiz ao len cap0 olds hfc x' n news hS kJ (by omega) (growslice_fits kJ (by rw[hib];exact pW))
     have hge:=grownCap_ge w (len+n) cap0 e
     generalize hg:grownCap w (len+n) cap0 e=cap at *
     have nW:((olds++news).toArray++Builtin.zeroCells zv.cells (cap-(len+n))).size=cap*(z+1):=by
      rw[Array.size_append,At7,hzs]
      simp only[List.size_toArray,List.length_append,hnl,hol]
      rw[<- Nat.add_mul,<- Nat.add_mul];congr 1;omega
     obtain⟨⟨xb,db⟩,hbb⟩:=hbs
     have hp:=AL6 h (β+o+len*(z+1)) (β+o+(len+n)*(z+1)) hbb hk hkd
     obtain⟨h1,h2,h3⟩:=A80 (hp.inv.drew) (k:=⟨old++new,.arr fam (β+o)⟩) (c:=(olds++news).toArray++Builtin.zeroCells zv.cells (cap-(len+n))) (el:=e)
      (by
       show(old++new).length<=_
       rw[nW,List.length_append,hor.len,hol,pV,<- Nat.add_mul];exact Nat.mul_le_mul_right _ hge)
      (fun j u hu=>by
       obtain⟨u',e1,e2⟩:=(hor.append nV).getElem? hu
       refine⟨u',?_,e2⟩
       have hj:j<(olds++news).length:=(LG.1 e1).1
       rw[Array.getElem?_append_left (by simpa using hj)]
       simpa using e1) (by simp) (fun f β' hk'=>by simp at hk';rw[<- hk'.1];exact .inr hfs)
     rw[An9]at h1 h2 h3
     have hV:=VR.sl (n:=len+n) (sz:=z+1) (cap:=cap) (o:=0) h2 hge (by rw[h3,nW];simp)
     exact⟨_,_,_,jC,Adv.trans hp (Adv.trans ⟨.refl ρ,hp.inv.drew,.drew ρ w,.refl _ _,.refl _ _ _⟩ h1),by simpa using hV⟩
    cases hs with
    |slz o sz a hbz =>
     have hol:old=[]:=by
      obtain⟨k',_,_,rfl,hl⟩:=Ag7 hr
      simp
     subst hol
     exact grow _ _ [] (.nil _) (by simp) (by omega) (run_firstCells_some w.drew i.size 0 a 0 0 [] (by simp) (fun j u hu=>by simp at hu)) (fun _ _ _=>trivial) (h.fam b k fam β _ hbz hk hkd) ⟨_,hbz⟩
    |sl hb hn hc =>
     rename_i xb db cap0
     have hfs:=h.fam b k fam β _ hb hk hkd
     obtain⟨olds,ho1,ho2,ho3⟩:=An6 h hb hr
     by_cases nX:len+n<=cap0
     ·
      obtain⟨k',hk',dx,fH⟩:=h.blk b xb db hb
      rw[hk]at hk';cases hk'
      have hbx:base<=xb:=fH (by rw[hkd];simp)
      obtain⟨c,el,fr,hcc,hcs,hfr,hcl,ef⟩:=dx.row
      have hsp:o+db+(len+n)*(z+1)<=c.size:=by
       have:=Nat.mul_le_mul_right (z+1) nX
       omega
      rw[Nat.add_mul]at hsp
      have jC:=run_append_room_src (P:=P) w t tx ty e i ht hi xb (o+db) len cap0 x' n news hS nX
       (fun j hj=>by rw[his,Ag6 hcc,Array.getElem?_eq_getElem (by omega)];rfl)
       (fun j hj=>by rw[his,At6 hcc];exact DF ((hfr (by rw[hkd];simp)).not _ (by omega)))
      rw[his]at jC
      have hp:=AL6 h (β+o+len*(z+1)) (β+o+(len+n)*(z+1)) hb hk hkd
      have hI:=A18 hp.inv (p:=o+db+len*(z+1)) (vs':=news) hcc hbx (fun b1 d1 k1 j u hb1 hk1 hu h1 h2=>by
       rw[An8]at hk1
       cases hq:A.blk[b1]? with
       |none=>simp[hq]at hk1
       |some k0 =>
        simp[hq]at hk1
        subst hk1
        rcases h.inj b b1 xb db d1 k k0 hb hb1 hk hq with e' |⟨e',_⟩ |⟨f,β1,β2,e1,e2,e3⟩
        . subst e'
          rw[hb]at hb1;cases hb1
          rw[hk]at hq;cases hq
          rcases Am1 _ _ _ _ hu with rfl |⟨_,kg⟩
          . rfl
          . have:=kg β hkd
            rw[Nat.add_mul]at this
            omega
        . rw[hkd]at e';simp at e'
        . rw[hkd]at e1;cases e1
          rcases Am1 _ _ _ _ hu with rfl |⟨_,kg⟩
          . rfl
          . have:=kg β2 e2
            rw[Nat.add_mul]at this
            omega)
      have hlenA:(A.a8 fam (β+o+len*(z+1)) (β+o+(len+n)*(z+1)) none).blk.length=A.blk.length:=An9 _ _ _ _ _
      obtain⟨c',hc',gZ,bM⟩:=Am2 xb el fr news (o+db+len*(z+1)) w c hcc
      have th:=hI.lay (A':=(A.a8 fam (β+o+len*(z+1)) (β+o+(len+n)*(z+1)) none).push ⟨old++new,.arr fam (β+o)⟩)
       (w':=w.setCells xb (o+db+len*(z+1)) news) (b:=A.blk.length) (x:=xb) (d:=o+db) (k:=⟨old++new,.arr fam (β+o)⟩) (c:=c') (el:=el) (fr:=fr)
       (h.jn (Nat.le_refl _)) (by rw[<- hlenA];exact Af7 _ _) (fun i k1 _ hk1=>Ag8 hk1)
       (fun i k1 f β' hne hn' hk1 ti=>by
        rcases Aw5 hk1 with hq |⟨hq,_⟩
        . exact hp.inv.own i k1 f β' hn' hq ti
        . rw[hlenA]at hq;exact absurd hq hne) rfl rfl rfl hI hc' (fun _=>by rw[gZ];exact hfr (by rw[hkd];simp)) hbx
       (by
        show(old++new).length+(o+db)<=c'.size
        rw[List.length_append,ho1.len,ho2,pV,gZ];omega)
       (fun j u hu=>by
        rw[bM]
        obtain⟨u',e1,e2⟩:=(ho1.append nV).getElem? hu
        have hj:j<(olds++news).length:=(LG.1 e1).1
        rw[List.length_append,ho2,hnl]at hj
        by_cases hjo:j<len*(z+1)
        . rw[if_neg (by omega)]
          rw[List.getElem?_append_left (by omega)]at e1
          have:=ho3 j u' e1
          rw[Ag6 hcc]at this
          exact⟨u',by rw[<- this];congr 1;omega,e2⟩
        . rw[if_pos ⟨by omega,by omega,by omega⟩]
          rw[List.getElem?_append_right (by omega),ho2]at e1
          exact⟨u',by rw[<- e1];congr 1;omega,e2⟩)
       (by simp) (fun i' d' q=>by
        obtain⟨k9,_,hr9,_⟩:=h.blk i' xb d' q
        obtain⟨c9,_,_,hc9,hs9,_⟩:=hr9.row
        rw[hcc]at hc9;cases hc9
        rw[gZ,hs9])
       (fun b1 d1 k1 hb1 hk1=>by
        rw[An8]at hk1
        cases hq:A.blk[b1]? with
        |none=>simp[hq]at hk1
        |some k0 =>
         simp[hq]at hk1
         subst hk1
         rw[Af1]
         rcases h.inj b b1 xb db d1 k k0 hb hb1 hk hq with e' |⟨e',_⟩ |⟨f,β1,β2,e1,e2,e3⟩
         . subst e'
           rw[hb]at hb1;cases hb1
           rw[hk]at hq;cases hq
           exact⟨fam,β,β+o,hkd,rfl,by omega⟩
         . rw[hkd]at e';simp at e'
         . rw[hkd]at e1;cases e1
           exact⟨fam,β2,β+o,e2,rfl,by omega⟩)
       (fun f β' hk'=>by simp at hk';rw[<- hk'.1];exact .inr hfs)
      have mH:ρ.has xb:=.inl ⟨b,db,hb⟩
      have tj:∀i' d',ρ.b i'=some (xb,d')->ρ.sz xb=c'.size:=fun i' d' q=>by rw[gZ,hcs]
      refine⟨ρ.bf A.blk.length xb (o+db) c'.size,_,_,jC,⟨Rho.gp (h.jn (Nat.le_refl _)) tj,th,⟨by rw[Aj5];exact Nat.le_refl _,fun i' hi' hn'=>Ac0 xb news _ w (fun e'=>hn' (e' ▸ mH))⟩,?_,?_⟩,?_⟩
      . refine⟨by simp[AS.push,An9],Nat.le_refl _,fun b1 hb1 hn1=>?_,fun _ _ _=>rfl⟩
        rw[<- hp.fa.blk b1 hb1 hn1]
        exact List.getElem?_append_left (by rw[hlenA];exact hb1)
      . refine⟨fun i' x1 d1 hi' hn'=>?_,fun i' x1 hi' hn'=>?_,fun x1 hx1 hh=>?_⟩
        . simp only[Rho.bf]at hi'
          split at hi'
          . omega
          . rw[hn']at hi';simp at hi'
        . rw[show(ρ.bf A.blk.length xb (o+db) c'.size).m i'=ρ.m i' from rfl,hn']at hi';simp at hi'
        . rcases Rho.iD hh with hh |rfl
          . exact hh
          . exact mH
      . have hb2:(ρ.bf A.blk.length xb (o+db) c'.size).b A.blk.length=some (xb,o+db):=by simp[Rho.bf]
        have:=VR.sl (n:=len+n) (sz:=z+1) (cap:=cap0) (o:=0) hb2 nX (by
         show _<=(ρ.bf A.blk.length xb (o+db) c'.size).sz xb
         simp only[Rho.bf,if_true]
         rw[gZ,hcs];omega)
        simpa using this
     . have hfc:(Builtin.firstCells i.size len (.slice (some ⟨xb,o+db,none⟩) len cap0)).run P w.drew=.ok olds.toArray w.drew:=by
        exact run_firstCells_some w.drew i.size len ⟨xb,o+db,none⟩ len cap0 olds (by rw[ho2,his]) (fun j u hu=>by rw[Addr.add_lit];exact ho3 j u hu)
       exact grow _ _ olds ho1 ho2 (by omega) hfc (fun _ _ _=>trivial) hfs ⟨_,hb⟩
 . simp at hv
end Go.Sv
namespace Go.Sv
open Go
def V.aO:V->Value
 |.bool b=>.bool b
 |.int k n=>.int k n
 |.str s=>.string ⟨s.toArray⟩
 | _=>Go.undef
theorem VR.aO{ρ:Rho}{v:V}{v':Value}(h:VR ρ v v')(hf:v.flat=true):v'=v.aO:=by
 cases h<;>simp_all[V.flat,V.aO]
theorem CK.ky{c:CK}{v:V}(h:c.fits v=true):v.flat=true:=by
 cases c<;>cases v<;>simp_all[CK.fits,V.flat]
theorem Ac5:∀{sh:List CK} {xs:List V},an sh xs=true->xs.length=sh.length
 |[],[],_=>rfl
 |[],_::_,h=>by simp[an]at h
 | _::_,[],h=>by simp[an]at h
 |c::cs,v::vs,h=>by simp[an]at h;simp[Ac5 h.2]
theorem Am3:∀{sh:List CK} {xs:List V},an sh xs=true->∀x∈xs,x.flat=true
 |[],[],_,_,h=>by cases h
 |[],_::_,h,_,_=>by simp[an]at h
 | _::_,[],h,_,_=>by simp[an]at h
 |c::cs,v::vs,h,x,hx=>by
  simp[an]at h
  cases hx with
  |head=>exact CK.ky h.1
  |tail _ hm=>exact Am3 h.2 x hm
theorem VRs.aO{ρ:Rho}:∀{xs:List V} {xs':List Value},VRs ρ xs xs'->(∀x∈xs,x.flat=true)->xs'=xs.map V.aO
 |[],xs',h,_=>h.dI
 |x::xs,xs',h,hf=>by
  obtain⟨v',r',rfl,h1,h2⟩:=h.cons_inv
  rw[h1.aO (hf x (by simp)),VRs.aO h2 (fun y hy=>hf y (by simp[hy]))]
  rfl
theorem Ae6:∀{a b:List CK} {xs:List V},an (a++b) xs=true->an a (xs.take a.length)=true/\an b (xs.drop a.length)=true
 |[],b,xs,h=>by simpa[an] using h
 |c::a,b,[],h=>by simp[an]at h
 |c::a,b,x::xs,h=>by
  simp[an]at h
  have:=Ae6 h.2
  simp[an,h.1,this]
theorem Am8:∀{a b c d:List V},a.length=c.length->aN (a++b) (c++d)=(aN a c && aN b d)
 |[],b,[],d,_=>by simp[aN]
 |[],_,_::_,_,h=>by simp at h
 | _::_,_,[],_,h=>by simp at h
 |x::a,b,y::c,d,h=>by
  simp at h
  simp[aN,Am8 h,Bool.and_assoc]
theorem Az2{c:CK}{xs:List V}(h:an [c] xs=true):∃v,xs=[v]/\c.fits v=true:=by
 match xs,h with
 |[v],h=>simp[an]at h;exact⟨v,rfl,h⟩
 |[],h=>simp[an]at h
 | _::_::_,h=>simp[an]at h
theorem Aw6{v:V}(h:CK.bool.fits v=true):∃b,v=.bool b:=by cases v<;>simp_all[CK.fits]
theorem AC9{k:IntKind}{v:V}(h:(CK.int k).fits v=true):∃n,v=.int k n:=by cases v<;>simp_all[CK.fits]
theorem AD0{v:V}(h:CK.str.fits v=true):∃b,v=.str b:=by cases v<;>simp_all[CK.fits]
def dw(P:Program)(t:TypeId)(vs:List Value):Value:=if aH P t=some true then .agg vs.toArray else vs.headD Go.undef
theorem Bk6{P:Program}{d:Nat}{t:TypeId}{sh:List CK}(h:bT P d t=some sh):(aH P t=some true)∨(aH P t=some false/\sh.length=1):=by
 cases d with
 |zero=>simp[bT]at h
 |succ d =>
  unfold bT at h
  unfold aH
  cases hu:P.underlying t with
  |none=>simp[hu]at h
  |some k =>
   cases k<;>simp[hu]at h ⊢
   all_goals (subst h;rfl)
theorem Af2{P:Program}{d:Nat}{e:TypeId}{sh:List CK}(hs:bT P d e=some sh)(hn:szT P e=some sh.length){xs:Array Value}{off:Nat}(hl:off+sh.length<=xs.size)(w:World):
 (part e xs off).run P w=.ok (dw P e ((xs.toList.drop off).take sh.length)) w:=by
 rcases Bk6 hs with ha |⟨ha,h1⟩
 . simp only[part,Sem.run_bind,An7 ha,Result.andThen_ok,if_true,Ab8 hn,Sem.run_pure]
   unfold dw
   rw[if_pos ha]
   congr 2
   apply Array.ext'
   simp
 . have hlt:off<xs.size:=by omega
   simp only[part,Sem.run_bind,An7 ha,Result.andThen_ok,Bool.false_eq_true,if_false,Array.getElem?_eq_getElem hlt,Sem.run_pure]
   unfold dw
   rw[if_neg (by rw[ha];simp),h1]
   congr 1
   rw[List.drop_eq_getElem_cons (by simpa using hlt)]
   simp
theorem Aj6(l:List V)(a b:Nat):((l.map V.aO).drop a).take b=((l.drop a).take b).map V.aO:=by
 rw[List.map_take,List.map_drop]
theorem Bk7{P:Program}{t:TypeId}{n:Nat}(h:szT P t=some n):∃i,P.info? t=some i/\P.cellsOf t=n:=by
 unfold szT at h
 cases hi:P.info? t with
 |none=>simp[hi]at h
 |some i=>simp[hi]at h;exact⟨i,rfl,by simp[Program.cellsOf,hi,h]⟩
def kK(P:Program)(D:Nat)(t:TypeId)(sh:List CK):Prop :=
 ∀(w:World) (xs ys:List V),an sh xs=true->an sh ys=true ->
  (Op.equalIn D t (dw P t (xs.map V.aO)) (dw P t (ys.map V.aO))).run P w=.ok (aN xs ys) w
theorem Aw7{P:Program}{D:Nat}{e:TypeId}{sh:List CK}{d:Nat}(hs:bT P d e=some sh)(hn:szT P e=some sh.length)(ih:kK P D e sh)(w:World)(xs ys:List V):
 ∀(n k:Nat),an (List.replicate n sh).flatten (xs.drop (k*sh.length))=true->an (List.replicate n sh).flatten (ys.drop (k*sh.length))=true ->
  (Op.eqItems D e sh.length (xs.map V.aO).toArray (ys.map V.aO).toArray (List.range' k n)).run P w=.ok (aN (xs.drop (k*sh.length)) (ys.drop (k*sh.length))) w
 | 0,k,hx,hy=>by
  have e1:xs.drop (k*sh.length)=[]:=List.length_eq_zero_iff.1 (by have:=Ac5 hx;simpa using this)
  have e2:ys.drop (k*sh.length)=[]:=List.length_eq_zero_iff.1 (by have:=Ac5 hy;simpa using this)
  simp[Op.eqItems,e1,e2,aN]
 |n+1,k,hx,hy=>by
  rw[List.replicate_succ,List.flatten_cons]at hx hy
  obtain⟨hx1,hx2⟩:=Ae6 hx
  obtain⟨hy1,hy2⟩:=Ae6 hy
  have lx:=Ac5 hx
  have ly:=Ac5 hy
  simp only[List.length_append,List.length_drop]at lx ly
  rw[List.drop_drop]at hx2 hy2
  rw[show k*sh.length+sh.length=(k+1)*sh.length by rw[Nat.add_mul];omega]at hx2 hy2
  have IH:=Aw7 hs hn ih w xs ys n (k+1) hx2 hy2
  have hlx:k*sh.length+sh.length<=xs.length:=by
   rcases Nat.eq_zero_or_pos sh.length with h0 |h0
   . rw[h0];simp
   . omega
  have hly:k*sh.length+sh.length<=ys.length:=by
   rcases Nat.eq_zero_or_pos sh.length with h0 |h0
   . rw[h0];simp
   . omega
  have p1:=Af2 hs hn (xs:=(xs.map V.aO).toArray) (off:=k*sh.length) (by simpa using hlx) w
  have p2:=Af2 hs hn (xs:=(ys.map V.aO).toArray) (off:=k*sh.length) (by simpa using hly) w
  simp only[]at p1 p2
  rw[Aj6]at p1 p2
  have p3:=ih w _ _ hx1 hy1
  rw[List.range'_succ]
  simp only[Op.eqItems,Sem.run_bind,p1,p2,Result.andThen_ok,p3]
  have split:∀(l:List V),l.drop (k*sh.length)=(l.drop (k*sh.length)).take sh.length++l.drop ((k+1)*sh.length):=fun l=>by
   conv=>lhs;rw[<- List.take_append_drop sh.length (l.drop (k*sh.length))]
   rw[List.drop_drop,show k*sh.length+sh.length=(k+1)*sh.length by rw[Nat.add_mul];omega]
  have hE:aN (xs.drop (k*sh.length)) (ys.drop (k*sh.length))=(aN ((xs.drop (k*sh.length)).take sh.length) ((ys.drop (k*sh.length)).take sh.length) && aN (xs.drop ((k+1)*sh.length)) (ys.drop ((k+1)*sh.length))):=by
   conv=>lhs;rw[split xs,split ys]
   rw[Am8 (by rw[Ac5 hx1,Ac5 hy1])]
  rw[hE]
  cases hb:aN ((xs.drop (k*sh.length)).take sh.length) ((ys.drop (k*sh.length)).take sh.length)
  . simp
  . simp[IH]
theorem At8{P:Program}{D d:Nat}(ih:∀t sh,bT P d t=some sh->kK P D t sh)(w:World)(xs ys:List V):
 ∀(fs:List Field) (k:Nat) (sh:List CK),di P (bT P d) k fs=some sh->an sh (xs.drop k)=true->an sh (ys.drop k)=true ->
  (Op.eqFields D (xs.map V.aO).toArray (ys.map V.aO).toArray fs).run P w=.ok (aN (xs.drop k) (ys.drop k)) w
 |[],k,sh,hs,hx,hy=>by
  simp[di]at hs
  subst hs
  have e1:xs.drop k=[]:=List.length_eq_zero_iff.1 (by have:=Ac5 hx;simpa using this)
  have e2:ys.drop k=[]:=List.length_eq_zero_iff.1 (by have:=Ac5 hy;simpa using this)
  simp[Op.eqFields,e1,e2,aN]
 |f::fs,k,sh,hs,hx,hy=>by
  unfold di at hs
  split at hs
  . simp at hs
  . rename_i hc
    have nY : f.name ≠ "_" := fun e => hc (.inl e)
    have jO:f.offset=k:=Classical.byContradiction fun e=>hc (.inr e)
    split at hs
    . rename_i l s hl hsz
      split at hs
      . rename_i hsl
        obtain⟨hsl,ot⟩:=hsl
        split at hs
        . simp at hs
        . rename_i r hr
          simp at hs;subst hs;subst hsl
          obtain⟨hx1,hx2⟩:=Ae6 hx
          obtain⟨hy1,hy2⟩:=Ae6 hy
          have lx:=Ac5 hx1
          have ly:=Ac5 hy1
          rw[List.drop_drop]at hx2 hy2
          have IH:=At8 ih w xs ys fs (k+l.length) r hr hx2 hy2
          simp only[List.length_take,List.length_drop]at lx ly
          have p1:=Af2 hl hsz (xs:=(xs.map V.aO).toArray) (off:=k) (by simp;omega) w
          have p2:=Af2 hl hsz (xs:=(ys.map V.aO).toArray) (off:=k) (by simp;omega) w
          simp only[]at p1 p2
          rw[Aj6]at p1 p2
          have p3:=ih _ _ hl w _ _ hx1 hy1
          simp only[Op.eqFields,nY,ne_eq,not_false_eq_true,if_true,Sem.run_bind,jO,p1,p2,Result.andThen_ok,p3]
          have split:∀(q:List V),q.drop k=(q.drop k).take l.length++q.drop (k+l.length):=fun q=>by
           conv=>lhs;rw[<- List.take_append_drop l.length (q.drop k)]
           rw[List.drop_drop]
          have hE:aN (xs.drop k) (ys.drop k)=(aN ((xs.drop k).take l.length) ((ys.drop k).take l.length) && aN (xs.drop (k+l.length)) (ys.drop (k+l.length))):=by
           conv=>lhs;rw[split xs,split ys]
           rw[Am8 (by rw[Ac5 hx1,Ac5 hy1])]
          rw[hE]
          cases hb:aN ((xs.drop k).take l.length) ((ys.drop k).take l.length)
          . simp
          . simp[IH]
      . simp at hs
    . simp at hs
theorem Al0{P:Program}:∀(d:Nat) (D:Nat) (t:TypeId) (sh:List CK),bT P d t=some sh->kK P (D+d) t sh
 | 0,_,_,_,h=>by simp[bT]at h
 |d+1,D,t,sh,hs=>by
  intro w xs ys hx hy
  have hs0:=hs
  unfold bT at hs
  cases hu:P.underlying t with
  |none=>simp[hu]at hs
  |some kd =>
   cases kd
   case bool =>
    simp[hu]at hs;subst hs
    have ha:aH P t=some false:=by simp[aH,hu]
    obtain⟨x,rfl,hx1⟩:=Az2 hx
    obtain⟨y,rfl,hy1⟩:=Az2 hy
    obtain⟨a,rfl⟩:=Aw6 hx1
    obtain⟨b,rfl⟩:=Aw6 hy1
    simp[dw,ha,V.aO,aN,V.fZ,show D+(d+1)=(D+d)+1 from rfl,run_equalIn_bool' w (D+d) t a b hu]
   case int q =>
    simp[hu]at hs;subst hs
    have ha:aH P t=some false:=by simp[aH,hu]
    obtain⟨x,rfl,hx1⟩:=Az2 hx
    obtain⟨y,rfl,hy1⟩:=Az2 hy
    obtain⟨a,rfl⟩:=AC9 hx1
    obtain⟨b,rfl⟩:=AC9 hy1
    simp[dw,ha,V.aO,aN,V.fZ,show D+(d+1)=(D+d)+1 from rfl,run_equalIn_int w (D+d) t q q a b hu]
   case string =>
    simp[hu]at hs;subst hs
    have ha:aH P t=some false:=by simp[aH,hu]
    obtain⟨x,rfl,hx1⟩:=Az2 hx
    obtain⟨y,rfl,hy1⟩:=Az2 hy
    obtain⟨a,rfl⟩:=AD0 hx1
    obtain⟨b,rfl⟩:=AD0 hy1
    simp[dw,ha,V.aO,aN,V.fZ,show D+(d+1)=(D+d)+1 from rfl,run_equalIn_string w (D+d) t _ _ hu,ByteArray.toList_eq]
   case array n e =>
    simp only[hu]at hs
    split at hs
    . rename_i l s hl hsz
      split at hs
      . rename_i hsl
        simp at hs;subst hs;subst hsl
        have ha:aH P t=some true:=by simp[aH,hu]
        obtain⟨i,hi,hce⟩:=Bk7 hsz
        simp only[dw,ha,if_true]
        rw[show D+(d+1)=(D+d)+1 from rfl,run_equalIn_array w (D+d) _ _ hu hi,hce,List.range_eq_range']
        have:=Aw7 hl hsz (Al0 d D e l hl) w xs ys n 0 (by simpa using hx) (by simpa using hy)
        simpa using this
      . simp at hs
    . simp at hs
   case struct fs =>
    simp only[hu]at hs
    split at hs
    . simp at hs
    . rename_i hst
      have ha:aH P t=some true:=by simp[aH,hu]
      have hfo:P.fieldsOf t=fs:=by simp[Program.fieldsOf,hu]
      simp only[dw,ha,if_true]
      rw[show D+(d+1)=(D+d)+1 from rfl,run_equalIn_struct w (D+d) t _ _ (by rw[hfo];exact hu) (by simpa using hst),hfo]
      have:=At8 (D:=D+d) (fun t sh h=>Al0 d D t sh h) w xs ys fs.toList 0 sh hs (by simpa using hx) (by simpa using hy)
      simpa using this
   all_goals (simp[hu]at hs)
end Go.Sv
namespace Go.Sv
open Go
theorem Ai0{P:Program}(em:Bool):∀(d:Nat) (D:Nat) (t:TypeId) (sh:List CK),bT P d t=some sh->∀(w:World) (xs:List V),an sh xs=true ->
 (Instr.checkKey em (D+d) t (dw P t (xs.map V.aO))).run P w=.ok () w
 | 0,_,_,_,h,_,_,_=>by simp[bT]at h
 |d+1,D,t,sh,hs,w,xs,hx=>by
  unfold bT at hs
  rw[show D+(d+1)=(D+d)+1 from rfl]
  cases hu:P.underlying t with
  |none=>simp[hu]at hs
  |some kd =>
   cases kd
   case bool =>
    have ha:aH P t=some false:=by simp[aH,hu]
    simp[Instr.checkKey,run_underlying hu,dw,ha]
   case int q =>
    have ha:aH P t=some false:=by simp[aH,hu]
    simp[Instr.checkKey,run_underlying hu,dw,ha]
   case string =>
    have ha:aH P t=some false:=by simp[aH,hu]
    simp[Instr.checkKey,run_underlying hu,dw,ha]
   case array n e =>
    simp only[hu]at hs
    split at hs
    . rename_i l s hl hsz
      split at hs
      . rename_i hsl
        simp at hs;subst hs;subst hsl
        have ha:aH P t=some true:=by simp[aH,hu]
        simp only[Instr.checkKey,Sem.run_bind,run_underlying hu,Result.andThen_ok,dw,ha,if_true]
        simp only[Std.Legacy.Range.forIn_eq_forIn_range',Std.Legacy.Range.size,Nat.sub_zero,Nat.add_one_sub_one,Nat.div_one]
        have key:∀(m k:Nat),an (List.replicate m l).flatten (xs.drop (k*l.length))=true ->
         (forIn (List.range' k m) PUnit.unit fun i (_:PUnit)=>(do Instr.checkKey em (D+d) e (<- part e (xs.map V.aO).toArray (i*(<- sizeOf e)));pure (ForInStep.yield PUnit.unit):Sem (ForInStep PUnit))).run P w=.ok PUnit.unit w:=by
         intro m
         induction m with
         |zero=>intro k _;simp
         |succ m ih =>
          intro k hk
          rw[List.replicate_succ,List.flatten_cons]at hk
          obtain⟨hk1,hk2⟩:=Ae6 hk
          have lx:=Ac5 hk
          simp only[List.length_append,List.length_drop]at lx
          rw[List.drop_drop,show k*l.length+l.length=(k+1)*l.length by rw[Nat.add_mul];omega]at hk2
          have hlx:k*l.length+l.length<=xs.length:=by
           rcases Nat.eq_zero_or_pos l.length with h0 |h0
           . rw[h0];simp
           . omega
          have p1:=Af2 hl hsz (xs:=(xs.map V.aO).toArray) (off:=k*l.length) (by simpa using hlx) w
          simp only[]at p1
          rw[Aj6]at p1
          have p2:=Ai0 em d D e l hl w _ hk1
          rw[List.range'_succ]
          simp only[List.forIn_cons,Sem.run_bind,Ab8 hsz,Result.andThen_ok,p1,p2,Sem.run_pure]
          exact ih (k+1) hk2
        have h2:=key n 0 (by simpa using hx)
        simp at h2 ⊢
        rw[h2];rfl
      . simp at hs
    . simp at hs
   case struct fs =>
    simp only[hu]at hs
    split at hs
    . simp at hs
    . rename_i hst
      have ha:aH P t=some true:=by simp[aH,hu]
      simp only[Instr.checkKey,Sem.run_bind,run_underlying hu,Result.andThen_ok,dw,ha,if_true]
      rw[<- Array.forIn_toList]
      have key:∀(L:List Field) (k:Nat) (sh:List CK),di P (bT P d) k L=some sh->an sh (xs.drop k)=true ->
       (forIn L PUnit.unit fun f (_:PUnit)=>(do
        if f.name ≠ "_" then do Instr.checkKey em (D + d) f.type (<- part f.type (xs.map V.aO).toArray f.offset); pure (ForInStep.yield PUnit.unit) else pure (ForInStep.yield PUnit.unit) : Sem (ForInStep PUnit))).run P w = .ok PUnit.unit w := by
       intro L
       induction L with
       |nil=>intro k sh _ _;simp
       |cons f L ih =>
        intro k sh hsf hk
        unfold di at hsf
        split at hsf
        . simp at hsf
        . rename_i hc
          have nY : f.name ≠ "_" := fun e => hc (.inl e)
          have jO:f.offset=k:=Classical.byContradiction fun e=>hc (.inr e)
          split at hsf
          . rename_i l s hl hsz
            split at hsf
            . rename_i hsl
              obtain⟨hsl,ot⟩:=hsl
              split at hsf
              . simp at hsf
              . rename_i r hr
                simp at hsf;subst hsf;subst hsl
                obtain⟨hk1,hk2⟩:=Ae6 hk
                have lx:=Ac5 hk1
                rw[List.drop_drop]at hk2
                simp only[List.length_take,List.length_drop]at lx
                have p1:=Af2 hl hsz (xs:=(xs.map V.aO).toArray) (off:=k) (by simp;omega) w
                simp only[]at p1
                rw[Aj6]at p1
                have p2:=Ai0 em d D f.type l hl w _ hk1
                simp only[List.forIn_cons,Sem.run_bind,nY,ne_eq,not_false_eq_true,if_true,jO,p1,p2,Result.andThen_ok,Sem.run_pure]
                exact ih (k+l.length) r hr hk2
            . simp at hsf
          . simp at hsf
      have h2:=key fs.toList 0 sh hs (by simpa using hx)
      simp at h2 ⊢
      rw[h2];rfl
   all_goals (simp[hu]at hs)
def bH(k:V):Value:=match k with
 |.agg cs=>.agg (cs.map V.aO).toArray
 |v=>v.aO
def bI(k:V):List ME->Option Nat
 |[]=>none
 |e::es=>if V.bU k e.key then some 0 else(bI k es).map (·+1)
theorem Aw8(k:V):∀(es:List ME),gN k es=(bI k es).bind (es[·]?)
 |[]=>rfl
 |e::es=>by
  unfold gN bI
  split
  . simp
  . rw[Aw8 k es];cases bI k es<;>simp
theorem Aw9{k:V}:∀{es:List ME} {i:Nat},bI k es=some i->i<es.length
 |[],_,h=>by simp[bI]at h
 |e::es,i,h=>by
  unfold bI at h
  split at h
  . simp at h;subst h;simp
  . cases hq:bI k es with
    |none=>simp[hq]at h
    |some j=>simp[hq]at h;subst h;have:=Aw9 hq;simp;omega
theorem Au7{P:Program}{t:TypeId}{k:V}{es:List ME}(h:gj P t k es=true):∃sh,bT P 50 t=some sh /\
 ((aH P t=some true/\(∃cs,k=.agg cs/\an sh cs=true)/\∀e∈es,∃cs,e.key=.agg cs/\an sh cs=true) ∨
  (aH P t=some false/\(an sh [k]=true)/\∀e∈es,an sh [e.key]=true)):=by
 have hk:∀(es:List ME) (sh:List CK),gO sh es=true->∀e∈es,(match e.key with |.agg cs=>an sh cs |v=>an sh [v])=true:=by
  intro es sh
  induction es with
  |nil=>intro _ e he;cases he
  |cons x xs ih =>
   intro h e he
   simp only[gO,Bool.and_eq_true]at h
   cases he with
   |head=>exact h.1
   |tail _ hm=>exact ih h.2 e hm
 unfold gj at h
 split at h
 . rename_i sh cs hs ha
   simp only[Bool.and_eq_true,List.all_eq_true]at h
   refine⟨sh,hs,.inl ⟨ha,⟨cs,rfl,h.1.1⟩,fun e he=>?_⟩⟩
   have h1:=hk es sh h.1.2 e he
   have h2:=h.2 e he
   cases hq:e.key<;>simp[hq]at h1 h2
   exact⟨_,rfl,h1⟩
 . simp at h
 . rename_i sh hs ha hna
   simp only[Bool.and_eq_true,List.all_eq_true]at h
   refine⟨sh,hs,.inr ⟨ha,h.1.1,fun e he=>?_⟩⟩
   have h1:=hk es sh h.1.2 e he
   have h2:=h.2 e he
   cases hq:e.key<;>simp[hq]at h1 h2<;>exact h1
 . simp at h
theorem AG3{P:Program}{t:TypeId}(ha:aH P t=some true)(cs:List V):dw P t (cs.map V.aO)=bH (.agg cs):=by simp[dw,ha,bH]
theorem Ag9{sh:List CK}{v:V}(h:an sh [v]=true):(∃c,sh=[c]/\c.fits v=true)/\v.flat=true/\bH v=v.aO:=by
 match sh,h with
 |[c],h =>
  simp[an]at h
  refine⟨⟨c,rfl,h⟩,CK.ky h,?_⟩
  cases v<;>simp_all[CK.fits,bH]<;>cases c<;>simp_all[CK.fits]
 |[],h=>simp[an]at h
 | _::_::_,h=>simp[an]at h
theorem Az3{P:Program}{t:TypeId}(ha:aH P t=some false){sh:List CK}{v:V}(h:an sh [v]=true):dw P t ([v].map V.aO)=bH v:=by
 rw[(Ag9 h).2.2];simp[dw,ha]
theorem VR.bH{ρ:Rho}{v:V}{v':Value}(h:VR ρ v v')(hg:v.ground=true):v'=bH v:=by
 cases v<;>simp[V.ground]at hg
 . exact h.aO rfl
 . exact h.aO rfl
 . exact h.aO rfl
 . obtain⟨c',rfl,hc⟩:=h.gR
   simp only[Sv.bH]
   rw[<- hc.aO hg]
theorem Al1{sh:List CK}{v:V}(h:an sh [v]=true):v.ground=true:=by
 have:=(Ag9 h).2.1
 cases v<;>simp_all[V.flat,V.ground]
theorem Ai4{sh:List CK}{cs:List V}(h:an sh cs=true):(V.agg cs).ground=true:=by
 simp only[V.ground,List.all_eq_true]
 exact Am3 h
theorem Af8{P:Program}{ρ:Rho}{t:TypeId}{k:V}{k':Value}{es:List ME}(h:gj P t k es=true)(hk:VR ρ k k')(em:Bool)(w:World):(Instr.checkKey em 10000 t k').run P w=.ok () w:=by
 obtain⟨sh,hs,⟨ha,⟨cs,rfl,hf⟩,_⟩ |⟨ha,hf,_⟩⟩:=Au7 h
 . rw[hk.bH (Ai4 hf),<- AG3 ha]
   exact Ai0 em 50 9950 t sh hs w cs hf
 . rw[hk.bH (Al1 hf),<- Az3 ha hf]
   exact Ai0 em 50 9950 t sh hs w [k] hf
theorem Bk8{P:Program}{t:TypeId}{sh:List CK}(hs:bT P 50 t=some sh){a b:V}
 (h:(aH P t=some true/\∃x y,a=.agg x/\b=.agg y/\an sh x=true/\an sh y=true)∨(aH P t=some false/\an sh [a]=true/\an sh [b]=true)) (w:World):
 (Op.equal t (bH a) (bH b)).run P w=.ok (V.bU a b) w:=by
 rcases h with⟨ha,x,y,rfl,rfl,hx,hy⟩ |⟨ha,hx,hy⟩
 . rw[<- AG3 ha,<- AG3 ha]
   exact Al0 50 9950 t sh hs w x y hx hy
 . rw[<- Az3 ha hx,<- Az3 ha hy]
   have:=Al0 50 9950 t sh hs w [a] [b] hx hy
   rw[show Op.equal t (dw P t ([a].map V.aO)) (dw P t ([b].map V.aO))=Op.equalIn (9950+50) t (dw P t ([a].map V.aO)) (dw P t ([b].map V.aO))from rfl,this]
   have h1:=(Ag9 hx).2.1
   have h2:=(Ag9 hy).2.1
   cases a<;>cases b<;>simp_all[V.flat,aN,V.bU]
theorem AB0{sh:List CK}{kd:TypeDesc}{k:V}(hkd:∀v:V,an sh [v]=true->∀u:V,an sh [u]=true->Instr.sameNow kd v.aO u.aO=some (V.bU v u))(hk:an sh [k]=true):
 ∀(es:List ME) (es':List MapEntry) (i:Nat),(∀e∈es,an sh [e.key]=true)->es'.length=es.length->(∀(j:Nat) e e',es[j]?=some e->es'[j]?=some e'->e'.key=bH e.key) ->
  Instr.findNow kd (bH k) es' i=some ((bI k es).bind fun j=>(es'[j]?).map fun e'=>(i+j,e'.val))
 |[],[],i,_,_,_=>rfl
 |[],_::_,_,_,h,_=>by simp at h
 | _::_,[],_,_,h,_=>by simp at h
 |e::es,e'::es',i,hf,hl,hr=>by
  have h1:=hf e (by simp)
  have h2:=hr 0 e e' rfl rfl
  have hs:=hkd k hk e.key h1
  rw[<- (Ag9 hk).2.2,<- (Ag9 h1).2.2,<- h2]at hs
  unfold Instr.findNow bI
  rw[hs]
  cases hb:V.bU k e.key
  . simp only[]
    rw[AB0 hkd hk es es' (i+1) (fun x hx=>hf x (by simp[hx])) (by simpa using hl) (fun j x x' a b=>hr (j+1) x x' (by simpa using a) (by simpa using b))]
    cases hq:bI k es with
    |none=>simp
    |some j=>simp[show i+1+j=i+(j+1) by omega]
  . simp
theorem Ao0{P:Program}{t:TypeId}{sh:List CK}(hs:bT P 50 t=some sh)(ha:aH P t=some true){cs:List V}(hk:an sh cs=true)(w:World):
 ∀(es:List ME) (es':List MapEntry) (i:Nat),(∀e∈es,∃c,e.key=.agg c/\an sh c=true)->es'.length=es.length->(∀(j:Nat) e e',es[j]?=some e->es'[j]?=some e'->e'.key=bH e.key) ->
  (Instr.findAsking t (bH (.agg cs)) es' i).run P w=.ok ((bI (.agg cs) es).bind fun j=>(es'[j]?).map fun e'=>(i+j,e'.val)) w
 |[],[],i,_,_,_=>rfl
 |[],_::_,_,_,h,_=>by simp at h
 | _::_,[],_,_,h,_=>by simp at h
 |e::es,e'::es',i,hf,hl,hr=>by
  obtain⟨c,h1,h1'⟩:=hf e (by simp)
  have h2:=hr 0 e e' rfl rfl
  have he:=Bk8 hs (a:=.agg cs) (b:=e.key) (.inl ⟨ha,cs,c,rfl,h1,hk,h1'⟩) w
  rw[<- h2]at he
  unfold Instr.findAsking bI
  simp only[Sem.run_bind,he,Result.andThen_ok]
  cases hb:V.bU (.agg cs) e.key
  . simp only[Bool.false_eq_true,if_false]
    rw[Ao0 hs ha hk w es es' (i+1) (fun x hx=>hf x (by simp[hx])) (by simpa using hl) (fun j x x' a b=>hr (j+1) x x' (by simpa using a) (by simpa using b))]
    cases hq:bI (.agg cs) es with
    |none=>simp
    |some j=>simp[show i+1+j=i+(j+1) by omega]
  . simp
theorem Ai1{P:Program}{ρ:Rho}{t:TypeId}{k:V}{k':Value}{es:List ME}{es':Array MapEntry}(h:gj P t k es=true)(hk:VR ρ k k')(hm:MER ρ es es'.toList)(w:World):
 (Instr.findKey t k' es'.toList).run P w=.ok ((bI k es).bind fun j=>(es'.toList[j]?).map fun e'=>(j,e'.val)) w:=by
 obtain⟨sh,hs,⟨ha,⟨cs,rfl,hf⟩,he⟩ |⟨ha,hf,he⟩⟩:=Au7 h
 . have hkv:=hk.bH (Ai4 hf)
   have hr:∀(j:Nat) e e',es[j]?=some e->es'.toList[j]?=some e'->e'.key=bH e.key:=fun j e e' a b=>by
    obtain⟨c,h1,h2⟩:=he e (List.mem_of_getElem? a)
    exact(hm.at_ j e e' a b).1.bH (by rw[h1];exact Ai4 h2)
   have hu:∃kd,P.underlying t=some kd/\((∃n e,kd=.array n e)∨∃fs,kd=.struct fs):=by
    unfold aH at ha
    split at ha
    . rename_i fs hu;exact⟨_,hu,.inr ⟨_,rfl⟩⟩
    . rename_i n e hu;exact⟨_,hu,.inl ⟨_,_,rfl⟩⟩
    . simp at ha
    . simp at ha
   obtain⟨kd,hu,hkd⟩:=hu
   have hfa:=Ao0 hs ha hf w es es'.toList 0 he (by rw[hm.len]) hr
   subst hkv
   unfold Instr.findKey
   simp only[Sem.run_bind,run_underlying hu,Result.andThen_ok]
   cases hes:es'.toList with
   |nil =>
    have:es=[]:=List.length_eq_zero_iff.1 (by rw[hm.len,hes];rfl)
    subst this
    simp[Instr.findNow,bI]
   |cons x xs =>
    have:Instr.findNow kd (bH (.agg cs)) (x::xs) 0=none:=by
     unfold Instr.findNow
     rcases hkd with⟨n,e,rfl⟩ |⟨fs,rfl⟩<;>simp[Instr.sameNow]
    rw[this]
    rw[hes]at hfa
    simpa using hfa
 . have hkv:=hk.bH (Al1 hf)
   have hr:∀(j:Nat) e e',es[j]?=some e->es'.toList[j]?=some e'->e'.key=bH e.key:=fun j e e' a b=>(hm.at_ j e e' a b).1.bH (Al1 (he e (List.mem_of_getElem? a)))
   subst hkv
   unfold Instr.findKey
   have hu:∃kd,P.underlying t=some kd/\∀v:V,an sh [v]=true->∀u:V,an sh [u]=true->Instr.sameNow kd v.aO u.aO=some (V.bU v u):=by
    unfold bT at hs
    cases hu:P.underlying t with
    |none=>simp[hu]at hs
    |some kd =>
     refine⟨kd,rfl,?_⟩
     unfold aH at ha
     cases kd<;>simp[hu]at hs ha
     . subst hs
       intro v hv u hu'
       obtain⟨a,rfl⟩:=Aw6 (by simpa[an] using hv)
       obtain⟨b,rfl⟩:=Aw6 (by simpa[an] using hu')
       rfl
     . subst hs
       intro v hv u hu'
       obtain⟨a,rfl⟩:=AC9 (by simpa[an] using hv)
       obtain⟨b,rfl⟩:=AC9 (by simpa[an] using hu')
       simp[Instr.sameNow,V.aO,V.bU,V.fZ]
     . subst hs
       intro v hv u hu'
       obtain⟨a,rfl⟩:=AD0 (by simpa[an] using hv)
       obtain⟨b,rfl⟩:=AD0 (by simpa[an] using hu')
       simp only[Instr.sameNow,V.aO,V.bU,V.fZ]
       rw[beq_toListBytes,ByteArray.toList_eq,ByteArray.toList_eq]
   obtain⟨kd,hu,hkd⟩:=hu
   simp only[Sem.run_bind,run_underlying hu,Result.andThen_ok]
   rw[AB0 hkd hf es es'.toList 0 he (by rw[hm.len]) hr]
   simp
end Go.Sv
namespace Go.Sv
open Go
theorem As8{w:World}{x:Nat}(o:Obj)(hx:x<w.heap.size)(i:Nat):(w.putObj x o).heap[i]?=if i=x then some o else w.heap[i]?:=by
 by_cases h:i=x
 . subst h;rw[if_pos rfl];exact World.putObj_heap_same hx
 . rw[if_neg h];exact World.putObj_heap_other h
theorem Ak4{w:World}{x:Nat}{o:Obj}(h:w.heap[x]?=some o):x<w.heap.size:=(Array.getElem?_eq_some_iff.1 h).1
def mI:Obj->Bool
 |.cells ..=>false
 | _=>true
theorem Ac1{P:Program}{w:World}{x:Nat}{o:Obj}(h:w.heap[x]?=some o)(hc:mI o=true):(getObj x).run P w=.ok o w:=by
 cases o<;>simp_all[getObj,Sem.run,mI]
theorem Ad6{P:Program}{w:World}{x:Nat}{o:Obj}(o':Obj)(h:w.heap[x]?=some o)(hc:mI o=true):(setObj x o').run P w=.ok () (w.putObj x o'):=by
 cases o<;>simp_all[setObj,Sem.run,mI,World.putObj]
theorem Inv.iq{P:Program}{base:Nat}{W:World}{ρ:Rho}{A:AS}{w:World}(h:Inv P base W ρ A w){r x:Nat}{mo:jQ}{es2:Array MapEntry}
 (hx:ρ.m r=some x) (hr:MER ρ mo.es es2.toList):Adv P base W ρ A w ρ (A.cY r mo) (w.putObj x (.map es2 mo.clock)):=by
 obtain⟨hb,mo0,es0,h1,h2,h3⟩:=h.map r x hx
 have hlt:=Ak4 h2
 have bM:=As8 (.map es2 mo.clock) hlt
 have hrl:=(LG.1 h1).1
 refine⟨.refl ρ,?_,⟨by simp,fun i hi hn=>?_⟩,⟨Nat.le_refl _,by simp[AS.cY],fun _ _ _=>rfl,fun r' hr' hn=>?_⟩,.refl _ _ _⟩
 . refine { os:=h.os,tape:=h.tape,output:=h.output,size:=by simpa using h.size,old:=?_,blk:=?_,inj:=h.inj,fam:=h.fam,own:=h.own,map:=?_,dX:=h.dX,it:=?_,dY:=h.dY,lp:=?_,dZ:=h.dZ }
   . intro i hi
     rw[bM,if_neg (by omega)];exact h.old i hi
   . intro b y d hy
     obtain⟨k,e1,e2,e3⟩:=h.blk b y d hy
     refine⟨k,e1,e2.world ?_,e3⟩
     rw[bM,if_neg]
     rintro rfl
     obtain⟨c,el,fr,e4,_⟩:=e2.row
     rw[h2]at e4;simp at e4
   . intro r' y hy
     by_cases hrr:r'=r
     . subst hrr
       rw[hx]at hy;cases hy
       exact⟨hb,mo,es2,by simp[AS.cY,hrl],by rw[bM,if_pos rfl],hr⟩
     . obtain⟨e0,mo',es',e1,e2,e3⟩:=h.map r' y hy
       refine⟨e0,mo',es',by simp[AS.cY,List.getElem?_set,Ne.symm hrr,e1],?_,e3⟩
       rw[bM,if_neg (fun(e:y=x)=>hrr (h.dX r' r x (e ▸ hy) hx))];exact e2
   . intro i y hy
     obtain⟨e0,io,mo',e1,e2,e3⟩:=h.it i y hy
     refine⟨e0,io,mo',e1,?_,e3⟩
     rw[bM,if_neg];exact e2
     rintro rfl;rw[h2]at e2;simp at e2
   . intro i y hy
     obtain⟨e0,io,mo',e1,e2,e3⟩:=h.lp i y hy
     refine⟨e0,io,mo',e1,?_,e3⟩
     rw[bM,if_neg];exact e2
     rintro rfl;rw[h2]at e2;simp at e2
 . rw[bM,if_neg (fun(e:i=x)=>hn (by rw[e];exact .inr (.inl ⟨r,hx⟩)))]
 . have hne:r'≠r:=fun e=>by rw[e,hx]at hn;simp at hn
   simp[AS.cY,List.getElem?_set,Ne.symm hne]
theorem MER.set{ρ:Rho}{l:List ME}{l':List MapEntry}(h:MER ρ l l'){i:Nat}{e:ME}{e':MapEntry}(he:VR ρ e.key e'.key/\VR ρ e.val e'.val/\e'.born=e.born):MER ρ (l.set i e) (l'.set i e'):=
 ⟨by simp[h.len],fun j x x' a b=>by
  rw[List.getElem?_set]at a b
  by_cases hij:i=j
  . subst hij
    rw[if_pos rfl]at a b
    split at a<;>split at b<;>simp_all
  . rw[if_neg hij]at a b;exact h.at_ j x x' a b⟩
theorem MER.push{ρ:Rho}{l:List ME}{l':List MapEntry}(h:MER ρ l l'){e:ME}{e':MapEntry}(he:VR ρ e.key e'.key/\VR ρ e.val e'.val/\e'.born=e.born):MER ρ (l++[e]) (l'++[e']):=
 ⟨by simp[h.len],fun j x x' a b=>by
  by_cases hj:j<l.length
  . rw[List.getElem?_append_left hj]at a
    rw[List.getElem?_append_left (by rw[<- h.len];exact hj)]at b
    exact h.at_ j x x' a b
  . rw[List.getElem?_append_right (by omega)]at a
    rw[List.getElem?_append_right (by rw[<- h.len];omega),<- h.len]at b
    have:j-l.length=0:=by have:=(LG.1 a).1;simp at this;omega
    rw[this]at a b
    simp at a b
    subst a;subst b;exact he⟩
theorem MER.erase{ρ:Rho}{l:List ME}{l':List MapEntry}(h:MER ρ l l')(i:Nat):MER ρ (l.eraseIdx i) (l'.eraseIdx i):=
 ⟨by simp[List.length_eraseIdx,h.len],fun j x x' a b=>by
  rw[List.getElem?_eraseIdx]at a b
  split at a
  . rename_i hj;rw[if_pos hj]at b;exact h.at_ _ x x' a b
  . rename_i hj;rw[if_neg hj]at b;exact h.at_ _ x x' a b⟩
theorem AD1(k v:V):∀(es:List ME) (i:Nat),bI k es=some i->∃e,es[i]?=some e/\V.bU k e.key=true/\jT k v es=es.set i { e with key:=k,val:=v }
 |[],_,h=>by simp[bI]at h
 |e::es,i,h=>by
  unfold bI at h
  unfold jT
  split at h
  . rename_i hb
    simp at h;subst h
    exact⟨e,rfl,hb,by rw[if_pos hb];rfl⟩
  . rename_i hb
    cases hq:bI k es with
    |none=>simp[hq]at h
    |some j =>
     simp[hq]at h;subst h
     obtain⟨e',h1,h2,h3⟩:=AD1 k v es j hq
     exact⟨e',by simpa using h1,h2,by rw[if_neg hb,h3];rfl⟩
theorem Az4(k:V):∀(es:List ME),iB k es=match bI k es with |some i=>es.eraseIdx i |none=>es
 |[]=>rfl
 |e::es=>by
  unfold iB bI
  split
  . rfl
  . rw[Az4 k es]
    cases bI k es<;>rfl
theorem AV9{a b:V}(h:V.fZ a b=true):a=b:=by
 cases a<;>cases b<;>simp_all[V.fZ]
theorem AL7:∀{a b:List V},aN a b=true->a=b
 |[],[],_=>rfl
 |[],_::_,h=>by simp[aN]at h
 | _::_,[],h=>by simp[aN]at h
 |x::a,y::b,h=>by simp[aN]at h;rw[AV9 h.1,AL7 h.2]
theorem A19{a b:V}(h:V.bU a b=true):a=b:=by
 unfold V.bU at h
 split at h
 . rw[AL7 h]
 . exact AV9 h
theorem Aj7(n:Nat){v:V}(h:v.flat=true):Instr.sameBits n v.aO v.aO=true:=by
 cases v<;>simp_all[V.flat,V.aO]<;>cases n<;>simp[Instr.sameBits,beq_toListBytes]
theorem AW0{v:V}(h:v.ground=true):Instr.sameBits 10000 (bH v) (bH v)=true:=by
 cases v<;>simp[V.ground]at h
 . exact Aj7 10000 (v:=.bool _) rfl
 . exact Aj7 10000 (v:=.int _ _) rfl
 . exact Aj7 10000 (v:=.str _) rfl
 . rename_i cs
   simp only[bH]
   rw[show(10000:Nat)=9999+1 from rfl,Instr.sameBits]
   simp only[beq_self_eq_true,Bool.true_and,List.all_eq_true]
   intro x hx
   obtain⟨a,b⟩:=x
   have hz:∀(l:List V) (a b:Value),(a,b)∈(l.map V.aO).zip (l.map V.aO)->∃v∈l,a=v.aO/\b=v.aO:=by
    intro l
    induction l with
    |nil=>intro a b h;simp at h
    |cons y l ih =>
     intro a b h
     simp only[List.map_cons,List.zip_cons_cons,List.mem_cons,Prod.mk.injEq]at h
     rcases h with⟨rfl,rfl⟩ |h
     . exact⟨y,by simp,rfl,rfl⟩
     . obtain⟨v,h1,h2⟩:=ih a b h
       exact⟨v,by simp[h1],h2⟩
   obtain⟨v,h1,h2,h3⟩:=hz cs a b (by simpa using hx)
   subst h2;subst h3
   exact Aj7 9999 (h v h1)
theorem AB1{P:Program}{t:TypeId}{k:V}{es:List ME}(h:gj P t k es=true):k.ground=true/\∀e∈es,e.key.ground=true:=by
 obtain⟨sh,hs,⟨ha,⟨cs,rfl,hf⟩,he⟩ |⟨ha,hf,he⟩⟩:=Au7 h
 . exact⟨Ai4 hf,fun e hm=>by obtain⟨c,h1,h2⟩:=he e hm;rw[h1];exact Ai4 h2⟩
 . exact⟨Al1 hf,fun e hm=>Al1 (he e hm)⟩
theorem Ap9{P:Program}{t kt et:TypeId}(h:ia P t=some (kt,et)):P.underlying t=some (.map kt et):=by
 unfold ia at h
 split at h
 . rename_i k e hu;simp at h;rw[hu,h.1,h.2]
 . simp at h
theorem Aj8{P:Program}{t:TypeId}{z:V}(h:aC P t=some z)(w:World):∃z',(zeroValue t).run P w=.ok z' w/\∀ ρ,VR ρ z z':=by
 unfold aC at h
 cases hi:P.info? t with
 |none=>simp[hi]at h
 |some i =>
  simp[hi]at h
  cases hz:i.zero with
  |none=>simp[hz]at h
  |some z' =>
   simp[hz]at h
   exact⟨z',by simp[zeroValue,typeInfo,hi,hz],fun ρ=>AP5 h⟩
theorem AP9{P:Program}{base:Nat}{W:World}{ρ:Rho}{A:AS}{w:World}(h:Inv P base W ρ A w){t:TypeId}{x k:V}{x' k':Value}{ok:Bool}{v:V}
 (hx:VR ρ x x') (hk:VR ρ k k') (hv:cL P t x k ok A=some v):∃v',(Instr.lookup t x' k' ok).run P w=.ok v' w/\VR ρ v v':=by
 unfold cL at hv
 split at hv
 . simp at hv
 . rename_i kt et hmt
   simp only[]at hv
   have hu:=Ap9 hmt
   split at hv
   . rename_i es z hes hz
     split at hv
     . rename_i hko
       obtain⟨z',hz1,hz2⟩:=Aj8 hz w
       have kL:=Af8 (ρ:=ρ) hko hk
       have pX:∃es':Array MapEntry,MER ρ es es'.toList/\((x'=.map none/\es'=#[])∨∃r cl,x'=.map (some r)/\w.heap[r]?=some (.map es' cl)):=by
        cases hx<;>simp at hes
        . subst hes
          exact⟨#[],⟨rfl,fun _ _ _ a _=>by simp at a⟩,.inl ⟨rfl,rfl⟩⟩
        . rename_i r y hr
          obtain⟨_,mo,es',h1,h2,h3⟩:=h.map _ _ hr
          obtain⟨mo1,hm1,hm2⟩:=hes
          rw[h1]at hm1
          cases hm1
          subst hm2
          exact⟨es',h3,.inr ⟨y,_,rfl,h2⟩⟩
       obtain⟨es',pY,pX⟩:=pX
       have hfk:=Ai1 hko hk pY w
       have jC:(Instr.lookup t x' k' ok).run P w=((do
        let (v,ok') <- match <- Instr.findKey kt k' es'.toList with
         |some (_,v)=>pure (v,true)
         |none=>pure (<- zeroValue et,false)
        pure (if ok then .tuple #[v,.bool ok'] else v):Sem Value)).run P w:=by
        unfold Instr.lookup
        rcases pX with⟨rfl,rfl⟩ |⟨r,cl,rfl,hr⟩
        . simp only[Sem.run_bind,run_underlying hu,Result.andThen_ok,Sem.run_pure,kL];rfl
        . simp only[Sem.run_bind,run_underlying hu,Result.andThen_ok,Sem.run_pure,Ac1 hr rfl,kL];rfl
       rw[jC]
       rw[Aw8]at hv
       cases hfi:bI k es with
       |none =>
        simp[hfi]at hv
        simp only[Sem.run_bind,hfk,hfi,Option.bind_none,Result.andThen_ok,hz1,Sem.run_pure]
        refine⟨_,rfl,?_⟩
        cases ok<;>simp at hv ⊢<;>subst hv
        . exact hz2 ρ
        . exact .dy (.cons (hz2 ρ) (.cons (.bool _) (.nil _)))
       |some i =>
        have hi:=Aw9 hfi
        simp[hfi,LH hi]at hv
        obtain⟨e',he1,he2⟩:∃e',es'.toList[i]?=some e'/\VR ρ es[i].val e'.val:=by
         have hi':i<es'.toList.length:=by rw[<- pY.len];exact hi
         exact⟨_,LH hi',(pY.at_ i _ _ (LH hi) (LH hi')).2.1⟩
        simp only[Sem.run_bind,hfk,hfi,Option.bind_some,he1,Option.map_some,Result.andThen_ok,Sem.run_pure]
        refine⟨_,rfl,?_⟩
        cases ok<;>simp at hv ⊢<;>subst hv
        . exact he2
        . exact .dy (.cons he2 (.cons (.bool _) (.nil _)))
     . simp at hv
   . simp at hv
end Go.Sv
namespace Go.Sv
open Go
theorem A81{ρ:Rho}{k:V}{k':Value}{es:List ME}{es':Array MapEntry}{i:Nat}(hk:VR ρ k k')(hg:k.ground=true/\∀e∈es,e.key.ground=true)(hm:MER ρ es es'.toList)(hi:bI k es=some i):
 ∃e e',es[i]?=some e/\es'[i]?=some e'/\e'.key=k'/\VR ρ e.val e'.val/\e'.born=e.born/\e.key=k/\Instr.sameBits 10000 e'.key k'=true:=by
 obtain⟨e,h1,h2,_⟩:=AD1 k .undef es i hi
 have hlt:=Aw9 hi
 have rF:i<es'.toList.length:=by rw[<- hm.len];exact hlt
 have h3:=hm.at_ i e _ h1 (LH rF)
 have hek:k=e.key:=A19 h2
 have hk1:=hk.bH hg.1
 have hk2:=h3.1.bH (hg.2 e (List.mem_of_getElem? h1))
 refine⟨e,es'.toList[i],h1,by simpa using LH rF,by rw[hk2,hk1,hek],h3.2.1,h3.2.2,hek.symm,?_⟩
 rw[hk2,hk1,hek]
 exact AW0 (hek ▸ hg.1)
theorem AB2{P:Program}{w:World}{a b:Value}(h:Instr.sameBits 10000 a b=true):(Instr.keyThatStays a b).run P w=.ok b w:=by
 simp[Instr.keyThatStays,h]
theorem Am9(es:Array MapEntry)(i:Nat)(f:MapEntry->MapEntry){e:MapEntry}(h:es[i]?=some e):(es.modify i f).toList=es.toList.set i (f e):=by
 apply List.ext_getElem?
 intro j
 have hi:=(Array.getElem?_eq_some_iff.1 h).1
 rw[List.getElem?_set]
 have:(es.modify i f).toList[j]?=(es.modify i f)[j]?:=Array.getElem?_toList
 rw[this,Array.getElem?_modify]
 by_cases hij:i=j
 . subst hij
   rw[if_pos rfl,if_pos rfl,h]
   simp[hi]
 . rw[if_neg hij,if_neg hij];simp
theorem Aq7{P:Program}{base:Nat}{W:World}{ρ:Rho}{A A':AS}{w:World}(h:Inv P base W ρ A w){t:TypeId}{m k x:V}{m' k' x':Value}
 (hm:VR ρ m m') (hk:VR ρ k k') (hx:VR ρ x x') (hv:aZ P t m k x A=some A'):∃w',(Instr.mapUpdate t m' k' x').run P w=.ok () w'/\Adv P base W ρ A w ρ A' w':=by
 unfold aZ at hv
 split at hv
 . rename_i kt et r hmt
   have hu:=Ap9 hmt
   split at hv
   . rename_i mo hmo
     split at hv
     . rename_i hko
       simp only[Option.some.injEq]at hv
       cases hm with
       |map hr =>
        rename_i y
        obtain⟨hb,mo1,es',h1,h2,h3⟩:=h.map r y hr
        rw[hmo]at h1;cases h1
        have hfk:=Ai1 hko hk h3 w
        have kL:=Af8 (ρ:=ρ) hko hk
        have hg:=AB1 hko
        rw[Aw8]at hv
        have lL:(Instr.mapUpdate t (.map (some y)) k' x').run P w=((do
         match <- Instr.findKey kt k' es'.toList with
         |some (i,_)=>do
          let key <- Instr.keyThatStays (((es'[i]?).map (·.key)).getD k') k'
          setObj y (.map (es'.modify i fun e=>{ e with key,val:=x' }) mo.clock)
         |none=>setObj y (.map (es'.push { key:=k',val:=x',born:=mo.clock }) (mo.clock+1)):Sem Unit)).run P w:=by
         unfold Instr.mapUpdate
         simp only[Sem.run_bind,run_underlying hu,Result.andThen_ok,Ac1 h2 rfl,kL];rfl
        rw[lL]
        cases hfi:bI k mo.es with
        |none =>
         simp only[hfi,Option.bind_none]at hv
         subst hv
         refine⟨_,?_,h.iq (mo:=⟨mo.es++[⟨k,x,mo.clock⟩],mo.clock+1⟩) hr (es2:=es'.push { key:=k',val:=x',born:=mo.clock }) ?_⟩
         . simp only[Sem.run_bind,hfk,hfi,Option.bind_none,Result.andThen_ok]
           exact Ad6 _ h2 rfl
         . simpa using h3.push (e:=⟨k,x,mo.clock⟩) (e':={ key:=k',val:=x',born:=mo.clock }) ⟨hk,hx,rfl⟩
        |some i =>
         obtain⟨e,e',e1,e2,e3,e4,e5,e6,e7⟩:=A81 hk hg h3 hfi
         obtain⟨e0,q1,_,q3⟩:=AD1 k x mo.es i hfi
         rw[e1]at q1;cases q1
         simp only[hfi,Option.bind_some,e1]at hv
         subst hv
         have e2':es'.toList[i]?=some e':=by simpa using e2
         refine⟨_,?_,h.iq (mo:=⟨jT k x mo.es,mo.clock⟩) hr (es2:=es'.modify i fun e=>{ e with key:=k',val:=x' }) ?_⟩
         . simp only[Sem.run_bind,hfk,hfi,Option.bind_some,e2',Option.map_some,Result.andThen_ok,e2,Option.getD_some,AB2 e7]
           exact Ad6 _ h2 rfl
         . rw[q3,Am9 _ _ _ e2]
           exact h3.set ⟨hk,hx,e5⟩
     . simp at hv
   . simp at hv
 . simp at hv
theorem AG4{P:Program}{base:Nat}{W:World}{ρ:Rho}{A A':AS}{w:World}(h:Inv P base W ρ A w){t:TypeId}{m k v:V}{m' k':Value}
 (hm:VR ρ m m') (hk:VR ρ k k') (hv:dF P t m k A=some (v,A')):∃v' w',(Instr.mapEntry t m' k').run P w=.ok v' w'/\VR ρ v v'/\Adv P base W ρ A w ρ A' w':=by
 unfold dF at hv
 split at hv
 . rename_i kt et r hmt
   have hu:=Ap9 hmt
   split at hv
   . rename_i mo z hmo hz
     split at hv
     . rename_i hko
       cases hm with
       |map hr =>
        rename_i y
        obtain⟨hb,mo1,es',h1,h2,h3⟩:=h.map r y hr
        rw[hmo]at h1;cases h1
        have hfk:=Ai1 hko hk h3 w
        have kL:=Af8 (ρ:=ρ) hko hk
        have hg:=AB1 hko
        obtain⟨z',hz1,hz2⟩:=Aj8 hz w
        rw[Aw8]at hv
        have lL:(Instr.mapEntry t (.map (some y)) k').run P w=((do
         match <- Instr.findKey kt k' es'.toList with
         |some (i,v)=>do
          let key <- Instr.keyThatStays (((es'[i]?).map (·.key)).getD k') k'
          setObj y (.map (es'.modify i fun e=>{ e with key }) mo.clock)
          pure (.tuple #[v,goInt (((es'[i]?).map (·.born)).getD 0)])
         |none =>
          let zero <- zeroValue et
          setObj y (.map (es'.push { key:=k',val:=zero,born:=mo.clock }) (mo.clock+1))
          pure (.tuple #[zero,goInt mo.clock]):Sem Value)).run P w:=by
         unfold Instr.mapEntry
         simp only[Sem.run_bind,run_underlying hu,Result.andThen_ok,Ac1 h2 rfl,kL];rfl
        rw[lL]
        cases hfi:bI k mo.es with
        |none =>
         simp only[hfi,Option.bind_none,Option.some.injEq,Prod.mk.injEq]at hv
         obtain⟨rfl,rfl⟩:=hv
         refine⟨_,_,?_,.dy (.cons (hz2 ρ) (.cons (.int _ _) (.nil _))),h.iq (mo:=⟨mo.es++[⟨k,z,mo.clock⟩],mo.clock+1⟩) hr (es2:=es'.push { key:=k',val:=z',born:=mo.clock }) ?_⟩
         . simp only[Sem.run_bind,hfk,hfi,Option.bind_none,Result.andThen_ok,hz1,Ad6 _ h2 rfl,Sem.run_pure,goInt]
         . simpa using h3.push (e:=⟨k,z,mo.clock⟩) (e':={ key:=k',val:=z',born:=mo.clock }) ⟨hk,hz2 ρ,rfl⟩
        |some i =>
         obtain⟨e,e',e1,e2,e3,e4,e5,e6,e7⟩:=A81 hk hg h3 hfi
         obtain⟨e0,q1,_,q3⟩:=AD1 k e.val mo.es i hfi
         rw[e1]at q1;cases q1
         simp only[hfi,Option.bind_some,e1,Option.some.injEq,Prod.mk.injEq]at hv
         obtain⟨rfl,rfl⟩:=hv
         have e2':es'.toList[i]?=some e':=by simpa using e2
         refine⟨_,_,?_,.dy (c':=#[e'.val,.int .i64 e.born]) (.cons e4 (.cons (.int _ _) (.nil _))),h.iq (mo:=⟨jT k e.val mo.es,mo.clock⟩) hr (es2:=es'.modify i fun e=>{ e with key:=k' }) ?_⟩
         . simp only[Sem.run_bind,hfk,hfi,Option.bind_some,e2',Option.map_some,Result.andThen_ok,e2,Option.getD_some,AB2 e7,Ad6 _ h2 rfl,Sem.run_pure,goInt,e5]
         . rw[q3,Am9 _ _ _ e2]
           exact h3.set ⟨hk,e4,e5⟩
     . simp at hv
   . simp at hv
 . simp at hv
theorem AL8(n:Int)(v:V):∀(es es2:List ME),gP n v es=some es2->∃(i:Nat) (e:ME),es[i]?=some e/\(e.born:Int)=n/\es2=es.set i { e with val:=v }/\∀(j:Nat) (e':ME),j<i->es[j]?=some e'->(e'.born:Int)≠n
 |[],_,h=>by simp[gP]at h
 |e::es,es2,h=>by
  unfold gP at h
  split at h
  . rename_i hb
    simp at h;subst h
    exact⟨0,e,rfl,hb,rfl,fun j e' hj _=>by omega⟩
  . rename_i hb
    cases hq:gP n v es with
    |none=>simp[hq]at h
    |some es3 =>
     simp[hq]at h;subst h
     obtain⟨i,e',h1,h2,h3,h4⟩:=AL8 n v es es3 hq
     refine⟨i+1,e',by simpa using h1,h2,by rw[h3];rfl,fun j e'' hj he''=>?_⟩
     cases j with
     |zero=>simp at he'';subst he'';exact hb
     |succ j=>exact h4 j e'' (by omega) (by simpa using he'')
theorem Az5{P:Program}{base:Nat}{W:World}{ρ:Rho}{A A':AS}{w:World}(h:Inv P base W ρ A w){t:TypeId}{m s x:V}{m' s' x':Value}
 (hm:VR ρ m m') (hs:VR ρ s s') (hx:VR ρ x x') (hv:cN m s x A=some A'):∃w',(Instr.entryStore t m' s' x').run P w=.ok () w'/\Adv P base W ρ A w ρ A' w':=by
 unfold cN at hv
 split at hv
 . rename_i r k n
   have:=hs.bD
   subst this
   split at hv
   . rename_i mo hmo
     cases hq:gP n x mo.es with
     |none=>simp[hq]at hv
     |some es2 =>
      simp[hq]at hv;subst hv
      obtain⟨i,e,h4,h5,h6,h7⟩:=AL8 n x mo.es es2 hq
      cases hm with
      |map hr =>
       rename_i y
       obtain⟨hb,mo1,es',h1,h2,h3⟩:=h.map r y hr
       rw[hmo]at h1;cases h1
       have hlt:i<es'.toList.length:=by rw[<- h3.len];exact(LG.1 h4).1
       have h8:=h3.at_ i e _ h4 (LH hlt)
       have mX:es'.findIdx? (fun e=>(e.born:Int) == n)=some i:=by
        rw[Array.findIdx?_eq_some_iff_getElem]
        refine⟨by simpa using hlt,?_,fun j hj=>?_⟩
        . have:es'[i]'(by simpa using hlt)=es'.toList[i]:=by simp
          rw[this,h8.2.2,h5];simp
        . have hj':j<es'.toList.length:=by omega
          have hj2:j<mo.es.length:=by rw[h3.len];exact hj'
          have h9:=h3.at_ j _ _ (LH hj2) (LH hj')
          have h10:=h7 j _ hj (LH hj2)
          have:es'[j]'(by simpa using hj')=es'.toList[j]:=by simp
          rw[this,h9.2.2]
          simpa using h10
       have he':es'[i]?=some es'.toList[i]:=by simpa using LH hlt
       refine⟨_,?_,h.iq (mo:=⟨es2,mo.clock⟩) hr (es2:=es'.modify i fun e=>{ e with val:=x' }) ?_⟩
       . unfold Instr.entryStore
         simp only[Sem.run_bind,Ac1 h2 rfl,Result.andThen_ok,asInt,asIntOf,Sem.run_pure,mX]
         exact Ad6 _ h2 rfl
       . rw[h6,Am9 _ _ _ he']
         exact h3.set ⟨h8.1,hx,h8.2.2⟩
   . simp at hv
 . simp at hv
theorem AG5(es:Array MapEntry){i:Nat}(hi:i<es.size):(es.eraseIdxIfInBounds i).toList=es.toList.eraseIdx i:=by
 simp[Array.eraseIdxIfInBounds,hi]
theorem AQ0{P:Program}{base:Nat}{W:World}{ρ:Rho}{A A':AS}{w:World}(h:Inv P base W ρ A w){t t2 ty:TypeId}{m k:V}{m' k':Value}
 (hm:VR ρ m m') (hk:VR ρ k k') (hv:fz P t m k A=some A'):∃w',(Builtin.delete_ #[t,t2] ty #[m',k']).run P w=.ok (.tuple #[]) w'/\Adv P base W ρ A w ρ A' w':=by
 unfold fz at hv
 split at hv
 . rename_i kt et hmt
   have hu:=Ap9 hmt
   split at hv
   . rename_i hko
     simp at hv;subst hv
     cases hm
     refine⟨w,?_,.refl h⟩
     simp[Builtin.delete_,run_underlying hu,Af8 (ρ:=ρ) hko hk]
   . simp at hv
 . rename_i kt et r hmt
   have hu:=Ap9 hmt
   split at hv
   . rename_i mo hmo
     split at hv
     . rename_i hko
       simp at hv;subst hv
       cases hm with
       |map hr =>
        rename_i y
        obtain⟨hb,mo1,es',h1,h2,h3⟩:=h.map r y hr
        rw[hmo]at h1;cases h1
        have hfk:=Ai1 hko hk h3 w
        have kL:=Af8 (ρ:=ρ) hko hk
        cases hfi:bI k mo.es with
        |none =>
         refine⟨_,?_,h.iq (mo:=⟨iB k mo.es,mo.clock⟩) hr (es2:=es') ?_⟩
         . simp[Builtin.delete_,run_underlying hu,Ac1 h2 rfl,kL,hfk,hfi,Ad6 _ h2 rfl]
         . rw[Az4,hfi];exact h3
        |some i =>
         have hlt:i<es'.toList.length:=by rw[<- h3.len];exact Aw9 hfi
         have he':es'.toList[i]?=some es'.toList[i]:=LH hlt
         refine⟨_,?_,h.iq (mo:=⟨iB k mo.es,mo.clock⟩) hr (es2:=es'.eraseIdxIfInBounds i) ?_⟩
         . unfold Builtin.delete_
           simp only[List.getElem?_toArray,List.getElem?_cons_zero,List.getElem?_cons_succ,Sem.run_bind,run_underlying hu,Result.andThen_ok,Ac1 h2 rfl,kL,hfk,hfi,Option.bind_some,he',Option.map_some,Ad6 _ h2 rfl,Sem.run_pure]
         . rw[Az4,hfi,AG5 _ (by simpa using hlt)]
           exact h3.erase i
     . simp at hv
   . simp at hv
 . simp at hv
theorem AW1{P:Program}{base:Nat}{W:World}{ρ:Rho}{A A':AS}{w:World}(h:Inv P base W ρ A w){t ty:TypeId}{m:V}{m':Value}
 (hm:VR ρ m m') (hv:dH P t m A=some A'):∃w',(Builtin.clear_ #[t] ty #[m']).run P w=.ok (.tuple #[]) w'/\Adv P base W ρ A w ρ A' w':=by
 unfold dH at hv
 split at hv
 . rename_i q hmt
   obtain⟨kt,et⟩:=q
   have hu:=Ap9 hmt
   simp at hv;subst hv
   cases hm
   exact⟨w,by simp[Builtin.clear_,run_underlying hu],.refl h⟩
 . rename_i q r hmt
   obtain⟨kt,et⟩:=q
   have hu:=Ap9 hmt
   split at hv
   . rename_i mo hmo
     simp at hv;subst hv
     cases hm with
     |map hr =>
      rename_i y
      obtain⟨hb,mo1,es',h1,h2,h3⟩:=h.map r y hr
      rw[hmo]at h1;cases h1
      refine⟨_,?_,h.iq (mo:=⟨[],mo.clock⟩) hr (es2:=#[]) ⟨rfl,fun _ _ _ a _=>by simp at a⟩⟩
      simp[Builtin.clear_,run_underlying hu,Ac1 h2 rfl,Ad6 _ h2 rfl]
   . simp at hv
 . simp at hv
end Go.Sv
