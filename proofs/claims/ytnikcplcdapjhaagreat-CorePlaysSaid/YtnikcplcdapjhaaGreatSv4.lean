/- The rules by which code is run in a proof, bound together. -/
import Derived.Test.YtnikcplcdapjhaaGreatSv3
set_option linter.defProp false
set_option linter.unnecessarySimpa false
set_option linter.unusedSimpArgs false
set_option linter.unusedVariables false
namespace Go.Sv
open Go
section
variable {P:Program} {H:Hints} {f:FuncId} {nt:Nat} {k:List Kt} {e:Env} {A:AS} {Q:Ex->Env->AS->Prop} {ops:Array Oper}
theorem B91{dst:Option Tmp}{op:Op}{ty:TypeId}{pos:String}{after:Array Edge}:lG P H f nt ops ⟨dst,op,ty,pos,after,none⟩ k e A Q=(iL nt ⟨dst,op,ty,pos,after,none⟩=true/\a0 P H f nt ⟨dst,op,ty,pos,after,none⟩ k e A Q):=rfl
theorem B92{dst:Option Tmp}{op:Op}{ty:TypeId}{pos:String}{after:Array Edge}{j:Nat}{w:Bool}:lG P H f nt ops ⟨dst,op,ty,pos,after,some (j,w)⟩ k e A Q=(iL nt ⟨dst,op,ty,pos,after,some (j,w)⟩=true/\match (ops[j]?).bind (·.dst)with
 |none=>False
 |some d=>gA P H f nt (e.get d) w ⟨dst,op,ty,pos,after,some (j,w)⟩ k e A Q):=rfl
theorem B93{op:Op}{ty:TypeId}{pos:String}{after:Array Edge}{g:Option (Nat×Bool)}:iL nt ⟨none,op,ty,pos,after,g⟩=true:=rfl
theorem B94{d:Tmp}{op:Op}{ty:TypeId}{pos:String}{after:Array Edge}{g:Option (Nat×Bool)}:iL nt ⟨some d,op,ty,pos,after,g⟩=decide (d<nt):=rfl
theorem BO4{t:Nat}{v:V}{r:Env}:Env.get ((t,v)::r) t=v:=by simp[Env.get]
theorem By7{t u:Nat}{v:V}{r:Env}:Env.get ((u,v)::r) t=if u == t then v else Env.get r t:=rfl
theorem Bo3{t:Nat}:Env.eval e (.tmp t)=some (e.get t):=rfl
theorem By8{v:Value}:Env.eval e (.const v)=gn v:=rfl
theorem BO5{g:FuncId}:Env.eval e (.func g)=some (.fn g [] []):=rfl
theorem BO6{b:Bool}:gn (.bool b)=some (.bool b):=rfl
theorem B95{k:IntKind}{n:Int}:gn (.int k n)=some (.int k n):=rfl
theorem B96{s:ByteArray}:gn (.string s)=some (.str s.data.toList):=rfl
theorem BO7:gn (.pointer none)=some .eg:=rfl
theorem BO8:gn (.slice none 0 0)=some .ah:=rfl
theorem BO9:gn (.map none)=some .gm:=rfl
theorem BP0:gn .nilFunc=some .iP:=rfl
theorem B97{t:TypeId}{k:IntKind}{a b:Int}:aw P .add t (.int k a) (.int k b)=some (.int k (k.wrap (a+b))):=by simp[aw,eO]
theorem B98{t:TypeId}{k:IntKind}{a b:Int}:aw P .sub t (.int k a) (.int k b)=some (.int k (k.wrap (a-b))):=by simp[aw,eO]
theorem A91{t:TypeId}{k:IntKind}{a b:Int}:aw P .mul t (.int k a) (.int k b)=some (.int k (k.wrap (a*b))):=by simp[aw,eO]
theorem As2{t:TypeId}{k:IntKind}{a b:Int}:aw P .quo t (.int k a) (.int k b)=if b=0 then none else some (.int k (k.wrap (a.tdiv b))):=by simp[aw,eO]
theorem Al8{t:TypeId}{k:IntKind}{a b:Int}:aw P .rem t (.int k a) (.int k b)=if b=0 then none else some (.int k (a.tmod b)):=by simp[aw,eO]
theorem AN1{t:TypeId}{k:IntKind}{a b:Int}:aw P .and t (.int k a) (.int k b)=ck .and k a b:=by simp[aw,eO]
theorem A48{t:TypeId}{k:IntKind}{a b:Int}:aw P .or t (.int k a) (.int k b)=ck .or k a b:=by simp[aw,eO]
theorem Am5{t:TypeId}{k:IntKind}{a b:Int}:aw P .xor t (.int k a) (.int k b)=ck .xor k a b:=by simp[aw,eO]
theorem B99{t:TypeId}{k:IntKind}{a b:Int}:aw P .eql t (.int k a) (.int k b)=some (.bool (decide (a=b))):=by simp[aw,eO];rfl
theorem Ca0{t:TypeId}{k:IntKind}{a b:Int}:aw P .neq t (.int k a) (.int k b)=some (.bool (decide (¬a=b))):=by
 simp[aw,eO]
 by_cases h:a=b<;>simp[h]
theorem Ca1{t:TypeId}{k:IntKind}{a b:Int}:aw P .lss t (.int k a) (.int k b)=some (.bool (decide (a<b))):=by simp[aw,eO]
theorem Ca2{t:TypeId}{k:IntKind}{a b:Int}:aw P .leq t (.int k a) (.int k b)=some (.bool (decide (a<=b))):=by simp[aw,eO]
theorem Ca3{t:TypeId}{k:IntKind}{a b:Int}:aw P .gtr t (.int k a) (.int k b)=some (.bool (decide (a>b))):=by simp[aw,eO]
theorem Ca4{t:TypeId}{k:IntKind}{a b:Int}:aw P .geq t (.int k a) (.int k b)=some (.bool (decide (a>=b))):=by simp[aw,eO]
theorem AY7{t:TypeId}{k k':IntKind}{a b:Int}:aw P .shl t (.int k a) (.int k' b)=bg .shl k a b:=rfl
theorem Ax9{t:TypeId}{k k':IntKind}{a b:Int}:aw P .shr t (.int k a) (.int k' b)=bg .shr k a b:=rfl
theorem Ca5{t:TypeId}{a b:List UInt8}:aw P .eql t (.str a) (.str b)=some (.bool (decide (a=b))):=by
 simp[aw,iY]
 by_cases h:a=b<;>simp[h]
theorem Ca6{t:TypeId}{a b:List UInt8}:aw P .neq t (.str a) (.str b)=some (.bool (decide (¬a=b))):=by
 simp[aw,iY]
 by_cases h:a=b<;>simp[h]
theorem BP1{t:TypeId}{a b:List UInt8}:aw P .add t (.str a) (.str b)=if a.length+b.length<=9223372036854775807 then some (.str (a++b))else none:=by simp[aw,iY]
theorem Ca7{t:TypeId}{a b:List V}:aw P .eql t (.agg a) (.agg b)=(fO P t (.agg a) (.agg b)).map .bool:=by simp[aw]
theorem Ca8{t:TypeId}{a b:List V}:aw P .neq t (.agg a) (.agg b)=(fO P t (.agg a) (.agg b)).map fun b=>.bool (!b):=by simp[aw]
theorem Ca9{t:TypeId}{a b:Bool}:aw P .eql t (.bool a) (.bool b)=(fO P t (.bool a) (.bool b)).map .bool:=by simp[aw]
theorem AY8{t:TypeId}{a b:Bool}:aw P .neq t (.bool a) (.bool b)=(fO P t (.bool a) (.bool b)).map fun b=>.bool (!b):=by simp[aw]
theorem Cb0{t:TypeId}{b o:Nat}:aw P .eql t (.ptr b o) .eg=(fO P t (.ptr b o) .eg).map .bool:=by simp[aw]
theorem Cb1{t:TypeId}{b o:Nat}:aw P .neq t (.ptr b o) .eg=(fO P t (.ptr b o) .eg).map fun b=>.bool (!b):=by simp[aw]
theorem BP2{t:TypeId}{a b:Bool}(h:P.underlying t=some .bool):fO P t (.bool a) (.bool b)=some (decide (a=b)):=by
 unfold fO;simp only[h];cases a<;>cases b<;>rfl
theorem Af4{b:Bool}:lg .not (.bool b)=some (.bool (!b)):=rfl
theorem BP3{p:Prop}[Decidable p]:lg .not (.bool (decide p))=some (.bool (decide (¬p))):=by
 show some (V.bool (!decide p))=_
 by_cases h:p<;>simp[h]
theorem Cb2{k:IntKind}{n:Int}:lg .neg (.int k n)=some (.int k (k.wrap (0-n))):=rfl
theorem Cb3:aD e []=some []:=rfl
theorem BP4{x:Operand}{xs:List Operand}:aD e (x::xs)=(e.eval x).bind fun v=>(aD e xs).bind fun vs=>some (v::vs):=by
 rw[aD]
 cases e.eval x<;>cases aD e xs<;>rfl
theorem Cb4:a5 e []=some []:=rfl
theorem BP5{i:Nat}{x:Operand}{xs:List (Nat×Operand)}:a5 e ((i,x)::xs)=(e.eval x).bind fun v=>(a5 e xs).bind fun vs=>some ((i,v)::vs):=by
 rw[a5]
 cases e.eval x<;>cases a5 e xs<;>rfl
theorem BP6:bR e none=some none:=rfl
theorem BP7{x:Operand}:bR e (some x)=(e.eval x).map some:=by
 rw[bR]
 cases e.eval x<;>rfl
theorem Cb5{i:Nat}{l:List V}:qC i (.tup l)=l[i]?:=rfl
theorem Cb6{b o:Nat}:dE (.ptr b o)=some (.ptr b o):=rfl
theorem Cp8{g:FuncId}{a c:List V}:dE (.fn g a c)=some (.fn g a c):=rfl
theorem By9{l:Nat}:dE (.yield l)=some (.yield l):=rfl
theorem Cb7{i:Nat}:eD i []=[]:=rfl
theorem BP8{i:Nat}{v:V}{vs:List V}:eD i (v::vs)=(i,v)::eD (i+1) vs:=rfl
theorem Bo4{rs:List ResultVar}{R:V->AS->Prop}:kQ P rs R .normal e A=∃vs,aW P e A rs=some vs/\R (single vs) A:=rfl
theorem Cb8{rs:List ResultVar}{R:V->AS->Prop}:kQ P rs R .ret e A=∃vs,aW P e A rs=some vs/\R (single vs) A:=rfl
theorem Cb9:aW P e A []=some []:=rfl
theorem Cc0{t:Tmp}{r:List ResultVar}:aW P e A (.tmp t::r)=(aW P e A r).map (e.get t::·):=rfl
theorem BP9{a:Tmp}{t:TypeId}{r:List ResultVar}:aW P e A (.cell a t::r)=(aa P t (e.get a) A).bind fun v=>(aW P e A r).map (v::·):=by
 rw[aW]
 cases aa P t (e.get a) A<;>cases aW P e A r<;>rfl
theorem Cc1{v:V}:single [v]=v:=rfl
theorem Cc2:single []=.tup []:=rfl
theorem Cc3{v w:V}{r:List V}:single (v::w::r)=.tup (v::w::r):=rfl
theorem BQ0{d:Tmp}{op:Op}{ty:TypeId}{pos:String}{after:Array Edge}{g:Option (Nat×Bool)}{v:V}:bG e ⟨some d,op,ty,pos,after,g⟩ v=(d,v)::e:=rfl
theorem BQ1{op:Op}{ty:TypeId}{pos:String}{after:Array Edge}{g:Option (Nat×Bool)}{v:V}:bG e ⟨none,op,ty,pos,after,g⟩ v=e:=rfl
theorem BQ2{β:Type}{p:β->Prop}{v:β}:(∃vs,some v=some vs/\p vs)=p v:=by simp
variable {dst:Option Tmp} {ty:TypeId} {pos:String} {after:Array Edge} {gd:Option (Nat×Bool)}
theorem Cc4{x:Operand}:a0 P H f nt ⟨dst,.move x,ty,pos,after,gd⟩ k e A Q=aG P H f nt ((e.eval x).map .val) dst k e A Q:=by
 show aG P H f nt (evQ P _ e A) dst k e A Q=_;rw[B79]
theorem Bz0{x:Operand}:a0 P H f nt ⟨dst,.assign x,ty,pos,after,gd⟩ k e A Q=aG P H f nt ((e.eval x).map .val) dst k e A Q:=by
 show aG P H f nt (evQ P _ e A) dst k e A Q=_;rw[Bx7]
theorem Cc5{x y z:Operand}:a0 P H f nt ⟨dst,.pick x y z,ty,pos,after,gd⟩ k e A Q=aG P H f nt ((pck e (e.eval x) y z).map .val) dst k e A Q:=by
 show aG P H f nt (evQ P _ e A) dst k e A Q=_;rw[B80]
theorem BQ3{t:TypeId}:a0 P H f nt ⟨dst,.alloc t,ty,pos,after,gd⟩ k e A Q=aG P H f nt (oq ((aC P t).bind V.cells)) dst k e A Q:=by
 show aG P H f nt (evQ P _ e A) dst k e A Q=_;rw[BM9]
theorem Cp9{t:TypeId}{x:Operand}:a0 P H f nt ⟨dst,.box t x,ty,pos,after,gd⟩ k e A Q=aG P H f nt (oq ((e.eval x).bind V.cells)) dst k e A Q:=by
 show aG P H f nt (evQ P _ e A) dst k e A Q=_;rw[Co4]
theorem BQ4{t:TypeId}{ps:Array (Nat×Operand)}:a0 P H f nt ⟨dst,.build t ps,ty,pos,after,gd⟩ k e A Q=aG P H f nt (((a5 e ps.toList).bind fun l=>au P t l).map .val) dst k e A Q:=by
 show aG P H f nt (evQ P _ e A) dst k e A Q=_;rw[BN0]
theorem Cq0{t:TypeId}{n:Nat}{ps:Array (Nat×Operand)}:a0 P H f nt ⟨dst,.buildSlice t n ps,ty,pos,after,gd⟩ k e A Q=aG P H f nt (bsl P t n (a5 e ps.toList)) dst k e A Q:=by
 show aG P H f nt (evQ P _ e A) dst k e A Q=_;rw[Co5]
theorem Cc6{t:TypeId}{x:Operand}:a0 P H f nt ⟨dst,.load t x,ty,pos,after,gd⟩ k e A Q=aG P H f nt (((e.eval x).bind fun a=>aa P t a A).map .val) dst k e A Q:=by
 show aG P H f nt (evQ P _ e A) dst k e A Q=_;rw[Bn7]
theorem Cq1{x:Operand}:a0 P H f nt ⟨dst,.nilCheck x,ty,pos,after,gd⟩ k e A Q=aG P H f nt (((e.eval x).bind dE).map .val) dst k e A Q:=by
 show aG P H f nt (evQ P _ e A) dst k e A Q=_;rw[Co6]
theorem Cq2{op:BinOp}{t t2:TypeId}{x y:Operand}:a0 P H f nt ⟨dst,.binOp op t x y t2,ty,pos,after,gd⟩ k e A Q=aG P H f nt (((e.eval x).bind fun a=>(e.eval y).bind fun b=>aw P op t a b).map .val) dst k e A Q:=by
 show aG P H f nt (evQ P _ e A) dst k e A Q=_;rw[Co7]
theorem CC2{op:UnOp}{t:TypeId}{x:Operand}:a0 P H f nt ⟨dst,.unOp op t x,ty,pos,after,gd⟩ k e A Q=aG P H f nt (((e.eval x).bind fun a=>lg op a).map .val) dst k e A Q:=by
 show aG P H f nt (evQ P _ e A) dst k e A Q=_;rw[CC1]
theorem Cc7{s d:TypeId}{x:Operand}:a0 P H f nt ⟨dst,.convert s d x,ty,pos,after,gd⟩ k e A Q=aG P H f nt (cnv P s d (e.eval x) A) dst k e A Q:=by
 show aG P H f nt (evQ P _ e A) dst k e A Q=_;rw[B81]
theorem Cc8{t:TypeId}{x:Operand}:a0 P H f nt ⟨dst,.sliceToArrayPointer t x,ty,pos,after,gd⟩ k e A Q=aG P H f nt (((e.eval x).bind fun a=>jS P t a).map .val) dst k e A Q:=by
 show aG P H f nt (evQ P _ e A) dst k e A Q=_;rw[B82]
theorem Cc9{g:FuncId}{a c:Array Operand}:a0 P H f nt ⟨dst,.makeFunc (.func g) a c,ty,pos,after,gd⟩ k e A Q=aG P H f nt (mkf g (aD e a.toList) (aD e c.toList)) dst k e A Q:=by
 show aG P H f nt (evQ P _ e A) dst k e A Q=_;rw[B83]
theorem Cq3{t:TypeId}{r:Option Operand}:a0 P H f nt ⟨dst,.makeMap t r,ty,pos,after,gd⟩ k e A Q=aG P H f nt (mkm P t (bR e r)) dst k e A Q:=by
 show aG P H f nt (evQ P _ e A) dst k e A Q=_;rw[Co8]
theorem Cq4{t:TypeId}{x y:Operand}:a0 P H f nt ⟨dst,.makeSlice t x y,ty,pos,after,gd⟩ k e A Q=aG P H f nt (msl P t (e.eval x) (e.eval y)) dst k e A Q:=by
 show aG P H f nt (evQ P _ e A) dst k e A Q=_;rw[Co9]
theorem BQ5{t:TypeId}{x:Operand}{lo hi mx:Option Operand}:a0 P H f nt ⟨dst,.slice t x lo hi mx,ty,pos,after,gd⟩ k e A Q=aG P H f nt (slq P t (e.eval x) (bR e lo) (bR e hi) (bR e mx) A) dst k e A Q:=by
 show aG P H f nt (evQ P _ e A) dst k e A Q=_;rw[BN1]
theorem A49{t:TypeId}{x:Operand}{i:Nat}:a0 P H f nt ⟨dst,.fieldAddr t x i,ty,pos,after,gd⟩ k e A Q=aG P H f nt (((e.eval x).bind fun a=>ae P t a i).map .val) dst k e A Q:=by
 show aG P H f nt (evQ P _ e A) dst k e A Q=_;rw[A45]
theorem BQ6{t:TypeId}{x:Operand}{i:Nat}:a0 P H f nt ⟨dst,.field t x i,ty,pos,after,gd⟩ k e A Q=aG P H f nt (((e.eval x).bind fun a=>gM P t a i).map .val) dst k e A Q:=by
 show aG P H f nt (evQ P _ e A) dst k e A Q=_;rw[BN2]
theorem A50{t:TypeId}{x y:Operand}:a0 P H f nt ⟨dst,.indexAddr t x y,ty,pos,after,gd⟩ k e A Q=aG P H f nt (((e.eval x).bind fun a=>(e.eval y).bind fun b=>aj P t a b).map .val) dst k e A Q:=by
 show aG P H f nt (evQ P _ e A) dst k e A Q=_;rw[A46]
theorem BQ7{t:TypeId}{x y:Operand}:a0 P H f nt ⟨dst,.index t x y,ty,pos,after,gd⟩ k e A Q=aG P H f nt (((e.eval x).bind fun a=>(e.eval y).bind fun b=>dU P t a b).map .val) dst k e A Q:=by
 show aG P H f nt (evQ P _ e A) dst k e A Q=_;rw[BN3]
theorem Bz1{t:TypeId}{x y:Operand}{ok:Bool}:a0 P H f nt ⟨dst,.lookup t x y ok,ty,pos,after,gd⟩ k e A Q=aG P H f nt (((e.eval x).bind fun a=>(e.eval y).bind fun b=>cL P t a b ok A).map .val) dst k e A Q:=by
 show aG P H f nt (evQ P _ e A) dst k e A Q=_;rw[Bx8]
theorem Bo5{x:Operand}{i:Nat}:a0 P H f nt ⟨dst,.extract x i,ty,pos,after,gd⟩ k e A Q=aG P H f nt (((e.eval x).bind (qC i)).map .val) dst k e A Q:=by
 show aG P H f nt (evQ P _ e A) dst k e A Q=_;rw[Bn8]
theorem Cq5{t:TypeId}{x:Operand}:a0 P H f nt ⟨dst,.call ⟨.builtin .len,#[x],#[t]⟩,ty,pos,after,gd⟩ k e A Q=aG P H f nt (((e.eval x).bind fun a=>dr P t a A).map .val) dst k e A Q:=by
 show aG P H f nt (evQ P _ e A) dst k e A Q=_;rw[Cp0]
theorem Cq6{a:Array Operand}{ts:Array TypeId}:a0 P H f nt ⟨dst,.call ⟨.builtin .max,a,ts⟩,ty,pos,after,gd⟩ k e A Q=aG P H f nt (((aD e a.toList).bind (iU fun x y=>if y>x then y else x)).map .val) dst k e A Q:=by
 show aG P H f nt (evQ P _ e A) dst k e A Q=_;rw[Cp1]
theorem Cq7{a:Array Operand}{ts:Array TypeId}:a0 P H f nt ⟨dst,.call ⟨.builtin .min,a,ts⟩,ty,pos,after,gd⟩ k e A Q=aG P H f nt (((aD e a.toList).bind (iU fun x y=>if y<x then y else x)).map .val) dst k e A Q:=by
 show aG P H f nt (evQ P _ e A) dst k e A Q=_;rw[Cp2]
theorem BQ8{t:TypeId}{x y:Operand}:a0 P H f nt ⟨dst,.store t x y,ty,pos,after,gd⟩ k e A Q=cQ P H f nt (u1 ((e.eval x).bind fun p=>(e.eval y).bind fun v=>ag P t p v A)) dst k e Q:=by
 show cQ P H f nt (evE P C0 _ e A) dst k e Q=_;rw[BN4]
theorem Bz2{t:TypeId}{x y z:Operand}:a0 P H f nt ⟨dst,.mapUpdate t x y z,ty,pos,after,gd⟩ k e A Q=cQ P H f nt (u1 (on3 (e.eval x) (e.eval y) (e.eval z) fun m k v=>aZ P t m k v A)) dst k e Q:=by
 show cQ P H f nt (evE P C0 _ e A) dst k e Q=_;rw[Bx9]
theorem Bz3{t:TypeId}{x y z:Operand}:a0 P H f nt ⟨dst,.insert t x y z,ty,pos,after,gd⟩ k e A Q=cQ P H f nt (u1 (on3 (e.eval x) (e.eval y) (e.eval z) fun m k v=>aZ P t m k v A)) dst k e Q:=by
 show cQ P H f nt (evE P C0 _ e A) dst k e Q=_;rw[By0]
theorem Be9{t:TypeId}{x y:Operand}:a0 P H f nt ⟨dst,.mapEntry t x y,ty,pos,after,gd⟩ k e A Q=cQ P H f nt ((e.eval x).bind fun m=>(e.eval y).bind fun k=>dF P t m k A) dst k e Q:=by
 show cQ P H f nt (evE P C0 _ e A) dst k e Q=_;rw[Be7]
theorem AY9{t:TypeId}{x y z:Operand}:a0 P H f nt ⟨dst,.entryStore t x y z,ty,pos,after,gd⟩ k e A Q=cQ P H f nt (u1 (on3 (e.eval x) (e.eval y) (e.eval z) fun m s v=>cN m s v A)) dst k e Q:=by
 show cQ P H f nt (evE P C0 _ e A) dst k e Q=_;rw[AY6]
theorem BQ9{t:TypeId}{x:Operand}:a0 P H f nt ⟨dst,.range t x,ty,pos,after,gd⟩ k e A Q=cQ P H f nt ((e.eval x).bind fun x=>fV P t x A) dst k e Q:=by
 show cQ P H f nt (evE P C0 _ e A) dst k e Q=_;rw[BN5]
theorem Cd0{x:Operand}:a0 P H f nt ⟨dst,.next x false,ty,pos,after,gd⟩ k e A Q=cQ P H f nt ((e.eval x).bind fun x=>ie x A) dst k e Q:=by
 show cQ P H f nt (evE P C0 _ e A) dst k e Q=_;rw[B84]
theorem BR0{x:Operand}:a0 P H f nt ⟨dst,.entry x,ty,pos,after,gd⟩ k e A Q=cQ P H f nt (((e.eval x).bind fun x=>iC x A).map fun v=>(v,A)) dst k e Q:=by
 show cQ P H f nt (evE P C0 _ e A) dst k e Q=_;rw[BN6]
theorem Bz4{t t2:TypeId}{x y:Operand}:a0 P H f nt ⟨dst,.call ⟨.builtin .append,#[x,y],#[t,t2]⟩,ty,pos,after,gd⟩ k e A Q=cQ P H f nt ((e.eval x).bind fun a=>(e.eval y).bind fun b=>aR P t t2 a b A) dst k e Q:=by
 show cQ P H f nt (evE P C0 _ e A) dst k e Q=_;rw[By1]
theorem Cd1{t t2:TypeId}{x y:Operand}:a0 P H f nt ⟨dst,.call ⟨.builtin .copy,#[x,y],#[t,t2]⟩,ty,pos,after,gd⟩ k e A Q=cQ P H f nt ((e.eval x).bind fun a=>(e.eval y).bind fun b=>gH P t a b A) dst k e Q:=by
 show cQ P H f nt (evE P C0 _ e A) dst k e Q=_;rw[B85]
theorem Bz5{t t2:TypeId}{x y:Operand}:a0 P H f nt ⟨dst,.call ⟨.builtin .delete,#[x,y],#[t,t2]⟩,ty,pos,after,gd⟩ k e A Q=cQ P H f nt (u1 ((e.eval x).bind fun a=>(e.eval y).bind fun b=>fz P t a b A)) dst k e Q:=by
 show cQ P H f nt (evE P C0 _ e A) dst k e Q=_;rw[By2]
theorem BR1{t:TypeId}{x:Operand}:a0 P H f nt ⟨dst,.call ⟨.builtin .clear,#[x],#[t]⟩,ty,pos,after,gd⟩ k e A Q=cQ P H f nt (u1 ((e.eval x).bind fun a=>(dH P t a A).or (cZ P t a A))) dst k e Q:=by
 show cQ P H f nt (evE P C0 _ e A) dst k e Q=_;rw[BN7]
theorem Cd2{g:Operand}{args:Array Operand}{ts:Array TypeId}:a0 P H f nt ⟨dst,.call ⟨.value g,args,ts⟩,ty,pos,after,gd⟩ k e A Q=j0 P H f nt (e.eval g) (aD e args.toList) dst k e A Q:=rfl
theorem Cd3{d:Tmp}{v:V}:aG P H f nt (some (.val v)) (some d) k e A Q=Run P H f nt k .normal ((d,v)::e) A Q:=rfl
theorem BR2{v:V}:aG P H f nt (some (.val v)) none k e A Q=Run P H f nt k .normal e A Q:=rfl
theorem Cd4{d:Tmp}{c:List V}:aG P H f nt (some (.cu c)) (some d) k e A Q=Run P H f nt k .normal ((d,.ptr A.blk.length 0)::e) (A.push ⟨c,.var⟩) Q:=rfl
theorem Cq8{d:Tmp}{c:List V}{n sz:Nat}:aG P H f nt (some (.aB c n sz)) (some d) k e A Q=Run P H f nt k .normal ((d,.sl A.blk.length 0 n sz)::e) (A.push ⟨c,.arr A.blk.length 0⟩) Q:=rfl
theorem Cd5{d:Tmp}:aG P H f nt (some .cq) (some d) k e A Q=Run P H f nt k .normal ((d,.map A.maps.length)::e) (A.bQ ⟨[],0⟩) Q:=rfl
theorem BR3{d:Tmp}{v:V}{A':AS}:cQ P H f nt (some (v,A')) (some d) k e Q=Run P H f nt k .normal ((d,v)::e) A' Q:=rfl
theorem Bz6{v:V}{A':AS}:cQ P H f nt (some (v,A')) none k e Q=Run P H f nt k .normal e A' Q:=rfl
theorem Aa0{g:FuncId}{args:List V}{d:Tmp}{v:V}{A':AS}(h:EvF P H g args A v A')(hr:Run P H f nt k .normal ((d,v)::e) A' Q):jF P H f nt g args (some d) k e A Q:=⟨v,A',h,hr⟩
theorem Bz7{l:Nat}{vs:List V}{d:Tmp}:j0 P H f nt (some (.yield l)) (some vs) (some d) k e A Q=je P H l vs A fun v A'=>Run P H f nt k .normal ((d,v)::e) A' Q:=rfl
theorem Bo6{l:Nat}{vs:List V}:j0 P H f nt (some (.yield l)) (some vs) none k e A Q=je P H l vs A fun v A'=>Run P H f nt k .normal e A' Q:=rfl
end
def RS :=
 And.intro @BM6 <| And.intro @Be4 <| And.intro @Bw7 <| And.intro @Bn5 <| And.intro @A41 <| And.intro @A89 <| And.intro @AY3 <| And.intro @BH9 <| And.intro @A43 <| And.intro @Bn3 <| And.intro @Bw6 <| And.intro @Bn2 <| And.intro @Bn4 <| And.intro @Bw8 <| And.intro @AR3 <| And.intro @AY2 <| And.intro @Ar7 <| And.intro @At9 <| And.intro @A40 <| And.intro @BM7 <| And.intro @BM5 <| And.intro @B91 <| And.intro @B92 <| And.intro @B93 <| And.intro @B94 <| And.intro @BO4 <| And.intro @By7 <| And.intro @Bo3 <| And.intro @By8 <| And.intro @BO5 <| And.intro @BO6 <| And.intro @B95 <| And.intro @B96 <| And.intro @BO7 <| And.intro @BO8 <| And.intro @BO9 <| And.intro @BP0 <| And.intro @B97 <| And.intro @B98 <| And.intro @A91 <| And.intro @AN1 <| And.intro @A48 <| And.intro @Am5 <| And.intro @B99 <| And.intro @Ca0 <| And.intro @Ca1 <| And.intro @Ca2 <| And.intro @Ca3 <| And.intro @Ca4 <| And.intro @AY7 <| And.intro @Ax9 <| And.intro @Ca5 <| And.intro @Ca6 <| And.intro @Ca7 <| And.intro @Ca8 <| And.intro @Ca9 <| And.intro @AY8 <| And.intro @Cb0 <| And.intro @Cb1 <| And.intro @BP3 <| And.intro @Af4 <| And.intro @Cb2 <| And.intro @Cb3 <| And.intro @BP4 <| And.intro @Cb4 <| And.intro @BP5 <| And.intro @BP6 <| And.intro @BP7 <| And.intro @Cb5 <| And.intro @Cb6 <| And.intro @Cp8 <| And.intro @By9 <| And.intro @Cb7 <| And.intro @BP8 <| And.intro @Bo4 <| And.intro @Cb8 <| And.intro @Cb9 <| And.intro @Cc0 <| And.intro @BP9 <| And.intro @Cc1 <| And.intro @Cc2 <| And.intro @Cc3 <| And.intro @BQ0 <| And.intro @BQ1 <| And.intro @Cd3 <| And.intro @BR2 <| And.intro @Cd4 <| And.intro @Cq8 <| And.intro @Cd5 <| And.intro @BR3 <| And.intro @Bz6 <| And.intro @Bw9 <| And.intro @Bz7 <| And.intro @Bo6 <| And.intro @Bx0 <| And.intro @Bx1 <| And.intro @Bx2 <| And.intro @Bx3 <| And.intro @Bx4 <| And.intro @Be5 <| And.intro @A42 <| And.intro @BN8 <| And.intro @By3 <| And.intro @Bn9 <| And.intro @By4 <| And.intro @By5 <| And.intro @Cp3 <| And.intro @Cp4 <| And.intro @BN9 <| And.intro @B86 <| And.intro @B87 <| And.intro @BO0 <| And.intro @B88 <| And.intro @BO1 <| And.intro @Cp6 <| And.intro @BO2 <| And.intro @B89 <| And.intro @BO3 <| And.intro @Cp7 <| And.intro @By6 <| And.intro @B90 <| And.intro @Cc4 <| And.intro @Bz0 <| And.intro @Cc5 <| And.intro @BQ3 <| And.intro @Cp9 <| And.intro @BQ4 <| And.intro @Cq0 <| And.intro @Cc6 <| And.intro @Cq1 <| And.intro @Cq2 <| And.intro @CC2 <| And.intro @Cc7 <| And.intro @Cc8 <| And.intro @Cc9 <| And.intro @Cq3 <| And.intro @Cq4 <| And.intro @BQ5 <| And.intro @A49 <| And.intro @BQ6 <| And.intro @A50 <| And.intro @BQ7 <| And.intro @Bz1 <| And.intro @Bo5 <| And.intro @Cq5 <| And.intro @Cq6 <| And.intro @Cq7 <| And.intro @BQ8 <| And.intro @Bz2 <| And.intro @Bz3 <| And.intro @Be9 <| And.intro @AY9 <| And.intro @BQ9 <| And.intro @Cd0 <| And.intro @BR0 <| And.intro @Bz4 <| And.intro @Cd1 <| And.intro @Bz5 <| @Cd2
end Go.Sv
namespace Go.Sv
open Go
abbrev Bts:=List UInt8
def bc(l:Bts):List V:=l.map fun u=>.int .u8 u.toNat
theorem Aa7(l:Bts):(bc l).length=l.length:=by simp[bc]
theorem Ac9(l:Bts):(bc l).all V.one=true:=by simp[bc,V.one]
theorem AZ0(l r:Bts):bc (l++r)=bc l++bc r:=by simp[bc]
theorem Bo7(x:UInt8)(l:Bts):bc (x::l)=.int .u8 x.toNat::bc l:=rfl
theorem A92(l:Bts)(i:Nat):(bc l)[i]?=(l[i]?).map fun u=>.int .u8 u.toNat:=by simp[bc]
theorem Bf0(l:Bts):bytesOf (bc l)=some l:=AI1 l
def eB(n:Nat)(hn:0<n):Enc Bts:=⟨n,true,fun _ cs x=>cs=bc x/\x.length=n,fun h=>by rw[h.1,Aa7,h.2],fun h=>by simp at h,fun h=>by rw[h.1];exact Ac9 _,fun _ h=>h⟩
theorem Cq9{n:Nat}{hn:0<n}{m:Hp}{w:V}{x:Bts}:(eB n hn).W m w x↔w=.agg (bc x)/\x.length=n:=by
 unfold Enc.W;rw[if_pos (by simp[eB])]
 constructor
 . rintro⟨cs,rfl,rfl,h⟩;exact⟨rfl,h⟩
 . rintro⟨rfl,h⟩;exact⟨_,rfl,rfl,h⟩
def eId:Enc Bts:=eB 32 (by decide)
theorem Cd6(n:Nat):IntKind.u8.wrap (n:Int)=((UInt8.ofNat n).toNat:Int):=by
 rw[UInt8.toNat_ofNat']
 simp[IntKind.wrap,IntKind.signed,IntKind.bits]
theorem Ac6{n:Int}(h1:-9223372036854775808<=n)(h2:n<=9223372036854775807):IntKind.i64.wrap n=n:=by
 show(if (true && decide (n%18446744073709551616>=9223372036854775808))=true then n%18446744073709551616-18446744073709551616 else n%18446744073709551616)=n
 simp only[Bool.true_and,decide_eq_true_eq]
 split<;>omega
theorem A51{k:IntKind}(n j:Nat)(hj:j<=k.bits):bg .shr k (n:Int) (j:Int)=some (.int k ((n/2^j:Nat):Int)):=by
 unfold bg
 rw[if_neg (by omega)]
 simp only[Int.toNat_natCast,Nat.min_eq_left hj]
 congr 2
 rw[Int.fdiv_eq_ediv_of_nonneg _ (by exact_mod_cast Nat.zero_le _)]
 norm_cast
theorem BR4(n j:Nat):(n:Int).tdiv (j:Int)=((n/j:Nat):Int):=rfl
section
variable {P:Program} {A:AS} {t e s d:TypeId}
theorem BR5{b:Nat}{l:Bts}{k:BK}{el:TypeId}(hne:s≠d)(hu:P.underlying s=some (.slice el))(he:P.underlying el=some (.int .u8))(hd:P.underlying d=some .string)(hb:A.blk[b]?=some ⟨bc l,k⟩):
 cnv P s d (some (.sl b 0 l.length 1)) A=some (.val (.str l)):=by
 rw[Bo0 hne (fun b q=>by simp at q)]
 unfold aU
 simp only[hu,he,hd,if_true]
 have:A.range b 0 l.length=some (bc l):=by
  unfold AS.range;rw[hb];simp[Aa7]
  rw[<- Aa7 l,List.take_length]
 rw[this];simp only[Bf0];rfl
theorem Ak1{n b o:Nat}{k:IntKind}{i z:Nat}(hu:P.underlying t=some (.array n e))(hs:szT P e=some z)(hi:i<n):aj P t (.ptr b o) (.int k (i:Int))=some (.ptr b (o+i*z)):=by
 unfold aj
 simp only[hu,hs]
 rw[if_pos (by omega)];simp
theorem AS1{n b o:Nat}{k:IntKind}{i z:Nat}(hu:P.underlying t=some (.slice e))(hs:szT P e=some z)(hi:i<n):aj P t (.sl b o n z) (.int k (i:Int))=some (.ptr b (o+i*z)):=by
 unfold aj
 simp only[hu,hs]
 rw[if_pos ⟨trivial,by omega,by omega⟩];simp
theorem Cd7{l:Bts}{k:IntKind}{i:Nat}{x:UInt8}(hu:P.underlying t=some .string)(hx:l[i]?=some x):dU P t (.str l) (.int k (i:Int))=some (.int .u8 x.toNat):=by
 unfold dU
 simp only[hu]
 rw[if_pos (by omega)]
 simp[hx]
theorem Bo8{n b o z:Nat}{k:Blk}(hu:P.underlying t=some (.array n e))(hs:szT P e=some (z+1))(hb:A.blk[b]?=some k)(hl:o+n*(z+1)<=k.cells.length):
 aE P t (.ptr b o) none none none A=some (.sl b o n (z+1)):=by
 unfold aE
 simp only[hu,hs,aV]
 unfold AS.range
 rw[hb];simp[hl]
theorem Ak8:∀(l:Bts),an (List.replicate l.length (.int .u8)) (bc l)=true
 |[]=>rfl
 |x::l=>by
  simp only[List.length_cons,List.replicate_succ,Bo7,an,CK.fits,Ak8 l];rfl
theorem Ak2:∀(l r:Bts),l.length=r.length->aN (bc l) (bc r)=decide (l=r)
 |[],[],_=>rfl
 |x::l,y::r,h=>by
  simp only[Bo7,aN,V.fZ,Ak2 l r (by simpa using h)]
  by_cases h1:x=y
  . by_cases h2:l=r<;>simp[h1,h2]
  . have:¬((x.toNat:Int)=y.toNat):=fun q=>h1 (UInt8.toNat_inj.1 (by omega))
    simp[h1,this]
theorem A93{n:Nat}{l r:Bts}(hsh:bT P 50 t=some (List.replicate n (.int .u8)))(ha:aH P t=some true)(hg:P.eqGuardType P.depth t=false)(hl:l.length=n)(hr:r.length=n):
 fO P t (.agg (bc l)) (.agg (bc r))=some (decide (l=r)):=by
 unfold fO
 simp only[hsh,ha,hg]
 have e1:=Ak8 l
 have e2:=Ak8 r
 rw[hl]at e1;rw[hr]at e2
 rw[e1,e2,Ak2 l r (by omega)]
 rfl
end
theorem Own.new{N:Nat}{A:AS}{n sz:Nat}{cs:List V}(hw:WF A)(hN:N<=A.blk.length)(h1:cs.length=n*sz)(h0:cs.all V.one=true):Own N (A.push ⟨cs,.arr A.blk.length 0⟩) (.sl A.blk.length 0 n sz) n sz cs:=by
 refine⟨h1,h0,.inr ⟨A.blk.length,A.blk.length,0,rfl,Ab9 A _,hN,hN,by rw[Ad4];omega,?_⟩⟩
 intro i k base' hi hk
 rw[Ad2]at hi
 split at hi
 . cases hi;simp at hk;rw[<- hk];simp
 . have:=hw i k _ base' hi hk;omega
theorem Own.len{P:Program}{N:Nat}{A:AS}{v:V}{n sz:Nat}{cs:List V}{t e:TypeId}(h:Own N A v n sz cs)(hu:P.underlying t=some (.slice e))(B:AS):dr P t v B=some (.int .i64 n):=by
 obtain⟨_,_,⟨rfl,rfl⟩ |⟨b,f,base,rfl,_⟩⟩:=h<;>(unfold dr;rw[hu])<;>rfl
theorem Own.bts{N:Nat}{A:AS}{v:V}{l:Bts}(h:Own N A v l.length 1 (bc l)):∃m:Hp,m.on A/\(∀b,b<N->m b=none)/\Slc eU8 m v l:=by
 obtain⟨m,h1,h2,h3,h4⟩:=Own.slc (E:=eU8) (l:=l) h (Hp.ji A) rfl (fun _ _=>rfl) (fun i x hx=>by
  show((bc l).drop (i*1)).take 1=_
  rw[Nat.mul_one,List.take_one,List.head?_drop,A92,hx];rfl)
 exact⟨m,h2,fun b hb=>h3 b hb,h4⟩
theorem Av1{P:Program}{t:TypeId}{k:IntKind}(j c:Nat)(hc:c≠0):aw P .rem t (.int k (j:Int)) (.int k (c:Int))=some (.int k ((j%c:Nat):Int)):=by
 rw[Al8,if_neg (by omega)];rfl
theorem AA0{P:Program}{t:TypeId}(j c:Nat)(hc:c≠0)(hj:j<=9223372036854775807):aw P .quo t (.int .i64 (j:Int)) (.int .i64 (c:Int))=some (.int .i64 ((j/c:Nat):Int)):=by
 rw[As2,if_neg (by omega),BR4,Cp5 (Nat.le_trans (Nat.div_le_self j c) hj)]
theorem A52{P:Program}{t:TypeId}{a b:Bts}(h:a.length+b.length<=9223372036854775807):aw P .add t (.str a) (.str b)=some (.str (a++b)):=by
 rw[BP1,if_pos h]
theorem Cr0(n:Nat):UInt8.ofNat (n%256)=UInt8.ofNat n:=by
 apply UInt8.toNat_inj.1
 simp[UInt8.toNat_ofNat']
theorem Own.cast{N:Nat}{A:AS}{v:V}{n n' sz:Nat}{cs cs':List V}(h:Own N A v n sz cs)(hn:n=n')(hc:cs=cs'):Own N A v n' sz cs':=by subst hn;subst hc;exact h
theorem Bo9{P:Program}{H:Hints}{f:FuncId}{nt:Nat}{k:List Kt}{e:Env}{A:AS}{Q:Ex->Env->AS->Prop}{c:Code}(R:Ex->Env->AS->Prop)(h:Run P H f nt [.code c] .normal e A R)(hk:∀x e A,R x e A->Run P H f nt k x e A Q):
 Run P H f nt (.code c::k) .normal e A Q:=AR9 (Q:=R) (Q':=fun x e A=>Run P H f nt k x e A Q) h hk
theorem Ah3{cs vs:List V}(h:cs.length=vs.length):putAt cs 0 vs=vs:=by
 unfold putAt;rw[List.take_zero,List.nil_append,Nat.zero_add,<- h,List.drop_length,List.append_nil]
theorem Ag5{P:Program}(A:AS){z cs:List V}{t:TypeId}{x:V}(hx:x.cells=some cs)(hs:szT P t=some cs.length)(hz:z.length=cs.length)(h1:cs.all V.one=true):
 ∃A',ag P t (.ptr A.blk.length 0) x (A.push ⟨z,.var⟩)=some A'/\Fr S0 A A'/\A'.blk[A.blk.length]?=some ⟨cs,.var⟩/\A'.blk.length=A.blk.length+1:=by
 obtain⟨A1,e1,f1,r1,n1⟩:=Aa3 A z
 obtain⟨A2,h2,h3,h4,h5⟩:=Ab1 (P:=P) (t:=t) (o:=0) r1 hx hs (by omega) h1
 refine⟨A2,by rw[<- e1];exact h2,f1.ar h3 (Nat.le_refl _),by rw[Ah3 hz]at h4;exact h4,by omega⟩
theorem Aa1{P:Program}{ops:Array Oper}{e:Env}{A:AS}:recheck P ops e A []=true:=rfl
mutual
theorem V.j9:∀v:V,V.beq v v=true
 |.undef=>rfl
 |.bool b=>by simp[V.beq]
 |.int k n=>by simp[V.beq]
 |.str s=>by simp[V.beq]
 |.eg=>rfl
 |.ptr b o=>by simp[V.beq]
 |.ah=>rfl
 |.sl b o n z=>by simp[V.beq]
 |.gm=>rfl
 |.map r=>by simp[V.beq]
 |.iP=>rfl
 |.fn f a c=>by simp[V.beq,As3 a,As3 c]
 |.yield l=>by simp[V.beq]
 |.iter i=>by simp[V.beq]
 |.agg cs=>by simp[V.beq,As3 cs]
 |.tup cs=>by simp[V.beq,As3 cs]
theorem As3:∀l:List V,jP l l=true
 |[]=>rfl
 |v::r=>by simp[jP,V.j9 v,As3 r]
end
theorem Cd8{P:Program}{ops:Array Oper}{e:Env}{A:AS}{q d:Nat}{r:List Nat}{op:Op}{ty:TypeId}{pos:String}{after:Array Edge}{v:V}(ho:ops[q]?=some ⟨some d,op,ty,pos,after,none⟩)
 (hv:evQ P ⟨some d,op,ty,pos,after,none⟩ e A=some (.val v)) (hd:e.get d=v) (hr:recheck P ops e A r=true):recheck P ops e A (q::r)=true:=by
 unfold recheck
 simp only[ho,aT,hv,hd,V.j9,hr,Bool.and_self]
theorem Aa5{P:Program}{ops:Array Oper}{e:Env}{A:AS}{q d a:Nat}{r:List Nat}{t:TypeId}{ty:TypeId}{pos:String}{after:Array Edge}{v w:V}(ho:ops[q]?=some ⟨some d,.load t (.tmp a),ty,pos,after,none⟩)
 (ha:e.get a=w) (hv:aa P t w A=some v) (hd:e.get d=v) (hr:recheck P ops e A r=true):recheck P ops e A (q::r)=true :=
 Cd8 ho (by rw[Bn7,Bo3,ha];simp[hv]) hd hr
def fN(A:AS)(b f:Nat):Prop:=f<A.blk.length/\∀(i:Nat) k base',A.blk[i]?=some k->k.kind=.arr f base'->i=b
theorem fN.new{A:AS}{cs:List V}(hw:WF A):fN (A.push ⟨cs,.arr A.blk.length 0⟩) A.blk.length A.blk.length:=by
 refine⟨by rw[Ad4];omega,fun i k base' hi hk=>?_⟩
 rw[Ad2]at hi
 split at hi
 . assumption
 . have:=hw i k _ base' hi hk;omega
theorem fN.fr{S:Loc->Prop}{A A':AS}{b f:Nat}(h:fN A b f)(hf:Fr S A A')(hs:¬S (.fam f)):fN A' b f:=by
 refine⟨by have:=hf.len;have:=h.1;omega,fun i k base' hi hk=>?_⟩
 rcases Nat.lt_or_ge i A.blk.length with q |q
 . obtain⟨cs',q1,q2⟩:=hf.kind i _ (LH q)
   rw[hi]at q1;cases q1
   exact h.2 i _ base' (LH q) hk
 . obtain⟨_,r |r⟩:=hf.new i k f base' hi q hk
   . have:=h.1;omega
   . exact(hs r).elim
theorem AA1{P:Program}{A:AS}{b o f base:Nat}{cells cs:List V}{t:TypeId}{x:V}(h:fN A b f)(hb:A.blk[b]?=some ⟨cells,.arr f base⟩)(hx:x.cells=some cs)(hsz:szT P t=some cs.length)(ho:o+cs.length<=cells.length)(h1:cs.all V.one=true):
 ∃A',ag P t (.ptr b o) x A=some A'/\Fr (·=.row b) A A'/\A'.blk[b]?=some ⟨putAt cells o cs,.arr f base⟩/\A'.blk.length=A.blk.length/\fN A' b f:=by
 have hpo:∀lo hi,(A.bN b (putAt cells o cs)).a8 f lo hi (some b)=A.bN b (putAt cells o cs):=by
  intro lo hi
  have:((A.bN b (putAt cells o cs)).a8 f lo hi (some b)).blk=(A.bN b (putAt cells o cs)).blk:=by
   apply List.ext_getElem?;intro i
   unfold AS.a8
   simp only[List.getElem?_mapIdx]
   cases hi:(A.bN b (putAt cells o cs)).blk[i]? with
   |none=>rfl
   |some k =>
    simp only[Option.map_some]
    split
    . rfl
    . rename_i hne
      rw[Ai7 fun base' hk=>?_]
      have hib:i≠b:=fun q=>hne (by rw[q])
      rw[Ak7,if_neg hib]at hi
      exact absurd (h.2 i k base' hi hk) hib
  show { A.bN b (putAt cells o cs)with blk:=((A.bN b (putAt cells o cs)).a8 f lo hi (some b)).blk }=_
  rw[this]
 refine⟨A.bN b (putAt cells o cs),?_,Fr.bN hb (Af0 ho),by rw[Ak7,hb];simp,by simp[AS.bN],?_⟩
 . unfold ag
   rw[hsz,hx]
   simp only[if_true]
   unfold AS.put
   rw[hb]
   simp only[]
   rw[if_pos ⟨ho,h1⟩,hpo]
 . exact h.fr (Fr.bN hb (Af0 ho)) fun q=>by cases q
theorem Ah4{P:Program}{H:Hints}{f:FuncId}{nt:Nat}{k:List Kt}{e:Env}{A:AS}{Q:Ex->Env->AS->Prop}{c:Option V}{a b:Code}(R:Ex->Env->AS->Prop)(h:j6 P H f nt c a b [] e A R)(hk:∀x e A,R x e A->Run P H f nt k x e A Q):
 j6 P H f nt c a b k e A Q:=by
 cases c with
 |none=>exact h.elim
 |some v =>
  cases v
  case bool t =>
   cases t
   . exact Bo9 R h hk
   . exact Bo9 R h hk
  all_goals exact False.elim h
end Go.Sv
namespace Go.Sv
open Go
def kq{τ:Type}(P:Program)(H:Hints)(h:FuncId)(first cap:List V)(A0:AS)(S T:Loc->Prop)(K:Nat->Prop)(Pre Fin:AS->Prop)(AR:AS->List V->τ->Prop)(xs:List τ):Prop :=
 ∀(l:Nat) (J D:Nat->AS->Prop),(∀i A A',J i A->Fr T A A'->J i A')->(∀i A A',D i A->Fr S0 A A'->D i A') ->
  (∀i x A args,xs[i]?=some x->J i A->Fr S A0 A->Pre A->AR A args x->∃b A',EvY P H l args A (.bool b) A'/\Fr S A A'/\(b=true->J (i+1) A'/\∀r,K r->A'.blk[r]?=A.blk[r]?)/\(b=false->D i A')) ->
  J 0 A0->∃v A',EvF P H h (first++[.yield l]++cap) A0 v A'/\Fr S A0 A'/\((J xs.length A'/\Fin A')∨∃i,i<xs.length/\D i A')
section
variable {P:Program} {H:Hints} {f:FuncId} {nt:Nat} {k:List Kt} {e:Env} {A:AS} {Q:Ex->Env->AS->Prop}
theorem Bp0{τ:Type}{g:Operand}{ps:Array Tmp}{as bd:Code}{id:Nat}{h:FuncId}{first cap:List V}{S T:Loc->Prop}{K:Nat->Prop}{Pre Fin:AS->Prop}{AR:AS->List V->τ->Prop}{xs:List τ}{fn:Func}
 (I:Nat->AS->Prop) (E:AS->Prop)
 (hg:e.eval g=some (.fn h first cap)) (hl:¬S (.loop A.loops.length)) (hT:¬T (.loop A.loops.length))
 (hgo:∀A0,Fr S0 A A0->kq P H h first cap A0 (bS S A.loops.length) T K Pre Fin AR xs) (hI:I 0 A)
 (hIs:∀i A1 A',I i A1->Fr (fun x=>T x∨x=.loop A.loops.length) A1 A'->I i A')
 (hEs:∀A1 A',E A1->Fr (·=.loop A.loops.length) A1 A'->E A')
 (hf:P.funcs[f]?=some fn) (hnt:fn.ntmps=nt) (hps:ps.toList.all (fun p=>decide (p<nt))=true)
 (gY:∀i x A1 args,xs[i]?=some x->I i A1->Fr (bS S A.loops.length) A A1->Pre A1->AR A1 args x->∃e0,ca e ps.toList args=some e0 /\
  Run P H f nt [.code as] .normal e0 A1 fun x e1 A1'=>Is x .normal/\Fr S A1 A1'/\∀A1b,Fr (·=.loop A.loops.length) A1' A1b ->
   Run P H f nt [.code bd] .normal e1 A1b fun x e2 A2=>Fr S A1b A2/\((Is x .normal/\I (i+1) A2/\∀r,K r->A2.blk[r]?=A1.blk[r]?)∨(Is x (.exit id)/\E A2)))
 (hIE:∀A2,I xs.length A2->Fin A2->E A2)
 (ga:∀A2,E A2->Fr S A A2->Run P H f nt k .normal e A2 Q):Run P H f nt (.code (.rangeFunc g ps as bd)::.blk id::k) .normal e A Q:=by
 subst hnt
 generalize hlen:A.loops.length=l at *
 let R:ez:=⟨.ready,none,f,e,ps.toList,as,bd⟩
 have hA0:Fr S0 A (A.aS R):=Fr.aS A R
 have lJ:(A.aS R).loops[l]?=some R:=by rw[<- hlen];exact Ar8 A R
 have one:∀{B C:AS},Fr S0 B C->Fr (·=.loop l) B C:=fun q=>q.mono fun _ z=>z.elim
 have eN:∀{B C:AS} {r:ez},B.loops[l]?=some r->Fr S B C->C.loops[l]?=some r:=fun q z=>z.loop l _ q hl
 obtain⟨v,A2,h1,h2,h3⟩:=hgo (A.aS R) hA0 l (fun i B=>I i B/\B.loops[l]?=some R) (fun i B=>E B/\B.loops[l]?=some { R with state:=.done,pending:=some (.exit id) })
  (fun i B C q z=>⟨hIs i B C q.1 (z.mono fun _ w=>.inl w),z.loop l _ q.2 hT⟩) (fun i B C ⟨q2,q3⟩ z=>⟨hEs B C q2 (one z),z.loop l _ q3 fun w=>w⟩)
  (fun i x B args hx hJ hF hPre hAR=>by
   obtain⟨e0,q1,q2⟩:=gY i x B args hx hJ.1 (hA0.jL hF) hPre hAR
   obtain⟨v,C,y1,b,y2,y3,y4,y5⟩:=AR5 (P:=P) (H:=H) (A:=B) (l:=l) (args:=args) (fn:=fn) (e0:=e0) (r:=R)
    (Q:=fun v C=>∃b,v=.bool b/\Fr (bS S l) B C/\(b=true->(I (i+1) C/\C.loops[l]?=some R)/\∀r,K r->C.blk[r]?=B.blk[r]?) /\
     (b=false->E C/\C.loops[l]?=some { R with state:=.done,pending:=some (.exit id) })) hJ.2 hf q1 hps
    (Ad7 q2 fun y e1 B1 ⟨z1,z2,z3⟩=>by
     refine⟨z1,R,eN hJ.2 z2,rfl,Ad7 (z3 _ (Fr.ay B1 l _)) fun y e2 B2 ⟨w1,w2⟩=>?_⟩
     have g1:=Ae0 (r':={ R with state:=.busy }) (eN hJ.2 z2)
     have g2:=eN g1 w1
     have fr:Fr (bS S l) B (B2.ay l { R with state:=if (bX y).isNone then .ready else .done,pending:=bX y }):=
      (((z2.mono fun _ q=>.inl q).trans (Fr.ay B1 l _) fun _ q=>.inl (.inr q)).trans w1 fun _ q=>.inl (.inl q)).trans (Fr.ay B2 l _) fun _ q=>.inl (.inr q)
     refine⟨_,g2,_,rfl,fr,fun hb=>?_,fun hb=>?_⟩
     . rcases w2 with⟨rfl,w2,w3⟩ |⟨rfl,w2⟩
       . exact⟨⟨hIs _ _ _ w2 ((Fr.ay B2 l _).mono fun _ q=>.inr q),Ae0 g2⟩,w3⟩
       . simp[bX]at hb
     . rcases w2 with⟨rfl,w2,w3⟩ |⟨rfl,w2⟩
       . simp[bX]at hb
       . exact⟨hEs _ _ w2 (Fr.ay B2 l _),Ae0 g2⟩)
   subst y2
   exact⟨b,C,y1,y3,y4,y5⟩) ⟨hIs _ _ _ hI (hA0.mono fun _ q=>q.elim),lJ⟩
 have fH:∀r,Fr S A (A2.ay l r):=fun r =>
  (((hA0.mono fun _ q=>q.elim:Fr S A _).trans h2 fun x q=>q.elim .inl fun w=>.inr (by subst w;simp only[Loc.dK];omega))).trans (Fr.ay A2 l r) fun x w=>.inr (by subst w;simp only[Loc.dK];omega)
 rcases h3 with⟨⟨h3,h4⟩,h5⟩ |⟨i,hi,h3,h4⟩
 . refine Ao6 (v:=v) (A2:=A2) (r:=R) hg (by rw[hlen];exact h1) (by rw[hlen];exact h4) (by simp[R]) ?_
   show Run P H f fn.ntmps (.blk id::k) .normal e _ Q
   rw[hlen,At9]
   exact ga _ (hEs _ _ (hIE _ h3 h5) (Fr.ay A2 l _)) (fH _)
 . refine Ao6 (v:=v) (A2:=A2) (r:={ R with state:=.done,pending:=some (.exit id) }) hg (by rw[hlen];exact h1) (by rw[hlen];exact h4) (by simp[R]) ?_
   rw[hlen]
   show Run P H f fn.ntmps (.blk id::k) (.exit id) e _ Q
   rw[Ar7,if_pos rfl]
   exact ga _ (hEs _ _ h3 (Fr.ay A2 l _)) (fH _)
end
def dq(A:AS):Hp:=fun b=>match A.blk[b]? with
 |some ⟨cs,.ro⟩=>some cs
 |some ⟨cs,.arr _ _⟩=>some cs
 | _=>none
theorem Ai2(A:AS):(dq A).on A:=by
 intro b cs h
 unfold dq at h
 split at h
 . rename_i c hb;cases h;exact⟨.ro,hb⟩
 . rename_i c f base hb;cases h;exact⟨.arr f base,hb⟩
 . simp at h
theorem Bz8{S:Loc->Prop}{A A':AS}(hf:Fr S A A')(hs:∀b,S (.row b)->dq A b=none):(dq A).le (dq A'):=by
 intro b cs h
 have hn:¬S (.row b):=fun q=>by rw[hs b q]at h;simp at h
 unfold dq at h ⊢
 split at h
 . rename_i c hb;cases h;rw[hf.row b _ hb hn]
 . rename_i c f base hb;cases h;rw[hf.row b _ hb hn]
 . simp at h
theorem Av2{P:Program}{t e:TypeId}{s:Nat}{zc cs:List V}(hu:P.underlying t=some (.slice e))(hs:szT P e=some (s+1))(hz:(aC P e).bind V.cells=some zc)(hzl:zc.length=s+1)(hc:cs.length=s+1)(hb:s+1<=16777216):
 bsl P t 1 (some [(0,.agg cs)])=some (.aB cs 1 (s+1)):=by
 unfold bsl
 simp only[hu,hs,hz]
 rw[if_pos ⟨hzl,by omega⟩]
 have e1:du zc 1=zc:=by simp[du]
 rw[e1]
 unfold eP
 simp only[V.cells,Nat.zero_mul]
 rw[if_pos ⟨hc,by omega⟩]
 unfold eP
 rw[Ah3 (by omega)];rfl
def pt(A:AS)(b f:Nat):Prop:=f<A.blk.length/\∀(i:Nat) k base',i≠b->A.blk[i]?=some k->k.kind=.arr f base'->k.cells=[]
theorem AB8{P:Program}{C:AS}{v:V}{t tx e:TypeId}{bt k:Nat}{new:List V}(hT:SlT P t e 1 bt)(hw:WF C)(fQ:fR P tx 1 v (C.push ⟨[],.arr C.blk.length 0⟩)=some (k,new))(hk:new.length=k)(hk0:k≠0)(hn:new.all V.one=true)(hb1:k*bt<=140737488355328)(hb2:k<=4611686018427387903):
 ∃D,aR P t tx (.sl C.blk.length 0 0 1) v (C.push ⟨[],.arr C.blk.length 0⟩)=some (.sl (C.blk.length+1) 0 k 1,D)/\Fr S0 C D/\D.blk[C.blk.length+1]?=some ⟨new,.arr C.blk.length 0⟩/\pt D (C.blk.length+1) C.blk.length:=by
 obtain⟨zc,z1,z2⟩:=hT.z
 have q1:=Fr.aF C []
 have dx:=Ab9 C ⟨[],.arr C.blk.length 0⟩
 have hlen:=Ad4 C ⟨[],.arr C.blk.length 0⟩
 rw[Ah0 (z:=0) hT.u hT.s hT.b z1 z2 fQ hn]
 have hrg:(C.push ⟨[],.arr C.blk.length 0⟩).range C.blk.length 0 (0*(0+1))=some []:=by
  unfold AS.range;rw[dx];rfl
 have lH:∀lo hi,(C.push ⟨[],.arr C.blk.length 0⟩).a8 C.blk.length lo hi none=C.push ⟨[],.arr C.blk.length 0⟩:=by
  intro lo hi
  have:((C.push ⟨[],.arr C.blk.length 0⟩).a8 C.blk.length lo hi none).blk=(C.push ⟨[],.arr C.blk.length 0⟩).blk:=by
   apply List.ext_getElem?;intro i
   rw[Az9]
   cases h:(C.push ⟨[],.arr C.blk.length 0⟩).blk[i]? with
   |none=>rfl
   |some x =>
    simp only[Option.map_some]
    rw[Ad2]at h
    split at h
    . cases h
      unfold aK dD;simp
    . rw[Ai7 fun base' hk=>by have:=hw i x _ base' h hk;omega]
  show { C.push ⟨[],.arr C.blk.length 0⟩with blk:=((C.push ⟨[],.arr C.blk.length 0⟩).a8 C.blk.length lo hi none).blk }=_
  rw[this]
 simp only[dx,hrg]
 rw[if_neg (by simp),if_neg hk0]
 simp only[List.all_nil,Nat.zero_add,true_and,List.nil_append]
 rw[if_pos ⟨hb1,hb2⟩,lH,hlen]
 refine⟨_,rfl,?_,?_,?_⟩
 . refine q1.trans (Fr.mono (S:=fun x=>x=.fam C.blk.length) ?_ fun _ q=>q) (fun x q=>.inr (by subst q;exact Nat.le_refl _))
   constructor
   . intro i x hi _;rw[Ad2,if_neg (by have:=(LG.1 hi).1;omega)];exact hi
   . intro i x hi;exact⟨x.cells,by rw[Ad2,if_neg (by have:=(LG.1 hi).1;omega),hi],rfl⟩
   . intro i x f base hi hge hx
     rw[Ad2]at hi
     split at hi
     . cases hi;simp at hx;rw[Ad4,hlen,<- hx.1];exact⟨by omega,.inr rfl⟩
     . have:=(LG.1 hi).1;omega
   . intro r m hr _;exact hr
   . exact Nat.le_refl _
   . intro r m hr _;exact hr
   . exact Nat.le_refl _
   . intro r m hr _;exact hr
   . exact Nat.le_refl _
 . rw[<- hlen];exact Ab9 _ _
 . refine⟨by rw[Ad4,hlen];omega,fun i x base' hne hi hx=>?_⟩
   rw[Ad2,hlen,if_neg hne,Ad2]at hi
   split at hi
   . cases hi;rfl
   . have:=hw i x _ base' hi hx;omega
end Go.Sv
namespace Go.Sv
open Go
def kD(A:AS)(f:Nat):Loc->Prop
 |.row b=>∃k base,A.blk[b]?=some k/\k.kind=.arr f base
 |.fam g=>g=f
 | _=>False
structure Part(A:AS)(v:V)(n sz:Nat)(cs:List V)(f:Nat):Prop where
 len:cs.length=n*sz
 one:cs.all V.one=true
 fam:f<A.blk.length
 at_:∃b o k base,v=.sl b o n sz/\A.blk[b]?=some k/\k.kind=.arr f base/\o+n*sz<=k.cells.length/\(k.cells.drop o).take (n*sz)=cs
theorem Part.form{A:AS}{v:V}{n sz f:Nat}{cs:List V}(h:Part A v n sz cs f):∃b o n z,v=.sl b o n z:=by
 obtain⟨b,o,k,base,h,_⟩:=h.at_;exact⟨_,_,_,_,h⟩
theorem Part.fr{S:Loc->Prop}{A A':AS}{v:V}{n sz f:Nat}{cs:List V}(h:Part A v n sz cs f)(hf:Fr S A A')(hs:∀b,S (.row b)->∀k base,A.blk[b]?=some k->k.kind≠.arr f base):Part A' v n sz cs f:=by
 obtain⟨h1,h2,h3,b,o,k,base,h4,h5,h6,h7,h8⟩:=h
 exact⟨h1,h2,by have:=hf.len;omega,b,o,k,base,h4,hf.row b k h5 fun q=>hs b q k base h5 h6,h6,h7,h8⟩
theorem Part.src{P:Program}{tx el:TypeId}{A:AS}{v:V}{n sz f:Nat}{cs:List V}(h:Part A v n sz cs f)(hu:P.underlying tx=some (.slice el)):fR P tx sz v A=some (n,cs):=by
 obtain⟨h1,h2,h3,b,o,k,base,rfl,h5,h6,h7,h8⟩:=h
 unfold fR
 simp only[hu,if_true]
 unfold AS.range
 rw[h5]
 simp only[]
 rw[if_pos h7,h8];rfl
theorem Part.tD{P:Program}{t e:TypeId}{A:AS}{v:V}{n sz f:Nat}{cs:List V}(h:Part A v n sz cs f)(hu:P.underlying t=some (.slice e))(B:AS):dr P t v B=some (.int .i64 n):=by
 obtain⟨b,o,k,base,rfl,_⟩:=h.at_
 unfold dr;rw[hu]
theorem Part.sub{P:Program}{t e:TypeId}{A:AS}{v:V}{n sz f:Nat}{cs:List V}(h:Part A v n sz cs f)(hu:P.underlying t=some (.slice e))(hs:szT P e=some sz){lo hi:Nat}(h1:lo<=hi)(h2:hi<=n){kl kh:IntKind}(B:AS):
 ∃w,aE P t v (some (.int kl lo)) (some (.int kh hi)) none B=some w/\Part A w (hi-lo) sz ((cs.take (hi*sz)).drop (lo*sz)) f:=by
 obtain⟨p1,p2,p3,b,o,k,base,rfl,p5,p6,p7,p8⟩:=h
 have m1:lo*sz<=hi*sz:=Nat.mul_le_mul_right _ h1
 have m2:hi*sz<=n*sz:=Nat.mul_le_mul_right _ h2
 have m3:(hi-lo)*sz=hi*sz-lo*sz:=Nat.sub_mul _ _ _
 refine⟨.sl b (o+lo*sz) (hi-lo) sz,?_,?_,?_,p3,b,o+lo*sz,k,base,rfl,p5,p6,by omega,?_⟩
 . unfold aE
   simp only[hu,hs,aV]
   have e1:(lo:Int)<=hi:=by omega
   have e2:(hi:Int)<=n:=by omega
   simp[e1,e2,h1,h2]
 . rw[List.length_drop,List.length_take,p1];omega
 . rw[List.all_eq_true]at p2 ⊢
   exact fun x hx=>p2 x (List.mem_of_mem_take (List.mem_of_mem_drop hx))
 . rw[<- p8,List.take_take,Nat.min_eq_left m2,List.drop_take,List.drop_drop,m3]
theorem Part.oY{P:Program}{t e:TypeId}{A:AS}{v:V}{n sz f:Nat}{cs:List V}(h:Part A v n sz cs f)(hu:P.underlying t=some (.slice e))(hs:szT P e=some sz){lo:Nat}(h1:lo<=n){kl:IntKind}(B:AS):
 ∃w,aE P t v (some (.int kl lo)) none none B=some w/\Part A w (n-lo) sz (cs.drop (lo*sz)) f:=by
 obtain⟨w,q1,q2⟩:=h.sub (P:=P) hu hs (lo:=lo) (hi:=n) (kl:=kl) (kh:=.i64) h1 (Nat.le_refl _) B
 rw[List.take_of_length_le (by rw[h.len];exact Nat.le_refl _)]at q2
 refine⟨w,?_,q2⟩
 rw[<- q1]
 obtain⟨b,o,k,base,rfl,_⟩:=h.at_
 unfold aE;simp[hu,hs,aV]
theorem Part.qD{P:Program}{t e:TypeId}{A:AS}{v:V}{n sz f:Nat}{cs:List V}(h:Part A v n sz cs f)(hu:P.underlying t=some (.slice e))(hs:szT P e=some sz){hi:Nat}(h1:hi<=n){kh km:IntKind}(B:AS):
 ∃w,aE P t v none (some (.int kh hi)) (some (.int km hi)) B=some w/\Part A w hi sz (cs.take (hi*sz)) f:=by
 obtain⟨w,q1,q2⟩:=h.sub (P:=P) hu hs (lo:=0) (hi:=hi) (kl:=.i64) (kh:=kh) (by omega) h1 B
 rw[Nat.zero_mul,List.drop_zero,Nat.sub_zero]at q2
 refine⟨w,?_,q2⟩
 rw[<- q1]
 obtain⟨b,o,k,base,rfl,_⟩:=h.at_
 have e2:(hi:Int)<=n:=by omega
 unfold aE;simp[hu,hs,aV,e2]
theorem Part.append{P:Program}{A:AS}{v x:V}{t tx e:TypeId}{sz bt n k f:Nat}{cs new:List V}(h:Part A v n sz cs f)(hT:SlT P t e sz bt)(hw:WF A)
 (fQ:fR P tx sz x A=some (k,new)) (hk:new.length=k*sz) (hn:new.all V.one=true) (hbound:(n+k)*bt<=140737488355328) (dk:n+k<=4611686018427387903):
 ∃v' A',aR P t tx v x A=some (v',A')/\Part A' v' (n+k) sz (cs++new) f/\Fr (kD A f) A A':=by
 obtain⟨zc,z1,z2⟩:=hT.z
 obtain⟨z,rfl⟩:∃z,sz=z+1:=⟨sz-1,by have:=hT.pos;omega⟩
 obtain⟨p1,p2,p3,b,o,kb,base,rfl,p5,p6,p7,p8⟩:=h
 rw[Ah0 hT.u hT.s hT.b z1 z2 fQ hn]
 by_cases hk0:k=0
 . subst hk0
   have:new=[]:=List.eq_nil_of_length_eq_zero (by rw[hk];simp)
   subst this
   exact⟨.sl b o n (z+1),A,by simp,⟨by simpa using p1,by simpa using p2,p3,b,o,kb,base,by simp,p5,p6,by simpa using p7,by simpa using p8⟩,.refl _ A⟩
 . have mw:A.range b o (n*(z+1))=some cs:=by
    unfold AS.range;rw[p5];simp only[];rw[if_pos p7,p8]
   generalize hB:A.a8 f (base+o+n*(z+1)) (base+o+(n+k)*(z+1)) none=B
   have kX:∀(i:Nat),B.blk[i]?=(A.blk[i]?).map (aK f (base+o+n*(z+1)) (base+o+(n+k)*(z+1))):=fun i=>by rw[<- hB,Az9]
   have hlen:B.blk.length=A.blk.length:=by rw[<- hB];simp[AS.a8]
   have hBm:B.maps=A.maps/\B.loops=A.loops/\B.its=A.its:=by subst hB;exact⟨rfl,rfl,rfl⟩
   have hl:(cs++new).length=(n+k)*(z+1):=by rw[List.length_append,p1,hk,Nat.add_mul]
   refine⟨.sl A.blk.length 0 (n+k) (z+1),B.push ⟨cs++new,.arr f (base+o)⟩,?_,⟨hl,by rw[List.all_append,p2,hn];rfl,by rw[Ad4,hlen];omega,A.blk.length,0,⟨cs++new,.arr f (base+o)⟩,base+o,rfl,?_,rfl,by simp[hl],by rw[List.drop_zero,<- hl,List.take_length]⟩,?_⟩
   . simp only[p5,mw,p6]
     rw[if_neg (by simp),if_neg hk0,if_pos ⟨p2,hbound,dk⟩,hB]
   . rw[<- hlen];exact Ab9 B _
   . constructor
     . intro i x hi hns
       rw[Ad2,if_neg (by rw[hlen];have:=(LG.1 hi).1;omega),kX,hi]
       simp only[Option.map_some,Option.some.injEq]
       refine Ai7 fun base' hx=>absurd ⟨x,base',hi,hx⟩ hns
     . intro i x hi
       have hp:=Ar9 f (base+o+n*(z+1)) (base+o+(n+k)*(z+1)) x
       refine⟨(aK f (base+o+n*(z+1)) (base+o+(n+k)*(z+1)) x).cells,?_,hp.2⟩
       rw[Ad2,if_neg (by rw[hlen];have:=(LG.1 hi).1;omega),kX,hi]
       simp only[Option.map_some,Option.some.injEq]
       cases hq:aK f (base+o+n*(z+1)) (base+o+(n+k)*(z+1)) x with
       |mk c kk=>rw[hq]at hp;simp only[]at hp ⊢;rw[hp.1]
     . intro i x g base' hi hge hx
       rw[Ad2]at hi
       split at hi
       . cases hi;simp at hx
         rw[Ad4,hlen]
         exact⟨by omega,.inr (by show g=f;exact hx.1.symm)⟩
       . have:=(LG.1 hi).1;omega
     . intro r mm hr _;show B.maps[r]?=_;rw[hBm.1];exact hr
     . show A.maps.length<=B.maps.length;rw[hBm.1];exact Nat.le_refl _
     . intro r mm hr _;show B.loops[r]?=_;rw[hBm.2.1];exact hr
     . show A.loops.length<=B.loops.length;rw[hBm.2.1];exact Nat.le_refl _
     . intro r mm hr _;show B.its[r]?=_;rw[hBm.2.2];exact hr
     . show A.its.length<=B.its.length;rw[hBm.2.2];exact Nat.le_refl _
theorem Part.first{P:Program}{A:AS}{x:V}{t tx e:TypeId}{sz bt k:Nat}{new:List V}(hT:SlT P t e sz bt)(fQ:fR P tx sz x A=some (k,new))(hk:new.length=k*sz)(hk0:k≠0)(hn:new.all V.one=true)(hbound:k*bt<=140737488355328)(dk:k<=4611686018427387903):
 ∃v' A',aR P t tx .ah x A=some (v',A')/\Part A' v' k sz new A.blk.length/\Fr S0 A A':=by
 obtain⟨zc,z1,z2⟩:=hT.z
 obtain⟨z,rfl⟩:∃z,sz=z+1:=⟨sz-1,by have:=hT.pos;omega⟩
 rw[Ah0 hT.u hT.s hT.b z1 z2 fQ hn]
 simp only[]
 rw[if_neg hk0,if_pos ⟨hbound,dk⟩]
 exact⟨_,_,rfl,⟨hk,hn,by rw[Ad4];omega,A.blk.length,0,_,0,rfl,Ab9 A _,rfl,by simp[hk],by rw[List.drop_zero,<- hk,List.take_length]⟩,Fr.aF A new⟩
end Go.Sv
namespace Go.Sv
open Go
open Classical in
noncomputable def qHp(X:Nat->Prop)(A:AS):Hp:=fun b=>match A.blk[b]? with
 |some ⟨cs,.ro⟩=>some cs
 |some ⟨cs,.arr f _⟩=>if X f then none else some cs
 | _=>none
theorem AI4{X:Nat->Prop}{A:AS}{b:Nat}{cs:List V}(h:qHp X A b=some cs):A.blk[b]?=some ⟨cs,.ro⟩∨∃f base,A.blk[b]?=some ⟨cs,.arr f base⟩/\¬X f:=by
 unfold qHp at h
 split at h
 . rename_i c hb;cases h;exact .inl hb
 . rename_i c f base hb
   split at h
   . simp at h
   . rename_i q;cases h;exact .inr ⟨f,base,hb,q⟩
 . simp at h
theorem A94{X:Nat->Prop}{A:AS}{b:Nat}{cs:List V}(h:A.blk[b]?=some ⟨cs,.ro⟩):qHp X A b=some cs:=by unfold qHp;rw[h]
theorem Aj1{X:Nat->Prop}{A:AS}{b f base:Nat}{cs:List V}(h:A.blk[b]?=some ⟨cs,.arr f base⟩)(hX:¬X f):qHp X A b=some cs:=by unfold qHp;rw[h];simp only[if_neg hX]
theorem Ab5(X:Nat->Prop)(A:AS):(qHp X A).on A:=by
 intro b cs h
 rcases AI4 h with h |⟨f,base,h,_⟩
 . exact⟨_,h⟩
 . exact⟨_,h⟩
theorem Bp1(X:Nat->Prop)(A:AS):(qHp X A).le (dq A):=by
 intro b cs h
 unfold dq
 rcases AI4 h with h |⟨f,base,h,_⟩<;>rw[h]
theorem Bp2(X:Nat->Prop)(A:AS):(iX A).le (qHp X A):=by
 intro b cs h
 unfold iX at h
 split at h
 . rename_i c hb;cases h;exact A94 hb
 . simp at h
theorem Ae8{X Y:Nat->Prop}{A:AS}(h:∀f,Y f->X f):(qHp X A).le (qHp Y A):=by
 intro b cs q
 rcases AI4 q with q |⟨f,base,q,hn⟩
 . exact A94 q
 . exact Aj1 q fun z=>hn (h f z)
def Tch(X:Nat->Prop)(A:AS)(S:Loc->Prop):Prop:=∀b k,S (.row b)->A.blk[b]?=some k->k.kind=.var∨∃f base,k.kind=.arr f base/\X f
theorem Tch.s0{X:Nat->Prop}{A:AS}:Tch X A S0:=fun _ _ q=>q.elim
theorem Tch.box{X:Nat->Prop}{A:AS}{b:Nat}{cs:List V}(h:A.blk[b]?=some ⟨cs,.var⟩):Tch X A (·=.row b):=fun i k q hk=>by cases q;rw[h]at hk;cases hk;exact .inl rfl
theorem Tch.fam{X:Nat->Prop}{A:AS}{f:Nat}(h:X f):Tch X A (kD A f):=by
 rintro b k ⟨k',base,h1,h2⟩ hk
 rw[h1]at hk;cases hk
 exact .inr ⟨f,base,h2,h⟩
theorem Tch.mono{X Y:Nat->Prop}{A:AS}{S:Loc->Prop}(h:Tch X A S)(hX:∀f,X f->Y f):Tch Y A S:=fun b k q hk=>(h b k q hk).imp (fun z=>z) fun⟨f,base,z1,z2⟩=>⟨f,base,z1,hX f z2⟩
theorem Ae4{X Y:Nat->Prop}{S:Loc->Prop}{A A':AS}(hf:Fr S A A')(ht:Tch X A S)(hw:WF A)(hY:∀f,Y f->X f∨A.blk.length<=f):(qHp X A).le (qHp Y A'):=by
 intro b cs q
 rcases AI4 q with q |⟨f,base,q,hn⟩
 . refine A94 (hf.row b _ q fun z=>?_)
   rcases ht b _ z q with z |⟨f,base,z,_⟩<;>cases z
 . refine Aj1 (hf.row b _ q fun z=>?_) fun z=>?_
   . rcases ht b _ z q with z |⟨f',base',z,z'⟩
     . cases z
     . cases z;exact hn z'
   . rcases hY f z with z |z
     . exact hn z
     . have:=hw b _ f base q rfl;omega
theorem Ac8{X:Nat->Prop}{A A':AS}(hf:Fr S0 A A'):(qHp X A).le (qHp X A'):=by
 intro b cs q
 rcases AI4 q with q |⟨f,base,q,hn⟩
 . exact A94 (hf.row b _ q fun z=>z)
 . exact Aj1 (hf.row b _ q fun z=>z) hn
def aL{τ:Type}(E:Enc τ)(m:Hp)(cs:List V)(l:List τ):Prop:=cs.length=l.length*E.sz/\∀(i:Nat) x,l[i]?=some x->E.R m ((cs.drop (i*E.sz)).take E.sz) x
section
variable {τ:Type} {E:Enc τ} {m m':Hp} {cs cs':List V} {l l':List τ}
theorem aL.mono(hm:m.le m')(h:aL E m cs l):aL E m' cs l:=⟨h.1,fun i x q=>E.mono hm (h.2 i x q)⟩
theorem aL.nil:aL E m [] []:=⟨by simp,fun i x q=>by simp at q⟩
theorem aL.single{x:τ}(h:E.R m cs x):aL E m cs [x]:=by
 have hl:=E.len h
 refine⟨by simp[hl],fun i y q=>?_⟩
 cases i with
 |zero=>cases q;rw[Nat.zero_mul,List.drop_zero,<- hl,List.take_length];exact h
 |succ i=>simp at q
theorem aL.app(h:aL E m cs l)(h':aL E m cs' l'):aL E m (cs++cs') (l++l'):=by
 refine⟨by rw[List.length_append,List.length_append,h.1,h'.1,Nat.add_mul],fun i x q=>?_⟩
 rcases Nat.lt_or_ge i l.length with z |z
 . rw[List.getElem?_append_left z]at q
   have h1:i*E.sz+E.sz<=cs.length:=by rw[h.1,<- Nat.succ_mul];exact Nat.mul_le_mul_right _ z
   rw[List.drop_append_of_le_length (by omega),List.take_append_of_le_length (by rw[List.length_drop];omega)]
   exact h.2 i x q
 . rw[List.getElem?_append_right z]at q
   have h1:cs.length<=i*E.sz:=by rw[h.1];exact Nat.mul_le_mul_right _ z
   have h2:i*E.sz-cs.length=(i-l.length)*E.sz:=by rw[h.1,Nat.sub_mul]
   rw[List.drop_append,List.drop_eq_nil_of_le h1,List.nil_append,h2]
   exact h'.2 _ x q
theorem aL.take(h:aL E m cs l)(n:Nat)(hn:n<=l.length):aL E m (cs.take (n*E.sz)) (l.take n):=by
 have h1:n*E.sz<=cs.length:=by rw[h.1];exact Nat.mul_le_mul_right _ hn
 refine⟨by rw[List.length_take,List.length_take];rw[Nat.min_eq_left h1,Nat.min_eq_left hn],fun i x q=>?_⟩
 have hi:i<n:=by
  have:=(LG.1 q).1
  rw[List.length_take]at this;omega
 rw[List.getElem?_take_of_lt hi]at q
 have h2:i*E.sz+E.sz<=n*E.sz:=by rw[<- Nat.succ_mul];exact Nat.mul_le_mul_right _ hi
 rw[List.drop_take,List.take_take,Nat.min_eq_left (by omega)]
 exact h.2 i x q
theorem aL.drop(h:aL E m cs l)(n:Nat):aL E m (cs.drop (n*E.sz)) (l.drop n):=by
 refine⟨by rw[List.length_drop,List.length_drop,h.1,Nat.sub_mul],fun i x q=>?_⟩
 rw[List.getElem?_drop]at q
 rw[List.drop_drop,<- Nat.add_mul]
 exact h.2 _ x q
theorem aL.jD:∀{l:List τ} {cs:List V},aL E m cs l->cs.all V.one=true
 |[],cs,h=>by
  have:cs=[]:=List.eq_nil_of_length_eq_zero (by rw[h.1];simp)
  subst this;rfl
 |x::l,cs,h=>by
  have h1:=h.2 0 x rfl
  rw[Nat.zero_mul,List.drop_zero]at h1
  have h2:aL E m (cs.drop E.sz) l:=by have:=h.drop 1;rwa[Nat.one_mul]at this
  rw[<- List.take_append_drop E.sz cs,List.all_append,E.jD h1,h2.jD];rfl
theorem Slc.src{P:Program}{tx el:TypeId}{v:V}{A:AS}(hu:P.underlying tx=some (.slice el))(h:Slc E m v l)(hm:m.on A):∃cs,fR P tx E.sz v A=some (l.length,cs)/\aL E m cs l:=by
 rcases h with⟨rfl,rfl⟩ |⟨b,o,cs,rfl,h2,h3,h4⟩
 . exact⟨[],A47 hu,.nil⟩
 . refine⟨(cs.drop o).take (l.length*E.sz),?_,?_,fun i x hx=>?_⟩
   . unfold fR
     simp only[hu,if_true]
     rw[hm.range h2 h3];rfl
   . rw[List.length_take,List.length_drop];omega
   . have hi:=(LG.1 hx).1
     have h5:i*E.sz+E.sz<=l.length*E.sz:=by rw[<- Nat.succ_mul];exact Nat.mul_le_mul_right _ hi
     rw[List.drop_take,List.take_take,Nat.min_eq_left (by omega),List.drop_drop]
     exact h4 i x hx
end
def aI(A:AS):Option Nat->Loc->Prop
 |none=>S0
 |some f=>kD A f
def su(A:AS)(v:V)(n sz:Nat)(cs:List V)(fo:Option Nat):Prop:=(v=.ah/\n=0/\cs=[]/\fo=none)∨∃f,fo=some f/\Part A v n sz cs f
def Lst{τ:Type}(E:Enc τ)(m:Hp)(A:AS)(v:V)(l:List τ)(fo:Option Nat):Prop:=∃cs,aL E m cs l/\su A v l.length E.sz cs fo
def Off(fo:Option Nat)(A:AS)(S:Loc->Prop):Prop:=∀b,S (.row b)->∀f k base,fo=some f->A.blk[b]?=some k->k.kind≠.arr f base
theorem Off.s0{fo:Option Nat}{A:AS}:Off fo A S0:=fun _ q=>q.elim
theorem Off.box{fo:Option Nat}{A:AS}{b:Nat}{cs:List V}(h:A.blk[b]?=some ⟨cs,.var⟩):Off fo A (·=.row b):=fun i q f k base _ hk=>by cases q;rw[h]at hk;cases hk;simp
theorem Off.or{fo:Option Nat}{A:AS}{S T:Loc->Prop}(h:Off fo A S)(k:Off fo A T):Off fo A (fun x=>S x∨T x):=fun b q=>q.elim (h b) (k b)
theorem Off.tch{fo:Option Nat}{A:AS}{X:Nat->Prop}{S:Loc->Prop}(h:Tch X A S)(hX:∀f,fo=some f->¬X f):Off fo A S:=fun b q f k base hfo hk hf=>by
 rcases h b k q hk with z |⟨g,base',z,z'⟩
 . rw[hf]at z;cases z
 . rw[hf]at z;cases z;exact hX f hfo z'
theorem Off.fam{fo:Option Nat}{A:AS}{g:Nat}(h:fo≠some g):Off fo A (kD A g):=by
 rintro b ⟨k',base',z1,z2⟩ f k base hfo hk hf
 rw[z1]at hk;cases hk
 rw[z2]at hf;cases hf
 exact h hfo
def Gr(A:AS)(fo fo':Option Nat):Prop:=fo'=fo∨fo=none/\∃f,fo'=some f/\A.blk.length<=f
theorem Gr.da{A:AS}{fo:Option Nat}:Gr A fo fo:=.inl rfl
theorem Gr.trans{A B:AS}{f1 f2 f3:Option Nat}(h:Gr A f1 f2)(k:Gr B f2 f3)(hl:A.blk.length<=B.blk.length):Gr A f1 f3:=by
 rcases k with rfl |⟨rfl,f,rfl,k⟩
 . exact h
 . rcases h with rfl |⟨_,g,q,_⟩
   . exact .inr ⟨rfl,f,rfl,by omega⟩
   . cases q
theorem Gr.or{A:AS}{fo fo':Option Nat}(h:Gr A fo fo'){f:Nat}(hf:fo'=some f):fo=some f∨A.blk.length<=f:=by
 rcases h with rfl |⟨rfl,g,rfl,h⟩
 . exact .inl hf
 . cases hf;exact .inr h
theorem Gr.from{A B:AS}{f1 f2:Option Nat}(h:Gr B f1 f2)(hl:A.blk.length<=B.blk.length):Gr A f1 f2:=Gr.da.trans h hl
section
variable {τ:Type} {E:Enc τ} {m m':Hp} {A A':AS} {v x:V} {l l':List τ} {fo:Option Nat} {P:Program} {t tx e:TypeId} {bt:Nat}
theorem Lst.mono(h:Lst E m A v l fo)(hm:m.le m'):Lst E m' A v l fo:=by
 obtain⟨cs,h1,h2⟩:=h;exact⟨cs,h1.mono hm,h2⟩
theorem Lst.nil:Lst E m A .ah [] none:=⟨[],.nil,.inl ⟨rfl,rfl,rfl,rfl⟩⟩
theorem Lst.fr{S:Loc->Prop}(h:Lst E m A v l fo)(hf:Fr S A A')(hs:Off fo A S):Lst E m A' v l fo:=by
 obtain⟨cs,h1,h2 |⟨f,rfl,h2⟩⟩:=h
 . exact⟨cs,h1,.inl h2⟩
 . exact⟨cs,h1,.inr ⟨f,rfl,h2.fr hf fun b q k base=>hs b q f k base rfl⟩⟩
theorem Lst.fr0(h:Lst E m A v l fo)(hf:Fr S0 A A'):Lst E m A' v l fo:=h.fr hf .s0
theorem Lst.form(h:Lst E m A v l fo):v=.ah∨∃b o n z,v=.sl b o n z:=by
 obtain⟨cs,h1,⟨rfl,_⟩ |⟨f,rfl,h2⟩⟩:=h
 . exact .inl rfl
 . exact .inr h2.form
theorem Lst.one(h:Lst E m A v l fo):v.one=true:=by
 rcases h.form with rfl |⟨_,_,_,_,rfl⟩<;>rfl
theorem Lst.nO(h:Lst E m A v l fo):v.cells=some [v]:=Ad5 h.one
theorem Lst.bO(h:Lst E m A v l fo):∀f,fo=some f->f<A.blk.length:=by
 rintro f rfl
 obtain⟨cs,h1,⟨_,_,_,q⟩ |⟨f',q,h2⟩⟩:=h
 . cases q
 . cases q;exact h2.fam
theorem Lst.len(h:Lst E m A v l fo)(hu:P.underlying t=some (.slice e))(B:AS):dr P t v B=some (.int .i64 l.length):=by
 obtain⟨cs,h1,⟨rfl,q1,q2,q3⟩ |⟨f,rfl,h2⟩⟩:=h
 . unfold dr;rw[hu,q1];rfl
 . exact h2.tD hu B
theorem Lst.slc{m0:Hp}(h:Lst E m A v l fo)(hm:m.le m0)(h0:∀b cs f base,fo=some f->A.blk[b]?=some ⟨cs,.arr f base⟩->m0 b=some cs):Slc E m0 v l:=by
 obtain⟨cs,h1,⟨rfl,q1,q2,q3⟩ |⟨f,rfl,p1,p2,p3,b,o,k,base,rfl,p5,p6,p7,p8⟩⟩:=h
 . exact .inl ⟨rfl,List.eq_nil_of_length_eq_zero q1⟩
 . obtain⟨kc,kk⟩:=k
   simp only[]at p6 p7 p8
   subst p6
   refine .inr ⟨b,o,kc,rfl,h0 b kc f base rfl p5,p7,fun i y hy=>?_⟩
   have:=E.mono hm (h1.2 i y hy)
   have hi:=(LG.1 hy).1
   have h5:i*E.sz+E.sz<=l.length*E.sz:=by rw[<- Nat.succ_mul];exact Nat.mul_le_mul_right _ hi
   rw[<- p8,List.drop_take,List.take_take,Nat.min_eq_left (by omega),List.drop_drop]at this
   exact this
theorem Lst.gK(h:Lst E m A v l fo)(hm:m.le (dq A)):Slc E (dq A) v l:=h.slc hm fun b cs f base _ q=>by unfold dq;rw[q]
theorem Lst.mO{X:Nat->Prop}(h:Lst E m A v l fo)(hm:m.le (qHp X A))(hX:∀f,fo=some f->¬X f):Slc E (qHp X A) v l:=h.slc hm fun b cs f base q z=>Aj1 z (hX f q)
theorem Lst.at(h:Lst E m A v l fo)(hm:m.on A)(hu:P.underlying t=some (.slice e))(hs:szT P e=some E.sz)(ha:aH P e=some E.agg){i:Nat}{x:τ}{k:IntKind}(hx:l[i]?=some x):
 ∃b o w,aj P t v (.int k (i:Int))=some (.ptr b o)/\aa P e (.ptr b o) A=some w/\E.W m w x:=by
 obtain⟨cs,h1,⟨rfl,q1,q2,q3⟩ |⟨f,rfl,p1,p2,p3,b,o,k',base,rfl,p5,p6,p7,p8⟩⟩:=h
 . rw[List.eq_nil_of_length_eq_zero q1]at hx;simp at hx
 . have hi:=(LG.1 hx).1
   have h5:i*E.sz+E.sz<=l.length*E.sz:=by rw[<- Nat.succ_mul];exact Nat.mul_le_mul_right _ hi
   have h6:=h1.2 i x hx
   rw[<- p8,List.drop_take,List.take_take,Nat.min_eq_left (by omega),List.drop_drop]at h6
   have hle:m.le (m.put b k'.cells):=fun j c q=>by
    unfold Hp.put
    by_cases z:j=b
    . subst z
      obtain⟨kk,hk⟩:=hm j c q
      rw[p5]at hk;cases hk;simp
    . rw[if_neg z];exact q
   obtain⟨w,y1,y2⟩:=AY4 (P:=P) (e:=e) (E:=E) (x:=x) (hm.put p5) (Hp.iT m b k'.cells) (o:=o+i*E.sz) (by omega) (E.mono hle h6) hs ha
   obtain⟨c',z1,z2⟩:=y2.cells
   refine⟨b,o+i*E.sz,w,?_,y1,?_⟩
   . unfold aj
     simp only[hu,hs]
     rw[if_pos (by refine⟨?_,?_,?_⟩<;>first |trivial |omega)]
     simp
   ·
    cases hg:E.agg with
    |true =>
     unfold Enc.W at y2 ⊢
     rw[if_pos hg]at y2 ⊢
     obtain⟨d,rfl,_⟩:=y2
     refine⟨d,rfl,?_⟩
     rw[Aq4 (by rw[ha,hg]) hs]at y1
     unfold AS.range at y1
     rw[p5]at y1
     simp only[]at y1
     rw[if_pos (by omega)]at y1
     simp only[Option.map_some,Option.some.injEq,V.agg.injEq]at y1
     rw[<- y1];exact h6
    |false =>
     unfold Enc.W
     rw[if_neg (by simp[hg])]
     have e1:=E.one hg
     rw[Ae3 (by rw[ha,hg]),Ah8 p5]at y1
     rw[e1,List.take_one,List.head?_drop]at h6
     rw[e1]at y1
     rw[y1]at h6
     exact h6
theorem Lst.empty(hw:WF A):Lst E m (A.push ⟨[],.arr A.blk.length 0⟩) (.sl A.blk.length 0 0 E.sz) [] (some A.blk.length):=
 ⟨[],.nil,.inr ⟨_,rfl,by simp,rfl,by rw[Ad4];omega,A.blk.length,0,⟨[],.arr A.blk.length 0⟩,0,rfl,Ab9 A _,rfl,by simp,by simp⟩⟩
theorem Lst.row{cs:List V}(hc:aL E m cs l):Lst E m (A.push ⟨cs,.arr A.blk.length 0⟩) (.sl A.blk.length 0 l.length E.sz) l (some A.blk.length):=
 ⟨cs,hc,.inr ⟨_,rfl,hc.1,hc.jD,by rw[Ad4];omega,A.blk.length,0,⟨cs,.arr A.blk.length 0⟩,0,rfl,Ab9 A _,rfl,by simp[hc.1],by rw[List.drop_zero,<- hc.1,List.take_length]⟩⟩
theorem Lst.app(h:Lst E m A v l fo)(hT:SlT P t e E.sz bt)(hw:WF A){cs':List V}(fQ:fR P tx E.sz x A=some (l'.length,cs'))(hc:aL E m cs' l')
 (hbound:(l.length+l'.length)*bt<=140737488355328) (dk:l.length+l'.length<=4611686018427387903):
 ∃v' A' fo',aR P t tx v x A=some (v',A')/\Lst E m A' v' (l++l') fo'/\Fr (aI A fo) A A'/\Gr A fo fo':=by
 obtain⟨cs,h1,⟨rfl,q1,q2,rfl⟩ |⟨f,rfl,h2⟩⟩:=h
 . have hl:l=[]:=List.eq_nil_of_length_eq_zero q1
   subst hl
   simp only[List.length_nil,Nat.zero_add,List.nil_append]at hbound dk ⊢
   by_cases h0:l'.length=0
   . have:l'=[]:=List.eq_nil_of_length_eq_zero h0
     subst this
     obtain⟨zc,z1,z2⟩:=hT.z
     obtain⟨z,hz⟩:∃z,E.sz=z+1:=⟨E.sz-1,by have:=hT.pos;omega⟩
     refine⟨.ah,A,none,?_,.nil,.refl _ A,.inl rfl⟩
     rw[Ah0 hT.u (by rw[hT.s,hz]) hT.b z1 (by omega) (by rw[<- hz];exact fQ) hc.jD]
     simp
   . obtain⟨v',A',p1,p2,p3⟩:=Part.first hT fQ hc.1 h0 hc.jD hbound dk
     exact⟨v',A',_,p1,⟨cs',hc,.inr ⟨_,rfl,p2⟩⟩,p3,.inr ⟨rfl,_,rfl,Nat.le_refl _⟩⟩
 . obtain⟨v',A',p1,p2,p3⟩:=h2.append hT hw fQ hc.1 hc.jD hbound dk
   exact⟨v',A',_,p1,⟨cs++cs',h1.app hc,.inr ⟨f,rfl,by rw[List.length_append];exact p2⟩⟩,p3,.inl rfl⟩
theorem Lst.push{n:Nat}(hn:E.sz=n){y:τ}{cs':List V}(h:Lst E m A v l fo)(hT:SlT P t e n bt)(hT2:P.underlying tx=some (.slice e))(hw:WF A)(hy:E.R m cs' y)
 (hbound:(l.length+1)*bt<=140737488355328) (dk:l.length+1<=4611686018427387903):
 ∃v' A' fo',aR P t tx v (.sl A.blk.length 0 1 n) (A.push ⟨cs',.arr A.blk.length 0⟩)=some (v',A')/\Lst E m A' v' (l++[y]) fo'/\Fr (aI A fo) A A'/\Gr A fo fo':=by
 subst hn
 have q1:=Fr.aF A cs'
 have q2:=Ab9 A ⟨cs',.arr A.blk.length 0⟩
 have hc:=aL.single hy
 obtain⟨v',A',fo',p1,p2,p3,p4⟩:=(h.fr0 q1).app (x:=.sl A.blk.length 0 1 E.sz) (tx:=tx) hT (q1.wf hw) (AS0 hT2 q2 hc.1) hc hbound dk
 refine⟨v',A',fo',p1,p2,?_,p4.from q1.len⟩
 refine(q1.mono fun _ q=>q.elim:Fr (aI A fo) A _).trans p3 fun z hz=>?_
 cases fo with
 |none=>exact hz.elim
 |some f =>
  cases z with
  |row b =>
   obtain⟨k,base,z1,z2⟩:=hz
   rw[Ad2]at z1
   split at z1
   . rename_i hb
     right;subst hb;exact Nat.le_refl _
   . exact .inl ⟨k,base,z1,z2⟩
  |fam g=>exact .inl hz
  |map r=>exact hz.elim
  |loop r=>exact hz.elim
  |it r=>exact hz.elim
theorem Ae7{S:Loc->Prop}(hf:Fr S A A'){z:Loc}(h:aI A' fo z):aI A fo z∨z.dK A:=by
 cases fo with
 |none=>exact h.elim
 |some f =>
  cases z with
  |row b =>
   obtain⟨k,base,z1,z2⟩:=h
   rcases Nat.lt_or_ge b A.blk.length with q |q
   . obtain⟨cs,q1,q2⟩:=hf.kind b _ (LH q)
     rw[z1]at q1;cases q1
     exact .inl ⟨_,base,LH q,z2⟩
   . exact .inr q
  |fam g=>exact .inl h
  |map r=>exact h.elim
  |loop r=>exact h.elim
  |it r=>exact h.elim
theorem Tch.lX{X:Nat->Prop}(h:∀f,fo=some f->X f):Tch X A (aI A fo):=by
 cases fo with
 |none=>exact .s0
 |some f=>exact .fam (h f rfl)
theorem Ab0{b:Nat}{cs:List V}(hb:A.blk[b]?=some ⟨cs,.var⟩):¬aI A fo (.row b):=by
 cases fo with
 |none=>exact fun q=>q
 |some f=>rintro⟨k,base,z1,z2⟩;rw[hb]at z1;cases z1;cases z2
theorem Fr.eh{B C:AS}(hf:Fr S0 A B)(hw:WF A)(p:Fr (aI B fo) B C)(hfo:∀f,fo=some f->A.blk.length<=f):Fr S0 A C:=by
 refine hf.trans p fun z q=>(Ae7 hf q).elim (fun q=>?_) .inr
 cases fo with
 |none=>exact q.elim
 |some f =>
  have hlo:=hfo f rfl
  cases z with
  |row b=>obtain⟨k,base,z1,z2⟩:=q;have:=hw b k _ base z1 z2;omega
  |fam g=>right;show A.blk.length<=g;rw[show g=f from q];exact hlo
  |map r=>exact q.elim
  |loop r=>exact q.elim
  |it r=>exact q.elim
theorem Lst.to3(h:Lst E m A v l fo)(hu:P.underlying t=some (.slice e))(hs:szT P e=some E.sz){hi:Nat}(h1:hi<=l.length){kh km:IntKind}(B:AS):
 ∃w,aE P t v none (some (.int kh hi)) (some (.int km hi)) B=some w/\Lst E m A w (l.take hi) fo:=by
 obtain⟨cs,h2,⟨rfl,q1,q2,q3⟩ |⟨f,rfl,h3⟩⟩:=h
 . have hl:l=[]:=List.eq_nil_of_length_eq_zero q1
   subst hl
   have:hi=0:=by simp at h1;exact h1
   subst this
   refine⟨.ah,by unfold aE;simp[hu,hs,aV],⟨[],by simpa using aL.nil,.inl ⟨rfl,by simp,rfl,q3⟩⟩⟩
 . obtain⟨w,p1,p2⟩:=h3.qD (P:=P) hu hs h1 (kh:=kh) (km:=km) B
   exact⟨w,p1,_,h2.take hi h1,.inr ⟨f,rfl,by rw[List.length_take,Nat.min_eq_left h1];exact p2⟩⟩
theorem Lst.sv(h:Lst E m A v l fo)(hu:P.underlying t=some (.slice e))(hs:szT P e=some E.sz){lo:Nat}(h1:lo<=l.length){kl:IntKind}(B:AS):
 ∃w,aE P t v (some (.int kl lo)) none none B=some w/\Lst E m A w (l.drop lo) fo:=by
 obtain⟨cs,h2,⟨rfl,q1,q2,q3⟩ |⟨f,rfl,h3⟩⟩:=h
 . have hl:l=[]:=List.eq_nil_of_length_eq_zero q1
   subst hl
   have:lo=0:=by simp at h1;exact h1
   subst this
   refine⟨.ah,by unfold aE;simp[hu,hs,aV],⟨[],by simpa using aL.nil,.inl ⟨rfl,by simp,rfl,q3⟩⟩⟩
 . obtain⟨w,p1,p2⟩:=h3.oY (P:=P) hu hs h1 (kl:=kl) B
   exact⟨w,p1,_,h2.drop lo,.inr ⟨f,rfl,by rw[List.length_drop];exact p2⟩⟩
theorem Lst.src(h:Lst E m A v l fo)(hu:P.underlying tx=some (.slice e)):∃cs,fR P tx E.sz v A=some (l.length,cs)/\aL E m cs l:=by
 obtain⟨cs,h1,⟨rfl,q1,q2,q3⟩ |⟨f,rfl,h2⟩⟩:=h
 . exact⟨[],by rw[A47 hu,q1],by subst q2;exact h1⟩
 . exact⟨cs,h2.src hu,h1⟩
end
end Go.Sv
namespace Go.Sv
open Go
def o8{τ:Type}(P:Program)(H:Hints)(h:FuncId)(first cap:List V)(A0:AS)(S T:Loc->Prop)(K:Nat->Prop)(Fin:AS->Prop)(AR:AS->AS->List V->τ->Prop)(xs:List τ):Prop :=
 ∀(l:Nat) (J D:Nat->AS->Prop),
  (∀i x A A1 args,xs[i]?=some x->J i A->Fr T A A1->Fr S A0 A1->AR A A1 args x->∃b A',EvY P H l args A1 (.bool b) A'/\Fr S A1 A'/\(b=true->J (i+1) A'/\∀r,K r->A'.blk[r]?=A1.blk[r]?)/\(b=false->D i A')) ->
  J 0 A0->∃v A',EvF P H h (first++[.yield l]++cap) A0 v A'/\Fr S A0 A'/\((∃A2,J xs.length A2/\Fr T A2 A'/\Fin A')∨∃i A2,i<xs.length/\D i A2/\Fr S0 A2 A')
section
variable {P:Program} {H:Hints} {f:FuncId} {nt:Nat} {k:List Kt} {e:Env} {A:AS} {Q:Ex->Env->AS->Prop}
theorem AI5{τ:Type}{g:Operand}{ps:Array Tmp}{as bd:Code}{h:FuncId}{first cap:List V}{S T:Loc->Prop}{K:Nat->Prop}{Fin:AS->Prop}{AR:AS->AS->List V->τ->Prop}{xs:List τ}{fn:Func}
 (I:Nat->AS->Prop) (D:Ex->AS->Prop)
 (hg:e.eval g=some (.fn h first cap)) (hl:¬S (.loop A.loops.length)) (hT:¬T (.loop A.loops.length))
 (hgo:∀A0,Fr S0 A A0->A0.blk=A.blk->o8 P H h first cap A0 (bS S A.loops.length) T K Fin AR xs) (hI:I 0 A)
 (hIs:∀i A1 A',I i A1->Fr (·=.loop A.loops.length) A1 A'->I i A')
 (hDs:∀x A1 A',D x A1->Fr (·=.loop A.loops.length) A1 A'->D x A')
 (hf:P.funcs[f]?=some fn) (hnt:fn.ntmps=nt) (hps:ps.toList.all (fun p=>decide (p<nt))=true)
 (gY:∀i x A1 A2 args,xs[i]?=some x->I i A1->Fr T A1 A2->Fr (bS S A.loops.length) A A2->AR A1 A2 args x->∃e0,ca e ps.toList args=some e0 /\
  Run P H f nt [.code as] .normal e0 A2 fun x e1 A1'=>Is x .normal/\Fr S A2 A1'/\∀A1b,Fr (·=.loop A.loops.length) A1' A1b ->
   Run P H f nt [.code bd] .normal e1 A1b fun x e2 A3=>Fr S A1b A3/\((Is x .normal/\I (i+1) A3/\∀r,K r->A3.blk[r]?=A2.blk[r]?)∨(x≠.normal/\D x A3)))
 (ga:∀A2 A3,I xs.length A2->Fr (fun x=>T x∨x=.loop A.loops.length) A2 A3->(∃A',Fin A'/\Fr (·=.loop A.loops.length) A' A3)->Fr S A A3->Run P H f nt k .normal e A3 Q)
 (nh:∀x A3,x≠.normal->D x A3->Fr S A A3->Run P H f nt k x e A3 Q):Run P H f nt (.code (.rangeFunc g ps as bd)::k) .normal e A Q:=by
 subst hnt
 generalize hlen:A.loops.length=l at *
 let R:ez:=⟨.ready,none,f,e,ps.toList,as,bd⟩
 have hA0:Fr S0 A (A.aS R):=Fr.aS A R
 have lJ:(A.aS R).loops[l]?=some R:=by rw[<- hlen];exact Ar8 A R
 have one:∀{B C:AS},Fr S0 B C->Fr (·=.loop l) B C:=fun q=>q.mono fun _ z=>z.elim
 have eN:∀{B C:AS} {r:ez},B.loops[l]?=some r->Fr S B C->C.loops[l]?=some r:=fun q z=>z.loop l _ q hl
 obtain⟨v,A2,h1,h2,h3⟩:=hgo (A.aS R) hA0 rfl l (fun i B=>I i B/\B.loops[l]?=some R) (fun i B=>∃(x:Ex) (c:Code),x≠.normal/\bX x=some c/\D x B/\B.loops[l]?=some { R with state:=.done,pending:=some c })
  (fun i x C B args hx hJ hCB hF hAR=>by
   obtain⟨e0,q1,q2⟩:=gY i x C B args hx hJ.1 hCB (hA0.jL hF) hAR
   have hlB:B.loops[l]?=some R:=hCB.loop l _ hJ.2 hT
   obtain⟨v,C,y1,b,y2,y3,y4,y5⟩:=AR5 (P:=P) (H:=H) (A:=B) (l:=l) (args:=args) (fn:=fn) (e0:=e0) (r:=R)
    (Q:=fun v C=>∃b,v=.bool b/\Fr (bS S l) B C/\(b=true->(I (i+1) C/\C.loops[l]?=some R)/\∀r,K r->C.blk[r]?=B.blk[r]?) /\
     (b=false->∃(x:Ex) (c:Code),x≠.normal/\bX x=some c/\D x C/\C.loops[l]?=some { R with state:=.done,pending:=some c })) hlB hf q1 hps
    (Ad7 q2 fun y e1 B1 ⟨z1,z2,z3⟩=>by
     refine⟨z1,R,eN hlB z2,rfl,Ad7 (z3 _ (Fr.ay B1 l _)) fun y e2 B2 ⟨w1,w2⟩=>?_⟩
     have g1:=Ae0 (r':={ R with state:=.busy }) (eN hlB z2)
     have g2:=eN g1 w1
     have fr:Fr (bS S l) B (B2.ay l { R with state:=if (bX y).isNone then .ready else .done,pending:=bX y }):=
      (((z2.mono fun _ q=>.inl q).trans (Fr.ay B1 l _) fun _ q=>.inl (.inr q)).trans w1 fun _ q=>.inl (.inl q)).trans (Fr.ay B2 l _) fun _ q=>.inl (.inr q)
     refine⟨_,g2,_,rfl,fr,fun hb=>?_,fun hb=>?_⟩
     . rcases w2 with⟨rfl,w2,w3⟩ |⟨w0,w2⟩
       . exact⟨⟨hIs _ _ _ w2 (Fr.ay B2 l _),Ae0 g2⟩,w3⟩
       . cases y with
         |normal=>exact absurd rfl w0
         |exit id=>simp[bX]at hb
         |ret=>simp[bX]at hb
     . rcases w2 with⟨rfl,w2,w3⟩ |⟨w0,w2⟩
       . simp[bX]at hb
       . cases y with
         |normal=>exact absurd rfl w0
         |exit id=>exact⟨_,_,w0,rfl,hDs _ _ _ w2 (Fr.ay B2 l _),Ae0 g2⟩
         |ret=>exact⟨_,_,w0,rfl,hDs _ _ _ w2 (Fr.ay B2 l _),Ae0 g2⟩)
   subst y2
   exact⟨b,C,y1,y3,y4,y5⟩) ⟨hIs _ _ _ hI (one hA0),lJ⟩
 have fH:∀r,Fr S A (A2.ay l r):=fun r =>
  (((hA0.mono fun _ q=>q.elim:Fr S A _).trans h2 fun x q=>q.elim .inl fun w=>.inr (by subst w;simp only[Loc.dK];omega))).trans (Fr.ay A2 l r) fun x w=>.inr (by subst w;simp only[Loc.dK];omega)
 rcases h3 with⟨A3,⟨h3,h4⟩,h6,h5⟩ |⟨i,A3,hi,⟨x,c,hx,hc,h3,h4⟩,h6⟩
 . have h4':A2.loops[l]?=some R:=h6.loop l _ h4 hT
   refine Ao6 (v:=v) (A2:=A2) (r:=R) hg (by rw[hlen];exact h1) (by rw[hlen];exact h4') (by simp[R]) ?_
   show Run P H f fn.ntmps k .normal e _ Q
   rw[hlen]
   exact ga A3 _ h3 ((h6.mono fun _ q=>.inl q).trans (Fr.ay A2 l _) fun _ q=>.inl (.inr q)) ⟨A2,h5,Fr.ay A2 l _⟩ (fH _)
 . have h4':=h6.loop l _ h4 fun q=>q
   refine Ao6 (v:=v) (A2:=A2) (r:={ R with state:=.done,pending:=some c }) hg (by rw[hlen];exact h1) (by rw[hlen];exact h4') (by simp[R]) ?_
   have h7:=hDs _ _ _ h3 ((one h6).thn (Fr.ay A2 l { R with state:=.exhausted,pending:=some c }))
   rw[hlen]
   cases x with
   |normal=>exact absurd rfl hx
   |exit id=>cases hc;exact nh _ _ hx h7 (fH _)
   |ret=>cases hc;exact nh _ _ hx h7 (fH _)
end
theorem At1{P:Program}{A:AS}{x:V}{m:Hp}{l:Bts}{t tx e e':TypeId}{bt:Nat}(hw:WF A)(hT:SlT P t e 1 bt)(hu:P.underlying tx=some (.slice e'))(h:Slc eU8 m x l)(hm:m.on A)(hb1:l.length*bt<=140737488355328)(hb2:l.length<=4611686018427387903):
 ∃b A',aR P t tx (.sl A.blk.length 0 0 1) x (A.push ⟨[],.arr A.blk.length 0⟩)=some (.sl b 0 l.length 1,A')/\A'.blk[b]?=some ⟨bc l,.arr A.blk.length 0⟩/\pt A' b A.blk.length/\A.blk.length<=b/\Fr S0 A A':=by
 have q1:=Fr.aF A []
 have fQ:=Bo2 (P:=P) (tx:=tx) hu h (hm.fr0 q1)
 by_cases h0:l.length=0
 . have:l=[]:=List.eq_nil_of_length_eq_zero h0
   subst this
   refine⟨A.blk.length,_,?_,Ab9 A _,⟨by rw[Ad4];omega,fun i k base' hne hi hk=>?_⟩,Nat.le_refl _,q1⟩
   . obtain⟨zc,z1,z2⟩:=hT.z
     rw[Ah0 (z:=0) hT.u hT.s hT.b z1 z2 fQ (Ac9 [])]
     simp;rfl
   . rw[Ad2,if_neg hne]at hi
     have:=hw i k _ base' hi hk;omega
 . obtain⟨D,p1,p2,p3,p4⟩:=AB8 (P:=P) (tx:=tx) hT hw fQ (Aa7 l) h0 (Ac9 l) hb1 hb2
   exact⟨_,D,p1,p3,p4,by omega,p2⟩
end Go.Sv
namespace Go.Sv
open Go
def ePair{τ σ:Type}(E:Enc τ)(F:Enc σ):Enc (τ×σ):=
 ⟨E.sz+F.sz,true,fun m cs p=>∃c1 c2,cs=c1++c2/\E.R m c1 p.1/\F.R m c2 p.2,
  fun⟨c1,c2,h,h1,h2⟩=>by rw[h,List.length_append,E.len h1,F.len h2],fun h=>by simp at h,
  fun⟨c1,c2,h,h1,h2⟩=>by rw[h,List.all_append,E.jD h1,F.jD h2];rfl,
  fun hm ⟨c1,c2,h,h1,h2⟩=>⟨c1,c2,h,E.mono hm h1,F.mono hm h2⟩⟩
def jr{τ:Type}(E:Enc τ)(fs:List (Sh×Nat×Nat))(off:Nat)(ψ:τ->Prop)(μ:τ->Nat):Prop :=
 ∀(A:AS) (l:List Dat) (vs:List V),l.length=fs.length->vs.length=off+E.sz->(∀(i:Nat) f d,fs[i]?=some f->l[i]?=some d->eS A f.1 d ((vs.drop f.2.1).take f.2.2))->∃x,E.R (iX A) (vs.drop off) x/\ψ x/\μ x<=eJ l
theorem jr.last{τ:Type}{E:Enc τ}{s:Sh}{off n:Nat}{ψ:τ->Prop}{μ:τ->Nat}(h:Reads E s ψ μ)(hn:E.sz=n):jr E [(s,off,n)] off ψ μ:=by
 subst hn
 intro A l vs hl hv hh
 match l,hl with
 |[d],_ =>
  obtain⟨x,h1,h2,h3⟩:=h A d _ (hh 0 _ _ rfl rfl)
  rw[List.take_of_length_le (by rw[List.length_drop];simp only[];omega)]at h1
  exact⟨x,h1,h2,by simp only[eJ];omega⟩
theorem jr.cons{τ σ:Type}{E:Enc τ}{F:Enc σ}{s:Sh}{off n off':Nat}{fs:List (Sh×Nat×Nat)}{ψ:τ->Prop}{μ:τ->Nat}{ψ':σ->Prop}{μ':σ->Nat}(h:Reads E s ψ μ)(hn:E.sz=n)(ho:off+n=off')(k:jr F fs off' ψ' μ'):
 jr (ePair E F) ((s,off,n)::fs) off (fun p=>ψ p.1/\ψ' p.2) (fun p=>μ p.1+μ' p.2):=by
 subst hn;subst ho
 intro A l vs hl hv hh
 match l,hl with
 |d::l,hl =>
  obtain⟨x,h1,h2,h3⟩:=h A d _ (hh 0 _ _ rfl rfl)
  have hv':vs.length=off+E.sz+F.sz:=by rw[hv];show off+(E.sz+F.sz)=_;omega
  obtain⟨y,k1,k2,k3⟩:=k A l vs (by simpa using hl) hv' fun i f d q w=>hh (i+1) f d (by simpa using q) (by simpa using w)
  refine⟨(x,y),⟨_,_,?_,h1,k1⟩,⟨h2,k2⟩,by simp only[eJ];omega⟩
  conv=>lhs;rw[<- List.take_append_drop E.sz (vs.drop off)]
  rw[List.drop_drop]
theorem Reads.struct{τ:Type}{E:Enc τ}{fs:List (Sh×Nat×Nat)}{n:Nat}{ψ:τ->Prop}{μ:τ->Nat}(h:jr E fs 0 ψ μ)(hn:E.sz=n):Reads E (.struct fs n) ψ (fun x=>μ x+1):=by
 subst hn
 intro A d cs hd
 cases hd with
 | @struct fs total l vs hl hv hh =>
  obtain⟨x,h1,h2,h3⟩:=h A l cs hl (by rw[hv,Nat.zero_add]) hh
  rw[List.drop_zero]at h1
  exact⟨x,h1,h2,by simp only[Dat.eL];omega⟩
theorem Reads.weak{τ:Type}{E:Enc τ}{s:Sh}{ψ ψ':τ->Prop}{μ μ':τ->Nat}(h:Reads E s ψ μ)(hp:∀x,ψ x->ψ' x)(hm:∀x,μ' x<=μ x):Reads E s ψ' μ':=by
 intro A d cs hd
 obtain⟨x,h1,h2,h3⟩:=h A d cs hd
 exact⟨x,h1,hp x h2,Nat.le_trans (hm x) h3⟩
end Go.Sv
namespace Go.Sv
open Go
section
variable {P:Program} {H:Hints} {f:FuncId} {nt:Nat}
theorem Ah9:∀{k1 k2:List Kt} {x:Ex} {e:Env} {A:AS} {Q R:Ex->Env->AS->Prop},Run P H f nt k1 x e A R->(∀x e A,R x e A->Run P H f nt k2 x e A Q)->Run P H f nt (k1++k2) x e A Q
 |[],_,_,_,_,_,_,h,hq=>hq _ _ _ h
 |.ops ops r::k,k2,x,e,A,Q,R,h,hq=>by
  cases x
  . exact AR7 (K':=fun e A=>Run P H f nt (k++k2) .normal e A Q) h fun _ _ q=>Ah9 q hq
  all_goals exact Ah9 (k1:=k) h hq
 |.ak ops pl::k,k2,x,e,A,Q,R,h,hq=>by
  cases x
  . exact AR8 (K':=fun e A=>Run P H f nt (k++k2) .normal e A Q) h fun _ _ q=>Ah9 q hq
  all_goals exact Ah9 (k1:=k) h hq
 |.rc ops l::k,k2,x,e,A,Q,R,h,hq=>by
  cases x
  . exact⟨h.1,Ah9 h.2 hq⟩
  all_goals exact Ah9 (k1:=k) h hq
 |.code c::k,k2,x,e,A,Q,R,h,hq=>by
  cases x
  . exact AR9 (Q':=fun x e A=>Run P H f nt (k++k2) x e A Q) h fun _ _ _ q=>Ah9 q hq
  all_goals exact Ah9 (k1:=k) h hq
 |.blk id::k,k2,x,e,A,Q,R,h,hq=>Ah9 (k1:=k) h hq
theorem Bp3{k1 k2:List Kt}{e:Env}{A:AS}{Q:Ex->Env->AS->Prop}{q:Option QR}{d:Option Tmp}(R:Ex->Env->AS->Prop)(h:aG P H f nt q d k1 e A R)(hk:∀x e A,R x e A->Run P H f nt k2 x e A Q):aG P H f nt q d (k1++k2) e A Q:=by
 unfold aG at h ⊢
 split at h
 all_goals first |exact Ah9 h hk |exact h.elim
theorem Bf1{a b:Kt}{k2:List Kt}{e:Env}{A:AS}{Q:Ex->Env->AS->Prop}{q:Option QR}{d:Option Tmp}(R:Ex->Env->AS->Prop)(h:aG P H f nt q d [a,b] e A R)(hk:∀x e A,R x e A->Run P H f nt k2 x e A Q):aG P H f nt q d (a::b::k2) e A Q:=Bp3 (k1:=[a,b]) R h hk
end
def RT:=And.intro RS <| And.intro @BQ2 <| And.intro @Option.bind_some.{0,0} <| And.intro @Option.map_some.{0,0} <| And.intro @if_true.{0} <| And.intro @if_true.{1} <| And.intro @if_false.{0} <| And.intro @if_false.{1} <| And.intro @decide_true <| And.intro @decide_false <| And.intro @true_and <| And.intro @and_true <| And.intro @Bool.not_true <| And.intro @Bool.not_false <| And.intro @Bool.false_eq_true <| And.intro @not_false_eq_true <| And.intro @not_true_eq_false <| And.intro @beq_self_eq_true.{0} <| And.intro @List.getElem?_toArray.{0} <| And.intro @List.getElem?_cons_zero.{0} <| And.intro @List.getElem?_cons_succ.{0} <| And.intro @List.append_nil.{0} <| And.intro @List.nil_append.{0} <| And.intro @List.cons_append.{0} @List.append_eq.{0}
end Go.Sv
namespace Go.Sv
open Go
structure lW(P:Program)(kt:TypeId){κ:Type}[DecidableEq κ](enc:κ->V):Prop where
 ok:∀(k:κ) (es:List ME),(∀e∈es,∃a,e.key=enc a)->gj P kt (enc k) es=true
 eq:∀a b,V.bU (enc a) (enc b)=decide (a=b)
theorem AA2{sh:List CK}:∀{es:List ME},(∀e∈es,(match e.key with |.agg cs=>an sh cs |v=>an sh [v])=true)->gO sh es=true
 |[],_=>rfl
 |e::es,h=>by
  unfold gO
  rw[Bool.and_eq_true]
  exact⟨h e (by simp),AA2 fun x hx=>h x (by simp[hx])⟩
section
variable {κ β:Type} [DecidableEq κ] {enc:κ->V} {ev:β->V}
def aQ(l:List (κ×β))(k:κ):Option β:=match l with
 |[]=>none
 | (a,v)::l=>if k=a then some v else aQ l k
def ee(A:AS)(r:Nat)(enc:κ->V)(ev:β->V)(l:List (κ×β)):Prop:=∃mo,A.maps[r]?=some mo/\mo.es.map (fun e=>(e.key,e.val))=l.map (fun p=>(enc p.1,ev p.2))
omit [DecidableEq κ] in
theorem ee.fr{A A':AS}{r:Nat}{l:List (κ×β)}{S:Loc->Prop}(h:ee A r enc ev l)(hf:Fr S A A')(hs:¬S (.map r)):ee A' r enc ev l:=by
 obtain⟨mo,h1,h2⟩:=h;exact⟨mo,hf.map r mo h1 hs,h2⟩
omit [DecidableEq κ] in
theorem ee.new(A:AS):ee (A.bQ ⟨[],0⟩) A.maps.length enc ev ([]:List (κ×β)):=⟨_,A44 A _,rfl⟩
omit [DecidableEq κ] in
theorem A95{es:List ME}{l:List (κ×β)}(h:es.map (fun e=>(e.key,e.val))=l.map (fun p=>(enc p.1,ev p.2))):∀e∈es,∃a,e.key=enc a:=by
 intro e he
 have:(e.key,e.val)∈l.map (fun p=>(enc p.1,ev p.2)):=by rw[<- h];exact List.mem_map.2 ⟨e,he,rfl⟩
 obtain⟨p,_,q⟩:=List.mem_map.1 this
 exact⟨p.1,by have:=congrArg Prod.fst q;exact this.symm⟩
theorem AI6{P:Program}{kt:TypeId}(hK:lW P kt enc)(k:κ):∀{es:List ME} {l:List (κ×β)},es.map (fun e=>(e.key,e.val))=l.map (fun p=>(enc p.1,ev p.2)) ->
 (aQ l k=none->gN (enc k) es=none)/\∀v,aQ l k=some v->∃e,gN (enc k) es=some e/\e.val=ev v
 |[],[],_=>⟨fun _=>rfl,fun v q=>by simp[aQ]at q⟩
 |e::es,(a,w)::l,h=>by
  simp only[List.map_cons,List.cons.injEq,Prod.mk.injEq]at h
  obtain⟨⟨h1,h2⟩,h3⟩:=h
  obtain⟨i1,i2⟩:=AI6 hK k h3
  unfold gN aQ
  rw[h1,hK.eq]
  by_cases q:k=a
  . simp only[q,decide_true,if_true]
    exact⟨fun z=>by simp at z,fun v z=>⟨e,rfl,by rw[h2];cases z;rfl⟩⟩
  . simp only[q,decide_false,if_false,Bool.false_eq_true]
    exact⟨i1,i2⟩
 |[],_::_,h=>by simp at h
 | _::_,[],h=>by simp at h
theorem ee.look{P:Program}{t kt et:TypeId}{A:AS}{r:Nat}{l:List (κ×β)}(h:ee A r enc ev l)(hK:lW P kt enc)(ht:ia P t=some (kt,et)){z:V}(hz:aC P et=some z)(k:κ)(ok:Bool):
 cL P t (.map r) (enc k) ok A=some (match aQ l k with |some v=>if ok then .tup [ev v,.bool true] else ev v |none=>if ok then .tup [z,.bool false] else z):=by
 obtain⟨mo,h1,h2⟩:=h
 unfold cL
 simp only[ht,h1,Option.map_some,hz]
 rw[if_pos (hK.ok k mo.es (A95 h2))]
 obtain⟨f1,f2⟩:=AI6 hK k h2
 cases q:aQ l k with
 |none=>rw[f1 q]
 |some v=>obtain⟨e,e1,e2⟩:=f2 v q;rw[e1];simp only[e2]
theorem ee.put{P:Program}{t kt et:TypeId}{A:AS}{r:Nat}{l:List (κ×β)}(h:ee A r enc ev l)(hK:lW P kt enc)(ht:ia P t=some (kt,et)){k:κ}(v:β)(hn:aQ l k=none):
 ∃A',aZ P t (.map r) (enc k) (ev v) A=some A'/\Fr (·=.map r) A A'/\ee A' r enc ev (l++[(k,v)]):=by
 obtain⟨mo,h1,h2⟩:=h
 obtain⟨f1,f2⟩:=AI6 hK k h2
 refine⟨A.cY r ⟨mo.es++[⟨enc k,ev v,mo.clock⟩],mo.clock+1⟩,?_,Fr.cY A r _,⟨_,Be6 h1,by simp[h2]⟩⟩
 unfold aZ
 simp only[ht,h1]
 rw[if_pos (hK.ok k mo.es (A95 h2)),f1 hn]
end
end Go.Sv
namespace Go.Sv
open Go
def At(cells:List V)(o:Nat)(m:List V):Prop:=∃pre post,cells=pre++m++post/\pre.length=o
theorem At.all(cells:List V):At cells 0 cells:=⟨[],[],by simp,rfl⟩
theorem At.trans{c m m':List V}{o o':Nat}(h:At c o m)(k:At m o' m'):At c (o+o') m':=by
 obtain⟨p,q,rfl,rfl⟩:=h
 obtain⟨p',q',rfl,rfl⟩:=k
 exact⟨p++p',q'++q,by simp,by simp⟩
theorem At.le{c m:List V}{o:Nat}(h:At c o m):o+m.length<=c.length:=by
 obtain⟨p,q,rfl,rfl⟩:=h
 simp only[List.length_append];omega
theorem At.range{A:AS}{b o n:Nat}{c m:List V}{k:BK}(hb:A.blk[b]?=some ⟨c,k⟩)(h:At c o m)(hn:m.length=n):A.range b o n=some m:=by
 subst hn
 have:=h.le
 obtain⟨p,q,rfl,rfl⟩:=h
 unfold AS.range;rw[hb];simp only[]
 rw[if_pos this]
 simp
theorem At.cell{A:AS}{b o:Nat}{c:List V}{v:V}{k:BK}(hb:A.blk[b]?=some ⟨c,k⟩)(h:At c o [v]):A.cell b o=some v:=by
 obtain⟨p,q,rfl,rfl⟩:=h
 unfold AS.cell;rw[hb]
 simp
theorem At.load{P:Program}{A:AS}{b o n:Nat}{c m:List V}{k:BK}{t:TypeId}(hb:A.blk[b]?=some ⟨c,k⟩)(h:At c o m)(ha:aH P t=some true)(hs:szT P t=some n)(hn:m.length=n):aa P t (.ptr b o) A=some (.agg m):=by
 rw[Aq4 ha hs,h.range hb hn];rfl
theorem At.cC{P:Program}{A:AS}{b o:Nat}{c:List V}{v:V}{k:BK}{t:TypeId}(hb:A.blk[b]?=some ⟨c,k⟩)(h:At c o [v])(ha:aH P t=some false):aa P t (.ptr b o) A=some v:=by
 unfold aa;simp only[ha];exact h.cell hb
theorem AI7(p m m' q:List V)(h:m'.length=m.length):putAt (p++m++q) p.length m'=p++m'++q:=by
 unfold putAt
 rw[show p++m++q=p++(m++q) by simp,List.take_append_of_le_length (Nat.le_refl _),List.take_length,List.drop_append,List.drop_of_length_le (by omega),Nat.add_sub_cancel_left,List.drop_append,h,List.drop_length,Nat.sub_self]
 simp
theorem Ao7{c m x:List V}{o o':Nat}(h:At c o m)(hx:o'+x.length<=m.length):putAt c (o+o') x=putAt c o (putAt m o' x):=by
 obtain⟨p,q,rfl,rfl⟩:=h
 have hl:(putAt m o' x).length=m.length:=Af0 hx
 rw[AI7 p m _ q hl]
 unfold putAt
 rw[show p++m++q=p++(m++q) by simp,List.take_append,List.take_of_length_le (by omega),Nat.add_sub_cancel_left,List.take_append_of_le_length (by omega),Nat.add_assoc,List.drop_append,List.drop_of_length_le (l:=p) (by omega),Nat.add_sub_cancel_left,List.drop_append_of_le_length hx]
 simp
def jJ(l:List Nat)(i:Nat):Nat:=(l.take i).sum
theorem Av3(L:List (List V)):L.flatten.length=(L.map List.length).sum:=by
 induction L with
 |nil=>rfl
 |cons x L ih=>simp[ih]
theorem At.part{L:List (List V)}{i:Nat}{c:List V}(h:L[i]?=some c):At L.flatten (jJ (L.map List.length) i) c:=by
 refine⟨(L.take i).flatten,(L.drop (i+1)).flatten,?_,by rw[Av3,List.map_take];rfl⟩
 have hi:=(LG.1 h).1
 have e:L=L.take i++(c::L.drop (i+1)):=by
  conv=>lhs;rw[<- List.take_append_drop i L]
  rw[List.drop_eq_getElem_cons hi,(LG.1 h).2]
 conv=>lhs;rw[e]
 simp
theorem Ao8{L:List (List V)}{i:Nat}{c c':List V}(h:L[i]?=some c)(hl:c'.length=c.length):putAt L.flatten (jJ (L.map List.length) i) c'=(L.set i c').flatten:=by
 have hi:=(LG.1 h).1
 have e:L=L.take i++(c::L.drop (i+1)):=by
  conv=>lhs;rw[<- List.take_append_drop i L]
  rw[List.drop_eq_getElem_cons hi,(LG.1 h).2]
 have e2:L.flatten=(L.take i).flatten++c++(L.drop (i+1)).flatten:=by
  conv=>lhs;rw[e]
  simp
 have e3:jJ (L.map List.length) i=(L.take i).flatten.length:=by rw[Av3,List.map_take];rfl
 rw[e2,e3,AI7 _ _ _ _ hl,List.set_eq_take_append_cons_drop,if_pos hi]
 simp
def eH(n:Nat)(f:Nat->List V):List V:=((List.range n).map f).flatten
theorem AI8{n k:Nat}{f:Nat->List V}(h:∀i,i<n->(f i).length=k):((List.range n).map f).map List.length=List.replicate n k:=by
 apply List.ext_getElem?;intro i
 rw[List.map_map,List.getElem?_map,List.getElem?_replicate]
 by_cases q:i<n
 . rw[List.getElem?_range q,if_pos q];simp[h i q]
 . rw[List.getElem?_eq_none (by simpa using q),if_neg q];rfl
theorem A96{n k i:Nat}(h:i<=n):jJ (List.replicate n k) i=i*k:=by
 unfold jJ;rw[List.take_replicate,Nat.min_eq_left h];simp
theorem Af5{n k:Nat}{f:Nat->List V}(h:∀i,i<n->(f i).length=k):(eH n f).length=n*k:=by
 unfold eH;rw[Av3,AI8 h];simp
theorem At.rep{n k:Nat}{f:Nat->List V}(h:∀i,i<n->(f i).length=k){i:Nat}(hi:i<n):At (eH n f) (i*k) (f i):=by
 have:=At.part (L:=(List.range n).map f) (i:=i) (c:=f i) (by rw[List.getElem?_map,List.getElem?_range hi];rfl)
 rw[AI8 h,A96 (by omega)]at this
 exact this
theorem Ay0{n k:Nat}{f:Nat->List V}(h:∀i,i<n->(f i).length=k){i:Nat}(hi:i<n){c:List V}(hc:c.length=k):putAt (eH n f) (i*k) c=eH n (fun j=>if j=i then c else f j):=by
 have:=Ao8 (L:=(List.range n).map f) (i:=i) (c:=f i) (c':=c) (by rw[List.getElem?_map,List.getElem?_range hi];rfl) (by rw[hc,h i hi])
 rw[AI8 h,A96 (by omega)]at this
 unfold eH
 rw[this]
 congr 1
 apply List.ext_getElem?;intro j
 rw[List.getElem?_set,List.getElem?_map]
 by_cases q:j<n
 . rw[List.getElem?_range q]
   by_cases w:i=j
   . subst w;simp[q]
   . rw[if_neg w];simp[List.getElem?_range q];intro z;exact absurd z.symm w
 . rw[List.getElem?_eq_none (by simpa using q)]
   have:i≠j:=by omega
   rw[if_neg this];simp[q]
theorem Ao9{n:Nat}{f g:Nat->List V}(h:∀i,i<n->f i=g i):eH n f=eH n g:=by
 unfold eH;congr 1
 apply List.map_congr_left
 intro i hi;exact h i (List.mem_range.1 hi)
theorem Ap0{P:Program}{A:AS}{b o:Nat}{L:List (List V)}{i:Nat}{c cs:List V}{t:TypeId}{x:V}(hb:A.blk[b]?=some ⟨L.flatten,.var⟩)(hi:L[i]?=some c)(ho:jJ (L.map List.length) i=o)(hx:x.cells=some cs)(hl:cs.length=c.length)
 (hs:szT P t=some cs.length) (h1:cs.all V.one=true):∃A',ag P t (.ptr b o) x A=some A'/\Fr (·=.row b) A A'/\A'.blk[b]?=some ⟨(L.set i cs).flatten,.var⟩/\A'.blk.length=A.blk.length:=by
 subst ho
 have hle:=(At.part hi).le
 obtain⟨A',k1,k2,k3,k4⟩:=Ab1 (P:=P) (t:=t) (o:=jJ (L.map List.length) i) hb hx hs (by omega) h1
 exact⟨A',k1,k2,by rw[k3,Ao8 hi hl],k4⟩
theorem Ac3{l:List V}{n:Nat}(h:l.length=n):∃g:Nat->V,l=(List.range n).map g:=by
 refine⟨fun i=>(l[i]?).getD .undef,?_⟩
 apply List.ext_getElem?;intro i
 rw[List.getElem?_map]
 by_cases q:i<n
 . rw[List.getElem?_range q,LH (by omega)];simp[LH (show i<l.length by omega)]
 . rw[List.getElem?_eq_none (by omega),List.getElem?_eq_none (by simpa using q)];rfl
def nwS(c:Nat->Prop)(N:Nat):Loc->Prop
 |.row b=>c b∨N<=b
 |.fam f=>N<=f
 | _=>False
theorem AS2{A B:AS}{c:Nat->Prop}{S:Loc->Prop}(hf:Fr S A B)(hc:∀b,c b->A.blk.length<=b){z:Loc}(h:nwS c B.blk.length z):z.dK A:=by
 have:=hf.len
 cases z with
 |row b=>show A.blk.length<=b;exact h.elim (hc b) (fun q=>Nat.le_trans this q)
 |fam g=>show A.blk.length<=g;have:B.blk.length<=g:=h;omega
 |map r=>exact h.elim
 |loop r=>exact h.elim
 |it r=>exact h.elim
theorem Fr.oz{B C:AS}{c:Nat->Prop}{N:Nat}(h:Fr S0 B C):Fr (nwS c N) B C:=h.mono fun _ q=>q.elim
theorem Ab6{α:Type}{l:List α}{i:Nat}{x:α}(h:l[i]?=some x):l.take (i+1)=l.take i++[x]:=by rw[List.take_add_one,h];rfl
theorem Ad0{P:Program}{ops:Array Oper}{e:Env}{A:AS}{q j d:Nat}{r:List Nat}{dst:Option Tmp}{op:Op}{ty:TypeId}{pos:String}{after:Array Edge}{b want:Bool}(ho:ops[q]?=some ⟨dst,op,ty,pos,after,some (j,want)⟩)
 (hj:(ops[j]?).bind (·.dst)=some d) (hg:e.get d=.bool b) (hb:(b == want)=false) (hr:recheck P ops e A r=true):recheck P ops e A (q::r)=true:=by
 unfold recheck
 rw[ho]
 simp only[aT,hj,hg,hb,hr,Bool.true_and]
theorem Ac4{P:Program}{ops:Array Oper}{e:Env}{A:AS}{q j dj d a:Nat}{r:List Nat}{t:TypeId}{ty:TypeId}{pos:String}{after:Array Edge}{v w:V}{b want:Bool}(ho:ops[q]?=some ⟨some d,.load t (.tmp a),ty,pos,after,some (j,want)⟩)
 (hj:(ops[j]?).bind (·.dst)=some dj) (hg:e.get dj=.bool b) (hb:(b == want)=true) (ha:e.get a=w) (hv:aa P t w A=some v) (hd:e.get d=v) (hr:recheck P ops e A r=true):recheck P ops e A (q::r)=true:=by
 have q1:evQ P ⟨some d,.load t (.tmp a),ty,pos,after,some (j,want)⟩ e A=some (.val v):=by rw[Bn7,Bo3,ha];simp[hv]
 unfold recheck
 rw[ho]
 simp only[aT,hj,hg,hb,hr,q1,hd,V.j9,Bool.and_self]
end Go.Sv
namespace Go.Sv
open Go
section
variable {τ:Type} {E:Enc τ} {m:Hp} {A:AS} {v:V} {l:List τ} {fo:Option Nat} {P:Program} {t e:TypeId}
theorem Lst.toN(h:Lst E m A v l fo)(hu:P.underlying t=some (.slice e))(hs:szT P e=some E.sz){hi:Nat}(h1:hi<=l.length){kh:IntKind}(B:AS):
 ∃w,aE P t v none (some (.int kh hi)) none B=some w/\Lst E m A w (l.take hi) fo:=by
 obtain⟨w,q1,q2⟩:=h.to3 (P:=P) hu hs h1 (kh:=kh) (km:=.i64) B
 refine⟨w,?_,q2⟩
 rw[<- q1]
 have e2:(hi:Int)<=l.length:=by omega
 rcases h.form with rfl |⟨b,o,n,z,rfl⟩
 . obtain⟨cs,_,⟨_,q,_⟩ |⟨f,_,q⟩⟩:=h
   . have:hi=0:=by omega
     subst this
     unfold aE;simp[hu,hs,aV]
   . obtain⟨b,o,n,z,q⟩:=q.form;cases q
 . obtain⟨cs,_,⟨q,_⟩ |⟨f,_,q⟩⟩:=h
   . cases q
   . obtain⟨b,o,k,base,p4,_⟩:=q.at_
     cases p4
     unfold aE;simp[hu,hs,aV,e2]
end
theorem BR6{S:Loc->Prop}{A B:AS}{fo fo':Option Nat}(hw:WF A)(hf:Fr S A B)(hg:Gr A fo fo'){z:Loc}(h:aI B fo' z):aI A fo z∨z.dK A:=by
 rcases hg with rfl |⟨rfl,f,rfl,hl⟩
 . exact Ae7 hf h
 . right
   cases z with
   |row b =>
    obtain⟨k,base,h1,h2⟩:=h
    rcases Nat.lt_or_ge b A.blk.length with q |q
    . obtain⟨cs',y1,y2⟩:=hf.kind b _ (LH q)
      rw[h1]at y1;cases y1
      have:=hw b _ f base (LH q) h2
      omega
    . exact q
   |fam g=>have:g=f:=h;show A.blk.length<=g;omega
   |map r=>exact h.elim
   |loop r=>exact h.elim
   |it r=>exact h.elim
end Go.Sv
namespace Go.Sv
open Go
section
variable {κ β:Type} [DecidableEq κ] {enc:κ->V} {ev:β->V}
end
end Go.Sv
namespace Go.Sv
open Go
theorem BR7{A:AS}{b o f base:Nat}{cells vs:List V}(hb:A.blk[b]?=some ⟨cells,.arr f base⟩)(ho:o+vs.length<=cells.length)(h1:vs.all V.one=true):
 ∃A',A.put b o vs=some A'/\Fr (kD A f) A A'/\A'.blk[b]?=some ⟨putAt cells o vs,.arr f base⟩:=by
 obtain⟨A',hp⟩:∃A',A.put b o vs=some A':=by
  unfold AS.put
  rw[hb]
  simp only[]
  rw[if_pos ⟨ho,h1⟩]
  exact⟨_,rfl⟩
 obtain⟨k,hk,_,_,_,hm,hi,hl,_,_,hlen,eQ,mY⟩:=AG2 hp
 rw[hb]at hk;cases hk
 refine⟨A',hp,?_,eQ⟩
 constructor
 . intro i x hx hns
   have hib:i≠b:=fun q=>hns (by subst q;exact⟨_,base,hb,rfl⟩)
   rw[mY i hib,hx]
   simp only[Option.map_some,Option.some.injEq]
   exact Ai7 fun base' hk=>absurd ⟨x,base',hx,hk⟩ hns
 . intro i x hx
   by_cases hib:i=b
   . subst hib
     rw[hb]at hx;cases hx
     exact⟨_,eQ,Af0 ho⟩
   . have hp2:=Ar9 f (base+o) (base+o+vs.length) x
     refine⟨(aK f (base+o) (base+o+vs.length) x).cells,?_,hp2.2⟩
     rw[mY i hib,hx]
     simp only[Option.map_some,Option.some.injEq]
     cases hq:aK f (base+o) (base+o+vs.length) x with
     |mk c kk=>rw[hq]at hp2;simp only[]at hp2 ⊢;rw[hp2.1]
 . intro i x g base' hx hge _
   have:=(LG.1 hx).1;omega
 . intro r mm hr _;rw[hm];exact hr
 . rw[hm];exact Nat.le_refl _
 . intro r mm hr _;rw[hl];exact hr
 . rw[hl];exact Nat.le_refl _
 . intro r mm hr _;rw[hi];exact hr
 . rw[hi];exact Nat.le_refl _
section
variable {τ:Type} {E:Enc τ} {m:Hp} {A:AS} {v:V} {l:List τ} {fo:Option Nat} {P:Program} {t e:TypeId} {cs:List V}
theorem aL.set(h:aL E m cs l){i:Nat}(hi:i<l.length){c:List V}{x:τ}(hR:E.R m c x):aL E m (putAt cs (i*E.sz) c) (l.set i x):=by
 rw[List.set_eq_take_append_cons_drop,if_pos hi]
 unfold putAt
 rw[E.len hR,show i*E.sz+E.sz=(i+1)*E.sz by rw[Nat.succ_mul],List.append_assoc]
 refine(h.take i (by omega)).app ?_
 show aL E m (c++_) ([x]++_)
 exact(aL.single hR).app (h.drop (i+1))
theorem A97{n sz f a:Nat}{vs:List V}(h:Part A v n sz cs f)(ha:a+vs.length<=n*sz)(h1:vs.all V.one=true):
 ∃b o A',v=.sl b o n sz/\A.put b (o+a) vs=some A'/\Fr (kD A f) A A'/\Part A' v n sz (putAt cs a vs) f:=by
 obtain⟨p1,p2,p3,b,o,⟨kc,kk⟩,base,rfl,p5,p6,p7,p8⟩:=h
 simp only at p6 p7 p8
 subst p6
 have hat:At kc o cs:=⟨kc.take o,kc.drop (o+n*sz),by rw[<- p8,List.append_assoc,<- List.drop_drop,List.take_append_drop,List.take_append_drop],by rw[List.length_take];omega⟩
 obtain⟨A',q1,q2,q3⟩:=BR7 (o:=o+a) (vs:=vs) p5 (by omega) h1
 rw[Ao7 hat (by omega)]at q3
 have hl:(putAt cs a vs).length=cs.length:=Af0 (by omega)
 refine⟨b,o,A',rfl,q1,q2,by rw[hl,p1],?_,by have:=q2.len;omega,b,o,_,base,rfl,q3,rfl,?_,?_⟩
 . unfold putAt
   rw[List.all_append,List.all_append,h1]
   rw[List.all_eq_true]at p2
   rw[Bool.and_true,Bool.and_eq_true,List.all_eq_true,List.all_eq_true]
   exact⟨fun y hy=>p2 y (List.mem_of_mem_take hy),fun y hy=>p2 y (List.mem_of_mem_drop hy)⟩
 . show o+n*sz<=(putAt kc o (putAt cs a vs)).length
   rw[Af0 (by omega)];exact p7
 . show((putAt kc o (putAt cs a vs)).drop o).take (n*sz)=_
   unfold putAt
   rw[List.append_assoc,List.drop_append_of_le_length (by rw[List.length_take];omega),List.drop_eq_nil_of_le (by rw[List.length_take];omega),List.nil_append]
   exact List.take_left' (by show(putAt cs a vs).length=_;rw[hl,p1])
theorem Lst.set(h:Lst E m A v l fo)(hu:P.underlying t=some (.slice e))(hs:szT P e=some E.sz){i:Nat}(hi:i<l.length){x:τ}{xv:V}{c:List V}(hx:xv.cells=some c)(hR:E.R m c x){k:IntKind}:
 ∃b o A',aj P t v (.int k (i:Int))=some (.ptr b o)/\ag P e (.ptr b o) xv A=some A'/\Lst E m A' v (l.set i x) fo/\Fr (aI A fo) A A':=by
 obtain⟨cs,h1,⟨rfl,q1,q2,q3⟩ |⟨f,rfl,h2⟩⟩:=h
 . omega
 . have h3:i*E.sz+c.length<=l.length*E.sz:=by rw[E.len hR,<- Nat.succ_mul];exact Nat.mul_le_mul_right _ hi
   obtain⟨b,o,A',rfl,p1,p2,p3⟩:=A97 h2 h3 (E.jD hR)
   refine⟨b,o+i*E.sz,A',AS1 hu hs hi,?_,⟨_,h1.set hi hR,.inr ⟨f,rfl,by rw[List.length_set];exact p3⟩⟩,p2⟩
   unfold ag
   rw[hs,hx]
   simp only[]
   rw[if_pos (E.len hR)];exact p1
theorem AZ1{z:List V}(h:z.all V.one=true):∀n,(du z n).all V.one=true
 | 0=>rfl
 |n+1=>by unfold du;rw[List.all_append,h,AZ1 h n];rfl
theorem Lst.nP(h:Lst E m A v l fo)(hu:P.underlying t=some (.slice e))(hs:szT P e=some E.sz)(hz:0<E.sz){zs:List V}(hzs:(aC P e).bind V.cells=some zs)(hzl:zs.length=E.sz)(hz1:zs.all V.one=true)(hmt:ia P t=none){n:Nat}(hn:n<=l.length){k k':IntKind}(B:AS):
 ∃w u A',aE P t v (some (.int k (n:Int))) none none B=some w/\(dH P t w A).or (cZ P t w A)=some A'/\(∀C,aE P t v none (some (.int k' (n:Int))) none C=some u)/\Lst E m A' u (l.take n) fo/\Fr (aI A fo) A A':=by
 have hcl:∀w,dH P t w A=none:=fun w=>by unfold dH;rw[hmt]
 obtain⟨w,w1,w2⟩:=h.sv (P:=P) hu hs hn (kl:=k) B
 obtain⟨cs,h1,⟨rfl,q1,q2,q3⟩ |⟨f,rfl,h2⟩⟩:=h
 . have hl:l=[]:=List.eq_nil_of_length_eq_zero q1
   subst hl
   have:n=0:=by simp at hn;exact hn
   subst this
   have e1:aE P t .ah (some (.int k ((0:Nat):Int))) none none B=some .ah:=by unfold aE;simp[hu,hs,aV]
   rw[e1]at w1;cases w1
   refine⟨.ah,.ah,A,e1,by rw[hcl];unfold cZ;rw[hu];rfl,fun C=>by unfold aE;simp[hu,hs,aV],⟨[],by simpa using aL.nil,.inl ⟨rfl,by simp,rfl,q3⟩⟩,.refl _ A⟩
 . have hmul:n*E.sz+(l.length-n)*E.sz=l.length*E.sz:=by rw[<- Nat.add_mul];congr 1;omega
   have hzn:(du zs (l.length-n)).length=(l.length-n)*E.sz:=by rw[Ar3,hzl]
   obtain⟨b,o,A',rfl,p1,p2,p3⟩:=A97 (a:=n*E.sz) (vs:=du zs (l.length-n)) h2 (by rw[hzn];omega) (AZ1 hz1 _)
   have e1:aE P t (.sl b o l.length E.sz) (some (.int k (n:Int))) none none B=some (.sl b (o+n*E.sz) (l.length-n) E.sz):=by
    unfold aE
    simp only[hu,hs,aV]
    have e2:(n:Int)<=(l.length:Int):=by omega
    simp[e2,hn]
   rw[e1]at w1;cases w1
   obtain⟨u,u1,u2⟩:∃u,(∀C,aE P t (.sl b o l.length E.sz) none (some (.int k' (n:Int))) none C=some u)/\u=.sl b o n E.sz:=by
    refine⟨_,fun C=>?_,rfl⟩
    unfold aE
    simp only[hu,hs,aV]
    have e2:(n:Int)<=(l.length:Int):=by omega
    simp[e2,hn]
   subst u2
   by_cases hz0:l.length-n=0
   . have hnl:n=l.length:=by omega
     refine⟨_,_,A,e1,by rw[hcl];unfold cZ;rw[hu];simp only[hs,hzs];rw[if_pos hz0];rfl,u1,?_,.refl _ A⟩
     rw[hnl,List.take_length]
     exact⟨cs,h1,.inr ⟨f,rfl,h2⟩⟩
   . refine⟨_,_,A',e1,?_,u1,⟨_,h1.take n hn,.inr ⟨f,rfl,?_⟩⟩,p2⟩
     . rw[hcl];unfold cZ;rw[hu];simp only[hs,hzs]
       rw[if_neg hz0,if_pos ⟨trivial,hzl,hz⟩]
       exact p1
     . obtain⟨r1,r2,r3,b',o',k',base,r4,r5,r6,r7,r8⟩:=p3
       cases r4
       have hl2:(putAt cs (n*E.sz) (du zs (l.length-n))).take (n*E.sz)=cs.take (n*E.sz):=by
        unfold putAt
        rw[List.append_assoc,List.take_append_of_le_length (by rw[List.length_take,h1.1];omega),List.take_take,Nat.min_self]
       have hlt:(l.take n).length=n:=by rw[List.length_take];omega
       refine⟨by rw[List.length_take,h1.1,hlt];omega,?_,r3,b,o,k',base,by rw[hlt],r5,r6,by rw[hlt];omega,?_⟩
       . have:=h1.jD
         rw[List.all_eq_true]at this ⊢
         exact fun y hy=>this y (List.mem_of_mem_take hy)
       . rw[hlt,<- hl2,<- r8,List.take_take,Nat.min_eq_left (by omega)]
end
end Go.Sv
namespace Go.Sv
open Go
theorem AZ2{P:Program}{H:Hints}{f:FuncId}{nt:Nat}{ops:Array Oper}{o:Oper}{r:List Oper}{k2:List Kt}{e:Env}{A:AS}{Q:Ex->Env->AS->Prop}{v:V}{want:Bool}{j d:Nat}(hg:o.guard=some (j,want))(hd:(ops[j]?).bind (·.dst)=some d)(hv:e.get d=v)(hok:iL nt o=true)
 (R:Ex->Env->AS->Prop) (h:gA P H f nt v want o [.ops ops r] e A R) (hk:∀x e A,R x e A->Run P H f nt k2 x e A Q):gA P H f nt v want o (.ops ops r::k2) e A Q:=by
 have key:∀(k:List Kt) (Q:Ex->Env->AS->Prop),Run P H f nt (.ops ops (o::r)::k) .normal e A Q=(iL nt o=true/\gA P H f nt v want o (.ops ops r::k) e A Q):=fun k Q=>by
  rw[Bn5];unfold lG;rw[hg];simp only[hd,hv]
 have:=Ah9 (k1:=[.ops ops (o::r)]) (k2:=k2) (R:=R) (Q:=Q) (x:=.normal) (by rw[key];exact⟨hok,h⟩) hk
 rw[List.singleton_append,key]at this
 exact this.2
end Go.Sv
