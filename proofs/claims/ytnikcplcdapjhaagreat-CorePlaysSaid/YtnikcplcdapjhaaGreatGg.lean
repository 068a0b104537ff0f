/- Cores of agreement, without memory: one proposal for each round. -/
import Derived.Test.YtnikcplcdapjhaaGreatGf
import Derived.Test.YtnikcplcdapjhaaGreatRows
import Derived.Test.YtnikcplcdapjhaaGreatSvBase
import Derived.Test.YtnikcplcdapjhaaGreatGe
import Derived.Test.YtnikcplcdapjhaaGreatGd
open Go.Proofs.Tryz renaming prog → TP
set_option linter.unusedSimpArgs false
set_option linter.unusedVariables false
open Nat renaming reduceLT → Q0, reduceBEq → Q1, reduceEqDiff → Q2, reduceAdd → Q3
open Int renaming reduceEq → Q4, reduceLT → Q5, reduceLE → Q6, reduceGT → Q7, reduceGE → Q8
namespace Go.Sv
open Go
section
variable {S S':Bts->Prop} {r r' r2:Rd} {c c':Co}
end
end Go.Sv
namespace Go.Sv
open Go
section
variable {S S':Bts->Prop} {r r' r2:Rd} {c c' c0:Co} {P L own:List M} {H:Int}
end
end Go.Sv
namespace Go.Sv
open Go
section
variable {n i:Nat} {Hn:Nat->Prop} {H:Int} {s s':Nat->Led} {c c':Co} {L out:List M}
end
end Go.Sv
namespace Go.Sv.Tryz
open Go
end Go.Sv.Tryz
namespace Go.Sv
open Go
theorem B62{P:Program}{t e:TypeId}{b o n f base:Nat}{cs:List V}{A:AS}(hu:P.underlying t=some (.slice e))(he:P.underlying e=some (.int .u8))(hb:A.blk[b]?=some ⟨cs,.arr f base⟩):cnv P t t (some (.sl b o (n+1) 1)) A=some (.val (.sl b o (n+1) 1)):=by
 unfold cnv
 rw[if_pos rfl]
 simp only[Option.bind_some,ic,if_true,hu,he,hb,Option.map_some]
def Co.kH(c:Co)(b I:Bts):Co×List Act:=({ c with bat:=(match aQ c.bat I with |some _=>c.bat |none=>c.bat++[(I,b)]),rd:=(c.rd.fX I).1 },(c.rd.fX I).2)
def Co.nR(c:Co)(b I:Bts):Co×List M:=Co.act { (c.kH b I).1 with rd:=((c.kH b I).1.rd.bA I).1 } ((c.kH b I).2++((c.kH b I).1.rd.bA I).2)
theorem BL0{c:Co}{b I:Bts}(h:az b=I)(hb:b.length<=4096):c.bA b=c.nR b I:=by
 subst h;unfold Co.bA;rw[if_neg (by omega)];rfl
def xId:Bts:=[162,88,130,22,164,213,93,210,110,109,36,145,240,168,251,4,205,91,117,82,55,122,173,133,170,210,217,77,16,43,208,0]
theorem CB9:az [120]=xId:=by decide +kernel
def agX:Co×List M:=Co.nR (co0 1 0 4) [120] xId
theorem B63:(co0 1 0 4).bA [120]=agX:=BL0 CB9 (by decide)
theorem Cf9:agX.1.bL=true/\agX.1.done=[120]:=by decide +kernel
theorem Co0:agX.2.map (fun m=>(m.kind,m.ids.length))=[(3,0),(4,2)]:=by decide +kernel
end Go.Sv
namespace Go.Sv.Tryz
open Go Go.Proofs
section
variable {X Y:Nat->Prop} {A B C:AS} {K:CoK} {c c1 c2:Co} {fk ft fk1 ft1 fk2 ft2 fo fo2:Option Nat}
theorem B64(b:Nat):fO TP 25 (.ptr b 0) .eg=some false:=by kernel_rfl
theorem B65{m:Hp}{v:V}{l:List M}(h:Lst eMsg m A v l fo)(hm:m.on A){i:Nat}{x:M}(hx:l[i]?=some x):
 ∃b o dv iv lv,aj TP 51 v (.int .i64 (i:Int))=some (.ptr b o)/\aa TP 48 (.ptr b o) A=some (.agg (mc x dv iv lv))/\cw m x dv iv lv:=by
 obtain⟨b,o,w,g1,g2,g3⟩:=h.at (P:=TP) (k:=.i64) hm Tryz.underlying51 Br4 BY2 hx
 unfold Enc.W at g3
 rw[if_pos (by rfl)]at g3
 obtain⟨cs,rfl,dv,iv,lv,rfl,g4⟩:=g3
 exact⟨b,o,dv,iv,lv,g1,g2,g4⟩
theorem BH2{b o:Nat}{x:M}{dv iv lv:V}(hx:x.id.length=32)(h:aa TP 48 (.ptr b o) A=some (.agg (mc x dv iv lv))):
 ae TP 48 (.ptr b o) 0=some (.ptr b o)/\ae TP 48 (.ptr b o) 8=some (.ptr b (o+39))/\aa TP 3 (.ptr b o) A=some (.int .i64 x.kind)/\aa TP 32 (.ptr b (o+39)) A=some iv:=by
 rw[Aq4 BY2 Br4]at h
 simp only[Option.map_eq_some_iff,V.agg.injEq]at h
 obtain⟨cs,h,rfl⟩:=h
 unfold AS.range at h
 cases hk:A.blk[b]? with
 |none=>rw[hk]at h;cases h
 |some k =>
  rw[hk]at h
  simp only[]at h
  split at h
  rotate_left
  . cases h
  injection h with h
  have e:∀j,j<41->k.cells[o+j]?=(mc x dv iv lv)[j]?:=fun j hj=>by
   rw[<- h,List.getElem?_take_of_lt hj,List.getElem?_drop]
  refine⟨by unfold ae;kernel_rfl,by kernel_rfl,?_,?_⟩
  . rw[Ae3 ag3,Ah8 hk,<- Nat.add_zero o,e 0 (by omega)];rfl
  . rw[Ae3 Ce2,Ah8 hk,e 39 (by omega)];exact(BI4 hx).2.1
theorem oI.new(hw:WF A)(hN:oI A K)(hf:Fr S0 A B)(h1:∀f,fk=some f->A.blk.length<=f)(h2:∀f,ft=some f->A.blk.length<=f){x:Loc}(q:LCo K fk ft B x):x.dK A:=TM.new hw hf (fun b q=>by
 rcases q with rfl |rfl
 . exact hN.cb
 . exact hN.nr.1) (fun f q=>by
 rcases q with(⟨j,hj,rfl⟩ |q) |q
 . exact hN.nr.2 j hj
 . exact h1 f q
 . exact h2 f q) (fun r q=>by
 rcases q with rfl |rfl
 . exact hN.mb
 . exact hN.mg) q
set_option maxRecDepth 10000 in
set_option maxHeartbeats 16000000 in
theorem AV3(hw:WF A):∃w A',EvF TP HH 4 [] A w A'/\Fr S0 A A'/\w=.bool true:=by
 refine Aa4 rfl Tryz.func4 (by unfold Tryz.f4;rfl) Tryz.ntmps4 (by unfold Tryz.f4;rfl) (by simp) ?_
 obtain⟨w,A1,k1,f1,K,rfl,hN,hC⟩:=A75 hw (n:=1) (me:=0) (h:=4) (.inl rfl) (by omega) (by omega) (by omega)
 have w1:=f1.wf hw
 have hC:=hC (fun _=>False) (fun _ q=>q.elim)
 obtain⟨A2,e2⟩:∃B,B=A1.push ⟨bc [120],.arr A1.blk.length 0⟩:=⟨_,rfl⟩
 have f2:Fr S0 A1 A2:=by rw[e2];exact Fr.aF A1 _
 have r2:A2.blk[A1.blk.length]?=some ⟨bc [120],.arr A1.blk.length 0⟩:=by rw[e2];exact Ab9 A1 _
 have w2:=f2.wf w1
 have hv:Slc eU8 (qHp (fun f=>(fun _=>False) f∨XCo K none none f) A2) (.sl A1.blk.length 0 1 1) [120]:=Br3 (Aj1 r2 fun q=>by have:=hC.xlt _ q;omega) rfl
 have bs:bsl TP 45 1 (some [(0,.int .u8 120)])=some (.aB (bc [120]) 1 1):=by kernel_rfl
 have cv:=B62 (P:=TP) (n:=0) (o:=0) Tryz.underlying45 Tryz.underlying5 r2
 obtain⟨u3,A3,k3,fk3,ft3,fo3,s3,l3⟩:=AA9 w2 (hC.fr0 f2) hv (by decide)
 rw[B63]at s3 l3
 have w3:=s3.wf w2
 have f12:Fr S0 A A3:=(f1.ab f2).trans s3.fr fun x q=>.inr (hN.new hw (f1.ab f2) (fun f q=>by cases q) (fun f q=>by cases q) q)
 obtain⟨_,A4,k4,f4,v,rfl,v2⟩:=AF6 w3 s3.co
 rw[Cf9.1,Cf9.2]at v2
 have l4:=aA.jk l3 f4
 have hlen:agX.2.length=2:=by have:=congrArg List.length Co0;rw[List.length_map]at this;exact this
 obtain⟨m0,g0⟩:=Ac7 (l:=agX.2) (i:=0) (by omega)
 obtain⟨m1,g1⟩:=Ac7 (l:=agX.2) (i:=1) (by omega)
 have q0:m0.kind=3:=by
  have:=congrArg (fun l=>l[0]?) Co0
  rw[List.getElem?_map,g0]at this
  simpa using (congrArg (fun o=>o.map Prod.fst) this)
 have q1:m1.kind=4/\m1.ids.length=2:=by
  have:=congrArg (fun l=>l[1]?) Co0
  rw[List.getElem?_map,g1]at this
  have:=Option.some.inj this
  exact⟨congrArg Prod.fst this,congrArg Prod.snd this⟩
 obtain⟨b5,o5,dv5,iv5,lv5,z1,z2,z3⟩:=B65 l4 (Ab5 _ A4) g0
 obtain⟨b6,o6,dv6,iv6,lv6,y1,y2,y3⟩:=B65 l4 (Ab5 _ A4) g1
 have z4:=BH2 z3.id z2
 have y4:=BH2 y3.id y2
 rw[q0]at z4
 rw[q1.1]at y4
 have hlm:=fun B=>l3.len (P:=TP) Tryz.underlying51 B
 rw[hlen]at hlm
 have hlm:∀B,dr TP 51 u3 B=some (.int .i64 2):=hlm
 have z1:aj TP 51 u3 (.int .i64 0)=some (.ptr b5 o5):=z1
 have y1:aj TP 51 u3 (.int .i64 1)=some (.ptr b6 o6):=y1
 have hli:=fun B=>y3.ids.len (P:=TP) Tryz.underlying32 B
 rw[q1.2]at hli
 have hli:∀B,dr TP 32 iv6 B=some (.int .i64 2):=hli
 have tx:=Ah2 (P:=TP) (s:=45) (d:=9) (by decide) v2 (Ab5 _ A4) Tryz.underlying45 Tryz.underlying5 Tryz.underlying9
 simp only[RT,Q0,Q1,Q2,Q3,Q4,Q5,Q6,Q7,Q8]
 refine Aa0 k1 ?_
 simp only[RT,Q0,Q1,Q2,Q3,Q4,Q5,Q6,Q7,Q8,B64,bs,<- e2,cv]
 refine Aa0 k3 ?_
 simp only[RT,Q0,Q1,Q2,Q3,Q4,Q5,Q6,Q7,Q8,Cf9.1]
 refine Aa0 k4 ?_
 simp only[RT,Q0,Q1,Q2,Q3,Q4,Q5,Q6,Q7,Q8,Cf9.1,tx,DT (show(if (true=true)then [120] else([]:Bts))=[120] from rfl),hlm,z1,z4,y1,y4,hli]
 exact f12.ab f4
end
end Go.Sv.Tryz
namespace Go.Sv
open Go
end Go.Sv
namespace Go.Sv.Tryz
open Go Go.Proofs
section
variable {X Y:Nat->Prop} {A B C:AS} {K:CoK} {c c1 c2:Co} {fk ft fk1 ft1 fk2 ft2 fo fo2:Option Nat}
end
end Go.Sv.Tryz
namespace Go.Sv
open Go
abbrev InC:=Int×Int×M
def iI(x:InC)(dv iv lv:V):List V:=.int .i64 x.1::.int .i64 x.2.1::mc x.2.2 dv iv lv
def oO(l:List InC):Prop:=l.length<=60/\∀x∈l,x.2.2.data.length<=5000/\x.2.2.ids.length<=70
theorem AP3{x:InC}{dv iv lv:V}(h:x.2.2.id.length=32):(iI x dv iv lv).length=43:=by simp[iI,Am0 h]
end Go.Sv
namespace Go.Sv.Tryz
open Go Go.Proofs
def eInC:Enc InC:=⟨43,true,fun m cs x=>∃dv iv lv,cs=iI x dv iv lv/\cw m x.2.2 dv iv lv,fun⟨_,_,_,h,q⟩=>by rw[h,AP3 q.id],fun h=>by simp at h,fun⟨_,_,_,h,q⟩=>by rw[h];simp only[iI,List.all_cons,At3 q,AO1,Bool.and_self],fun hm ⟨a,b,c,h,q⟩=>⟨a,b,c,h,q.mono hm⟩⟩
theorem BH3{m:Hp}{w:V}{x:InC}(h:eInC.W m w x):∃dv iv lv,w=.agg (iI x dv iv lv)/\cw m x.2.2 dv iv lv:=by
 unfold Enc.W at h
 rw[if_pos (by rfl)]at h
 obtain⟨cs,rfl,dv,iv,lv,rfl,g⟩:=h
 exact⟨dv,iv,lv,rfl,g⟩
section
variable {X Y:Nat->Prop} {A B C:AS} {K:CoK} {c c1 c2:Co} {fk ft fk1 ft1 fk2 ft2 fo fo2:Option Nat} {S:Loc->Prop} {m:Hp}
theorem Bv3{x:InC}{dv iv lv:V}(q:cw m x.2.2 dv iv lv):(iI x dv iv lv).all V.one=true:=by simp only[iI,List.all_cons,At3 q,AO1,Bool.and_self]
def pP:M:=⟨0,0,0,0,0,0,z32,[],[],[]⟩
theorem Cg0:(aC TP 50).bind V.cells=some (iI (0,0,pP) .ah .ah .ah):=CD4
theorem Bk0{x:InC}{dv iv lv:V}(h:cw m x.2.2 dv iv lv):∃A',ag TP 50 (.ptr A.blk.length 0) (.agg (iI x dv iv lv)) (A.push ⟨iI (0,0,pP) .ah .ah .ah,.var⟩)=some A'/\Fr S0 A A'/\A'.blk[A.blk.length]?=some ⟨iI x dv iv lv,.var⟩:=by
 obtain⟨A2,s1,s2,s3,s4⟩:=Ag5 (P:=TP) A (z:=iI (0,0,pP) .ah .ah .ah) (t:=50) (x:=.agg (iI x dv iv lv)) (cs:=iI x dv iv lv) rfl (by rw[AP3 h.id];exact Cr2) (by rw[AP3 h.id];rfl) (Bv3 h)
 exact⟨A2,s1,s2,s3⟩
theorem BH4(b:Nat):ae TP 50 (.ptr b 0) 0=some (.ptr b 0)/\ae TP 50 (.ptr b 0) 1=some (.ptr b 1)/\ae TP 50 (.ptr b 0) 2=some (.ptr b 2)/\ae TP 48 (.ptr b 2) 7=some (.ptr b 40)/\ae TP 48 (.ptr b 2) 8=some (.ptr b 41):=⟨by kernel_rfl,by kernel_rfl,by kernel_rfl,by kernel_rfl,by kernel_rfl⟩
theorem AL3{b:Nat}{k:BK}{x:InC}{dv iv lv:V}(hb:A.blk[b]?=some ⟨iI x dv iv lv,k⟩)(h:x.2.2.id.length=32):
 aa TP 3 (.ptr b 0) A=some (.int .i64 x.1)/\aa TP 3 (.ptr b 1) A=some (.int .i64 x.2.1)/\aa TP 48 (.ptr b 2) A=some (.agg (mc x.2.2 dv iv lv))/\aa TP 45 (.ptr b 40) A=some dv/\aa TP 32 (.ptr b 41) A=some iv:=by
 obtain⟨e1,e2,e3⟩:=BI4 (dv:=dv) (iv:=iv) (lv:=lv) h
 refine⟨?_,?_,At.load hb (o:=2) ⟨[.int .i64 x.1,.int .i64 x.2.1],[],by simp[iI],rfl⟩ BY2 Br4 (Am0 h),?_,?_⟩
 . rw[Ae3 ag3,Ah8 hb];rfl
 . rw[Ae3 ag3,Ah8 hb];rfl
 . rw[Ae3 BW6,Ah8 hb];exact e1
 . rw[Ae3 Ce2,Ah8 hb];exact e2
set_option maxRecDepth 10000 in
set_option maxHeartbeats 8000000 in
theorem Bd1{v:V}{l:List InC}(hm:m.on A)(h:Slc eInC m v l)(hl:l.length<=9223372036854775807):
 ∃w A',EvF TP HH 7 [v] A w A'/\Fr S0 A A'/\∃b,w=.bool b/\(b=true->oO l):=by
 refine Aa4 rfl Tryz.func7 (by unfold Tryz.f7;rfl) Tryz.ntmps7 (by unfold Tryz.f7;rfl) (by simp) ?_
 have hlen:=fun B=>h.len (P:=TP) Tryz.underlying23 B
 simp only[RT,Q0,Q1,Q2,Q3,Q4,Q5,Q6,Q7,Q8,hlen]
 refine Aa6 (fun z e B=>∃(i:Nat) (nn:Int),z=l.length-i/\i<=l.length/\e.get 8=.int .i64 i/\e.get 3=.int .i64 nn/\e.get 0=v/\e.get 6=v/\e.get 7=.int .i64 l.length/\Fr S0 A B/\∀x∈l.take i,x.2.2.data.length<=5000/\x.2.2.ids.length<=70)
  (fun z e B=>Fr S0 A B/\((Is z (.exit 0)/\e.get 0=v/\(∃nn:Int,e.get 3=.int .i64 nn)/\∀x∈l,x.2.2.data.length<=5000/\x.2.2.ids.length<=70)∨(Is z .ret/\e.get 2=.bool false)))
  ⟨_,0,0,rfl,by omega,rfl,rfl,rfl,rfl,rfl,.refl _ _,by simp⟩ ?_ ?_
 rotate_left
 . rintro z e B hz ⟨hf,⟨rfl,h0,⟨nn,h3⟩,hn⟩ |⟨rfl,h2⟩⟩
   . by_cases q:(l.length:Int)<=60
     . simp only[RT,Q0,Q1,Q2,Q3,Q4,Q5,Q6,Q7,Q8,h0,hlen,DT q,h3]
       exact⟨hf,_,rfl,fun _=>⟨by omega,hn⟩⟩
     . simp only[RT,Q0,Q1,Q2,Q3,Q4,Q5,Q6,Q7,Q8,h0,hlen,DF q]
       first |exact⟨hf,false,rfl⟩ |exact⟨hf,false,rfl,fun z=>(by cases z)⟩ |exact⟨hf,rfl⟩
   . simp only[RT,Q0,Q1,Q2,Q3,Q4,Q5,Q6,Q7,Q8,h2]
     first |exact⟨hf,false,rfl⟩ |exact⟨hf,false,rfl,fun z=>(by cases z)⟩ |exact⟨hf,rfl⟩
 rintro z e B ⟨i,nn,rfl,hi,h8,h3,h0,h6,h7,hf,hn⟩
 simp only[RT,Q0,Q1,Q2,Q3,Q4,Q5,Q6,Q7,Q8,h8,h7]
 refine Aa8 (fun q1=>?_) (fun q1=>?_)
 rotate_left
 . have:i=l.length:=by omega
   subst this
   rw[List.take_length]at hn
   simp only[RT,Q0,Q1,Q2,Q3,Q4,Q5,Q6,Q7,Q8]
   exact⟨hf,.inl ⟨rfl,h0,⟨nn,h3⟩,hn⟩⟩
 obtain⟨x,hx⟩:=Ac7 (l:=l) (i:=i) (by omega)
 obtain⟨bb,o,cc,g3,g4,g5⟩:=h.at (P:=TP) (k:=.i64) (hm.fr0 hf) Tryz.underlying23 Cr2 Cx2 hx
 obtain⟨dv,iv,lv,rfl,hin⟩:=BH3 g5
 obtain⟨C,s1,s2,s3⟩:=Bk0 (A:=B) hin
 have fa:=BH4 B.blk.length
 have ld:=AL3 s3 hin.id
 have hd:=fun B=>hin.data.len (P:=TP) Tryz.underlying45 B
 have hil:=fun B=>hin.ids.len (P:=TP) Tryz.underlying32 B
 have hwi:IntKind.i64.wrap ((i:Int)+1)=((i+1:Nat):Int):=by rw[Ac2 (by omega)]
 have hfC:=hf.ab s2
 by_cases c1:x.2.2.data.length>5000
 . simp only[RT,Q0,Q1,Q2,Q3,Q4,Q5,Q6,Q7,Q8,h6,h8,g3,g4,Cg0,s1,fa,ld,hd,DT (show(x.2.2.data.length:Int)>5000 by omega)]
   exact⟨hfC,.inr rfl⟩
 by_cases c2:x.2.2.ids.length>70
 . simp only[RT,Q0,Q1,Q2,Q3,Q4,Q5,Q6,Q7,Q8,h6,h8,g3,g4,Cg0,s1,fa,ld,hd,DF (show ¬(x.2.2.data.length:Int)>5000 by omega),hil,DT (show(x.2.2.ids.length:Int)>70 by omega)]
   exact⟨hfC,.inr rfl⟩
 simp only[RT,Q0,Q1,Q2,Q3,Q4,Q5,Q6,Q7,Q8,h6,h8,g3,g4,Cg0,s1,fa,ld,hd,DF (show ¬(x.2.2.data.length:Int)>5000 by omega),hil,DF (show ¬(x.2.2.ids.length:Int)>70 by omega),h3,hwi]
 have hn':∀y∈l.take (i+1),y.2.2.data.length<=5000/\y.2.2.ids.length<=70:=fun y hy=>by
  rw[Ab6 hx]at hy
  rcases List.mem_append.1 hy with hy |hy
  . exact hn y hy
  . rw[List.mem_singleton.1 hy];exact⟨by omega,by omega⟩
 refine⟨l.length-(i+1),by omega,i+1,_,rfl,by omega,rfl,rfl,?_⟩
 and_intros<;>first |rfl |assumption
end
end Go.Sv.Tryz
namespace Go.Sv
open Go
end Go.Sv
namespace Go.Sv.Tryz
open Go Go.Proofs
section
variable {c:Co}
theorem Bk1(hr:Rng c.rd)(ha:c.rd.al=[])(b:Bts):(c.bA b).2.length<=100000:=by
 unfold Co.bA
 split
 . simp
 have k:=hr.fX (az b)
 rw[ha]at k
 have k2:=k.1.bA (az b)
 rw[k.2.2]at k2
 have h1:(c.a6 b).2.length<=2000:=by have:=k.2.1;rw[List.length_nil,Nat.zero_add]at this;exact this
 have h2:((c.a6 b).1.rd.bA (az b)).2.length<=2001:=by have:=k2.2.1;rw[List.length_nil,Nat.zero_add]at this;exact this
 refine Nat.le_trans (Am7 _ _) ?_
 rw[List.length_append];omega
theorem AV4(hr:Rng c.rd)(ha:c.rd.al=[])(w:Int)(ids:List Bts):∀k,Rng (c.cf w ids k).1.rd/\(c.cf w ids k).1.rd.al=[]/\(c.cf w ids k).2.length<=2000*k
 | 0=>⟨hr,ha,by show([]:List Act).length<=_;simp⟩
 |k+1=>by
  have em:c.cf w ids (k+1)=Co.fy w ids (c.cf w ids k) k:=by unfold Co.cf;rw[List.range_succ,List.foldl_append];rfl
  rw[em]
  obtain⟨h1,h2,h3⟩:=AV4 hr ha w ids k
  generalize c.cf w ids k=y at *
  unfold Co.fy
  split
  . exact⟨h1,h2,by omega⟩
  . have q:=h1.dm ((k/2:Nat):Int) ((k%2:Nat):Int) w ((ids[k]?).getD z32)
    rw[h2]at q
    refine⟨q.1,q.2.2,?_⟩
    show(y.2++_).length<=_
    rw[List.length_append]
    have:=q.2.1;rw[List.length_nil,Nat.zero_add]at this;omega
theorem Bv4(hr:Rng c.rd)(ha:c.rd.al=[])(w:Int)(x:M):(c.kG w x).2.length<=100000:=by
 have hl:∀b,(c.a6 b).2.length<=2000:=fun b=>by
  have k:=hr.fX (az b)
  rw[ha]at k
  have:=k.2.1;rw[List.length_nil,Nat.zero_add]at this;exact this
 unfold Co.kG
 split
 . simp
 split
 . split
   . simp
   have k:=hr.fX (az x.data)
   rw[ha]at k
   have k2:=k.1.bZ x.round x.valid (az x.data)
   rw[k.2.2]at k2
   have h2:((c.a6 x.data).1.rd.bZ x.round x.valid (az x.data)).2.length<=2000:=by have:=k2.2.1;rw[List.length_nil,Nat.zero_add]at this;exact this
   refine Nat.le_trans (Am7 _ _) ?_
   show((c.a6 x.data).2++_).length+1<=_
   rw[List.length_append]
   have:=hl x.data;omega
 split
 . refine Nat.le_trans (Am7 _ _) ?_
   have:=(AV4 hr ha w x.ids (min x.ids.length 24)).2.2
   have e:c.eK w x.ids=c.cf w x.ids (min x.ids.length 24):=rfl
   rw[e]
   have:=Nat.min_le_right x.ids.length 24
   omega
 split
 . split
   . simp
   refine Nat.le_trans (Am7 _ _) ?_
   have:(c.ks w x).2.length<=2000:=hl x.data
   omega
 . exact Nat.le_trans (Am7 _ _) (by simp)
theorem Bv5(hr:Rng c.rd)(ha:c.rd.al=[])(ht:c.tim.length<=40):c.lf.2.length<=100000:=by
 have e:c.cF (cg (c.now+1) c.tim).length=c.cP:=by unfold Co.cF Co.cP;rw[List.take_length]
 have h:=(Ar2 hr ha (cg (c.now+1) c.tim).length).2.2
 rw[e]at h
 have hl:(cg (c.now+1) c.tim).length<=40:=Nat.le_trans (List.length_filter_le _ _) ht
 have ha2:c.cX.2.length<=c.cP.2.length+1:=Am7 _ _
 have hg:∀(c:Co) (l:List M),(again c l).length<=l.length+3:=by
  intro c l
  have h1:(o1 c l).length<=l.length+1:=by unfold o1;split<;>simp
  have h2:(o2 c (o1 c l)).length<=(o1 c l).length+1:=by
   generalize o1 c l=y
   unfold o2;split<;>simp
  have h3:(o3 c (o2 c (o1 c l))).length<=(o2 c (o1 c l)).length+1:=by
   generalize o2 c (o1 c l)=y
   unfold o3;split<;>simp
  show(o3 c (o2 c (o1 c l))).length<=_
  omega
 have:=hg c.cX.1 c.cX.2
 show(again c.cX.1 c.cX.2).length<=_
 omega
end
section
variable {X Y:Nat->Prop} {A B C:AS} {K:CoK} {c c1 c2:Co} {fk ft fk1 ft1 fk2 ft2 fo fo2:Option Nat} {S:Loc->Prop} {m:Hp}
end
end Go.Sv.Tryz
namespace Go.Sv
structure dh(c:Co)(j:Nat):Prop where
 od:c.bL=false->c.done=[]
 bat:c.bat.length<=j
 cG:c.cG.length<=j
 now:c.now<=j
def ey(x:M):Prop:=x.ids.length<=24/\x.list=[]
theorem dh.rd{c:Co}{j:Nat}(h:dh c j){r:Rd}:dh { c with rd:=r } j:=⟨h.od,h.bat,h.cG,h.now⟩
theorem dh.le{c:Co}{j k:Nat}(h:dh c j)(hk:j<=k):dh c k:=⟨h.od,Nat.le_trans h.bat hk,Nat.le_trans h.cG hk,by have:=h.now;omega⟩
theorem BH5{s:Co×List M×Bool}{a:Act}{j:Nat}(h:dh s.1 j)(hm:∀x∈s.2.1,ey x):dh (Co.bp s a).1 j/\∀x∈(Co.bp s a).2.1,ey x:=by
 unfold Co.bp
 split
 . refine⟨h,fun x hx=>?_⟩
   rcases List.mem_append.1 hx with q |q
   . exact hm x q
   . rw[List.mem_singleton.1 q]
     unfold Co.offer;split
     . exact⟨by simp,rfl⟩
     . exact⟨by simp[eU],rfl⟩
 split
 . exact⟨h,hm⟩
 split
 . exact⟨⟨h.od,h.bat,h.cG,h.now⟩,hm⟩
 split
 . exact⟨⟨(fun q=>by cases q),h.bat,h.cG,h.now⟩,hm⟩
 . exact⟨h,hm⟩
theorem B66{j:Nat}(l:List Act):∀s:Co×List M×Bool,dh s.1 j->(∀x∈s.2.1,ey x)->dh (l.foldl Co.bp s).1 j/\∀x∈(l.foldl Co.bp s).2.1,ey x:=by
 induction l with
 |nil=>exact fun s h hm=>⟨h,hm⟩
 |cons a l ih=>exact fun s h hm=>ih _ (BH5 h hm).1 (BH5 h hm).2
theorem BL1(r:Rd):(cW r).length<=24:=by unfold cW;rw[List.length_take,AF3];exact Nat.min_le_right _ _
theorem Cw0(r:Rd):ey (dC r):=⟨BL1 r,rfl⟩
theorem AV5{c:Co}{j:Nat}(h:dh c j)(l:List Act):dh (c.act l).1 j/\∀x∈(c.act l).2,ey x:=by
 obtain⟨h1,h2⟩:=B66 l (c,[],false) h (fun x q=>by cases q)
 refine⟨h1,?_⟩
 unfold Co.act
 simp only[]
 split
 . intro x hx
   rcases List.mem_append.1 hx with q |q
   . exact h2 x q
   . rw[List.mem_singleton.1 q];exact Cw0 _
 . exact h2
theorem BH6{c:Co}{j:Nat}(h:dh c j)(t:Bts):dh (c.eu t) (j+1):=by
 refine⟨h.od,?_,Nat.le_succ_of_le h.cG,by have:=h.now;show c.now<=_;omega⟩
 show(fU c.bat t).length<=_
 have:=h.bat
 unfold fU;split
 . omega
 . rw[List.length_append];simp;omega
theorem AP4{c:Co}{j:Nat}(h:dh c j)(t:Bts):dh (c.a6 t).1 (j+1):=(BH6 h t).rd
theorem BL2{c:Co}{j:Nat}(h:dh c j)(t:Bts):dh (c.bA t).1 (j+1)/\∀x∈(c.bA t).2,ey x:=by
 unfold Co.bA;split
 . exact⟨h.le (by omega),fun x q=>by cases q⟩
 . exact AV5 (AP4 h t).rd _
theorem B67{c:Co}{j:Nat}(h:dh c j):dh c.lZ.1 (j+1)/\∀x∈c.lZ.2,ey x:=by
 unfold Co.lZ
 exact AV5 (h.le (Nat.le_succ j)).rd _
theorem Bk2{c:Co}{j:Nat}(h:dh c j)(t:Bts):dh (c.fe t).1 (j+1)/\∀x∈(c.fe t).2,ey x:=by
 unfold Co.fe;split
 . exact⟨h.le (by omega),fun x q=>by cases q⟩
 . exact AV5 (AP4 h t).rd _
theorem B68{c:Co}{j:Nat}(h:dh c j)(w:Int)(x:M):dh (c.kG w x).1 (j+1)/\∀y∈(c.kG w x).2,ey y:=by
 have no:dh c (j+1)/\∀y∈([]:List M),ey y:=⟨h.le (by omega),fun x q=>by cases q⟩
 unfold Co.kG
 split
 . exact no
 split
 . split
   . exact no
   . exact AV5 (AP4 h x.data).rd _
 split
 . refine AV5 ?_ _
   unfold Co.eK Co.cf
   have key:∀(l:List Nat) (s:Co×List Act),dh s.1 (j+1)->dh (l.foldl (Co.fy w x.ids) s).1 (j+1):=by
    intro l
    induction l with
    |nil=>exact fun s h=>h
    |cons a l ih =>
     refine fun s h=>ih _ ?_
     unfold Co.fy;split
     . exact h
     . exact h.rd
   exact key _ _ (h.le (by omega))
 split
 . split
   . exact no
   . refine AV5 ?_ _
     unfold Co.ks
     have h2:dh { c with cG:=c.cG++[w] } (j+1):=⟨h.od,Nat.le_succ_of_le h.bat,by rw[List.length_append];have:=h.cG;simp;omega,by have:=h.now;show c.now<=_;omega⟩
     have h3:=AP4 (j:=j) (c:={ c with cG:=[] }) ⟨h.od,h.bat,by simp,h.now⟩ x.data
     exact⟨h.od,h3.bat,h2.cG,h3.now⟩
 . exact AV5 (h.le (by omega)) _
theorem B69{c:Co}{j:Nat}(h:dh c j):dh c.lf.1 (j+1)/\∀x∈c.lf.2,ey x:=by
 have h1:dh c.cP.1 (j+1):=by
  unfold Co.cP
  have key:∀(l:List bj) (s:Co×List Act),dh s.1 (j+1)->dh (l.foldl Co.ku s).1 (j+1):=by
   intro l
   induction l with
   |nil=>exact fun s h=>h
   |cons a l ih=>exact fun s h=>ih _ h.rd
  exact key _ _ ⟨h.od,Nat.le_succ_of_le h.bat,Nat.le_succ_of_le h.cG,by have:=h.now;show c.now+1<=_;omega⟩
 obtain⟨h2,h3⟩:=AV5 h1 c.cP.2
 refine⟨h2,?_⟩
 show ∀x∈again c.cX.1 c.cX.2,ey x
 have h3:∀x∈c.cX.2,ey x:=h3
 have a1:∀x∈o1 c.cX.1 c.cX.2,ey x:=by
  unfold o1;split
  . intro x hx
    rcases List.mem_append.1 hx with q |q
    . exact h3 x q
    . rw[List.mem_singleton.1 q]
      unfold Co.offer;split
      . exact⟨by simp,rfl⟩
      . exact⟨by simp[eU],rfl⟩
  . exact h3
 have a2:∀x∈o2 c.cX.1 (o1 c.cX.1 c.cX.2),ey x:=by
  unfold o2;split
  . intro x hx
    rcases List.mem_append.1 hx with q |q
    . exact a1 x q
    . rw[List.mem_singleton.1 q];exact⟨by simp[fY],rfl⟩
  . exact a1
 unfold again o3;split
 . intro x hx
   rcases List.mem_append.1 hx with q |q
   . exact a2 x q
   . rw[List.mem_singleton.1 q];exact Cw0 _
 . exact a2
theorem Bv6{c:Co}{j:Nat}(h:dh c j)(x:M):dh (c.dg x) (j+1):=by
 unfold Co.dg;split
 . exact h.le (by omega)
 split
 . exact(BH6 h x.data).rd
 split
 . exact(h.le (by omega)).rd
 . exact h.le (by omega)
end Go.Sv
namespace Go.Sv.Tryz
open Go Go.Proofs
section
variable {A B C:AS} {m m':Hp} {v v':V} {l:List M}
theorem Cw1(hm:m.on A)(h:Slc eMsg m v l){i:Nat}{x:M}(hx:l[i]?=some x):∃b o dv iv lv,aj TP 51 v (.int .i64 (i:Int))=some (.ptr b o)/\aa TP 48 (.ptr b o) A=some (.agg (mc x dv iv lv))/\cw m x dv iv lv:=by
 obtain⟨b,o,w,g1,g2,g3⟩:=h.at (P:=TP) (k:=.i64) hm Tryz.underlying51 Br4 BY2 hx
 obtain⟨dv,iv,lv,rfl,q⟩:=BH1 g3
 exact⟨b,o,dv,iv,lv,g1,g2,q⟩
set_option maxRecDepth 10000 in
set_option maxHeartbeats 16000000 in
theorem Bd2(hm:m.on A)(h:Slc eMsg m v l)(h':Slc eMsg m v' l)(hs:∀x∈l,ey x)(hl:l.length<=100000000):
 ∃w A',EvF TP HH 23 [v,v'] A w A'/\Fr S0 A A'/\w=.bool true:=by
 refine Aa4 rfl Tryz.func23 (by unfold Tryz.f23;rfl) Tryz.ntmps23 (by unfold Tryz.f23;rfl) (by simp) ?_
 have hln:=fun B=>h.len (P:=TP) Tryz.underlying51 B
 have tc:=fun B=>h'.len (P:=TP) Tryz.underlying51 B
 simp only[RT,Q0,Q1,Q2,Q3,Q4,Q5,Q6,Q7,Q8,hln,tc,DF (show ¬ ¬(l.length:Int)=(l.length:Int)from fun z=>z rfl)]
 refine Aa6 (fun z e B=>∃(i:Nat),z=l.length-i/\i<=l.length/\e.get 13=.int .i64 i/\e.get 0=v/\e.get 1=v'/\e.get 12=.int .i64 l.length/\Fr S0 A B)
  (fun z e B=>Is z (.exit 0)/\Fr S0 A B)
  ⟨_,0,rfl,by omega,rfl,rfl,rfl,rfl,.refl _ _⟩ ?_ ?_
 rotate_left
 . rintro z e B hz ⟨rfl,hf⟩
   simp only[RT,Q0,Q1,Q2,Q3,Q4,Q5,Q6,Q7,Q8]
   exact hf
 rintro z e B ⟨i,rfl,hi,h13,h0,h1,h12,hf⟩
 simp only[RT,Q0,Q1,Q2,Q3,Q4,Q5,Q6,Q7,Q8,h13,h12]
 refine Aa8 (fun q1=>?_) (fun q1=>?_)
 rotate_left
 . simp only[RT,Q0,Q1,Q2,Q3,Q4,Q5,Q6,Q7,Q8]
   exact⟨rfl,hf⟩
 obtain⟨x,hx⟩:=Ac7 (l:=l) (i:=i) (by omega)
 have hsm:=hs x (List.mem_of_getElem? hx)
 obtain⟨b,o,dv,iv,lv,g1,g2,g3⟩:=Cw1 (hm.fr0 hf) h hx
 obtain⟨b',o',dv',iv',lv',g1',g2',g3'⟩:=Cw1 (hm.fr0 hf) h' hx
 have hwi:IntKind.i64.wrap ((i:Int)+1)=((i+1:Nat):Int):=by rw[Ac2 (by omega)]
 obtain⟨_,C,k1,f1,r,rfl,hr⟩:=AU7 (hm.fr0 hf) g3 g3' (by have:=hsm.1;omega) (by rw[hsm.2];simp)
 have hr:r=true:=hr.2 rfl
 subst hr
 simp only[RT,Q0,Q1,Q2,Q3,Q4,Q5,Q6,Q7,Q8,h13]
 rw[BT0,Aa2 (by rfl)]
 simp only[RT,Q0,Q1,Q2,Q3,Q4,Q5,Q6,Q7,Q8,h0,g1,g2,h1,g1',g2']
 refine Aa0 k1 ?_
 simp only[RT,Q0,Q1,Q2,Q3,Q4,Q5,Q6,Q7,Q8,Af4,h13,hwi]
 refine⟨l.length-(i+1),by omega,i+1,rfl,by omega,rfl,?_⟩
 exact⟨h0,h1,h12,hf.ab f1⟩
theorem A16(hw:WF A){n me h:Int}(hn:IntIn .i64 n)(hh:IntIn .i64 h):∃w A',EvF TP HH 5 [.int .i64 n,.int .i64 me,.int .i64 h] A w A'/\Fr S0 A A'/\((¬(((n=1∨n=4∨n=7)/\0<=me/\me<n/\0<=h)/\h<=1099511627776)/\w=.tup [.eg,.int .i64 1])∨∃(n' me':Nat),n=n'/\me=me'/\okN n'/\me'<n'/\0<=h/\h<=1099511627776/\nF A A' w n' me' h):=by
 by_cases q:h>1099511627776
 . refine Aa4 rfl Tryz.func5 (by unfold Tryz.f5;rfl) Tryz.ntmps5 (by unfold Tryz.f5;rfl) (by simp) ?_
   simp only[RT,Q0,Q1,Q2,Q3,Q4,Q5,Q6,Q7,Q8,DT q]
   exact⟨.refl _ _,.inl fun z=>by omega⟩
 by_cases q2:((n=1∨n=4∨n=7)/\0<=me/\me<n/\0<=h)
 . obtain⟨n,rfl⟩:=Int.eq_ofNat_of_zero_le (show 0<=n by omega)
   obtain⟨me,rfl⟩:=Int.eq_ofNat_of_zero_le (show 0<=me by omega)
   have hok:okN n:=by unfold okN;omega
   obtain⟨w,A',k1,k2,k3⟩:=A75 hw (n:=n) (me:=me) (h:=h) hok (by omega) (by omega) (by omega)
   exact⟨w,A',k1,k2,.inr ⟨n,me,rfl,rfl,hok,by omega,by omega,by omega,k3⟩⟩
 have hN:∃w A',EvF TP HH 25 [.int .i64 n,.int .i64 me,.int .i64 h] A w A'/\Fr S0 A A'/\w=.tup [.eg,.int .i64 1]:=by
  have hn:-9223372036854775808<=n/\n<=9223372036854775807:=hn
  refine Aa4 rfl Tryz.func25 (by unfold Tryz.f25;rfl) Tryz.ntmps25 (by unfold Tryz.f25;rfl) (by simp) ?_
  simp only[RT,Q0,Q1,Q2,Q3,Q4,Q5,Q6,Q7,Q8]
  obtain⟨w,A1,k1,f1,k3⟩:=AE6 hw hn.1 hn.2
  refine Aa0 k1 ?_
  rcases k3 with⟨q,rfl⟩ |⟨m,cp,vb,rfl,hm,rfl,hc,hcp,hvb⟩
  . simp only[RT,Q0,Q1,Q2,Q3,Q4,Q5,Q6,Q7,Q8]
    exact f1
  simp only[RT,Q0,Q1,Q2,Q3,Q4,Q5,Q6,Q7,Q8]
  by_cases q1:me<0
  . simp only[RT,Q0,Q1,Q2,Q3,Q4,Q5,Q6,Q7,Q8,DT q1]
    exact f1
  by_cases q2':me>=m
  . simp only[RT,Q0,Q1,Q2,Q3,Q4,Q5,Q6,Q7,Q8,DF q1,DT q2']
    exact f1
  by_cases q3:h<0
  . simp only[RT,Q0,Q1,Q2,Q3,Q4,Q5,Q6,Q7,Q8,DF q1,DF q2',DT q3]
    exact f1
  exact absurd ⟨by unfold okN at hm;omega,by omega,by omega,by omega⟩ q2
 obtain⟨_,A1,k1,f1,rfl⟩:=hN
 refine Aa4 rfl Tryz.func5 (by unfold Tryz.f5;rfl) Tryz.ntmps5 (by unfold Tryz.f5;rfl) (by simp) ?_
 simp only[RT,Q0,Q1,Q2,Q3,Q4,Q5,Q6,Q7,Q8,DF q]
 refine Aa0 k1 ?_
 simp only[RT,Q0,Q1,Q2,Q3,Q4,Q5,Q6,Q7,Q8]
 exact⟨f1,.inl fun z=>q2 z.1⟩
end
end Go.Sv.Tryz
namespace Go.Sv.Tryz
open Go Go.Proofs
structure Js(A0 B:AS)(K:CoK)(b7:Nat)(fk ft:Option Nat)(p r:Co):Prop where
 fr:Fr S0 A0 B
 co:bV (XCo K fk ft) B K fk ft p
 cx:Cx (XCo K fk ft) B b7 r
 nw:oI A0 K
 hk:∀f,fk=some f->A0.blk.length<=f
 ht:∀f,ft=some f->A0.blk.length<=f
 hb:A0.blk.length<=b7
 ne:b7≠K.cb/\b7≠K.rp/\b7≠K.cp
section
variable {A0 A B C:AS} {K:CoK} {b7:Nat} {fk ft fk1 ft1 fo:Option Nat} {p r p1 r':Co} {w u:V} {l:List M}
theorem Js.x0(h:Js A0 B K b7 fk ft p r):∀f,XCo K fk ft f->A0.blk.length<=f:=fun f q=>by
 rcases q with(⟨j,hj,rfl⟩ |q) |q
 . exact h.nw.nr.2 j hj
 . exact h.hk f q
 . exact h.ht f q
theorem Js.ro(hw:WF A0)(h:Js A0 B K b7 fk ft p r):(qHp (fun _=>False) A0).le (qHp (XCo K fk ft) B):=Ae4 h.fr .s0 hw fun f q=>.inr (h.x0 f q)
theorem Js.fr0(h:Js A0 B K b7 fk ft p r)(hf:Fr S0 B C):Js A0 C K b7 fk ft p r:={ h with fr:=h.fr.ab hf,co:=h.co.fr0 hf,cx:=h.cx.fr0 hf }
theorem Js.step(hw:WF A0)(h:Js A0 B K b7 fk ft p r)(k:aA (XCo K fk ft) B K fk ft C fk1 ft1 fo p1):Js A0 C K b7 fk1 ft1 p1 r:=by
 have wB:=h.fr.wf hw
 obtain⟨cs,hb,_⟩:=h.cx.box
 have hor:∀f,XCo K fk1 ft1 f->XCo K fk ft f∨B.blk.length<=f:=fun f q=>by
  rcases q with(⟨j,hj,rfl⟩ |q) |q
  . exact .inl (.inl (.inl ⟨j,hj,rfl⟩))
  . exact(k.g1.or q).imp (fun z=>.inl (.inr z)) id
  . exact(k.g2.or q).imp (fun z=>.inr z) id
 have hlt:∀f,XCo K fk1 ft1 f->f<C.blk.length:=fun f q=>k.co.xlt f (k.co.sub f q)
 have hl:=h.fr.len
 refine { h with fr:=h.fr.trans k.fr fun x q=>.inr (h.nw.new hw h.fr h.hk h.ht q),co:=k.co.oF (fun f q=>k.co.sub f q) (fun f q=>q),cx:=h.cx.go wB k.fr TM.tch (TM.box hb ?_) hor hlt,hk:=fun f q=>?_,ht:=fun f q=>?_ }
 . rintro(z |z)
   . exact h.ne.1 z
   . exact h.ne.2.1 z
 . rcases k.g1.or q with z |z
   . exact h.hk f z
   . omega
 . rcases k.g2.or q with z |z
   . exact h.ht f z
   . omega
theorem Js.prog{x:Co×List M}(hw:WF A0)(h:Js A0 B K b7 fk ft p r)(k:iG (XCo K fk ft) B K fk ft C x w):∃fk1 ft1 X fo,Js A0 C K b7 fk1 ft1 x.1 r/\Lst eMsg (qHp X C) C w x.2 fo/\∀{b:Nat} {cs:List V},B.blk[b]?=some ⟨cs,.var⟩->b≠K.cb->b≠K.rp->C.blk[b]?=some ⟨cs,.var⟩:=by
 obtain⟨fk1,ft1,fo,k1,k2⟩:=k
 exact⟨fk1,ft1,_,fo,h.step hw k1,k2,fun q z1 z2=>k1.fr.row _ _ q (TM.box q (by rintro(y |y);exact z1 y;exact z2 y))⟩
theorem Js.store{D:AS}(hw:WF A0)(h:Js A0 C K b7 fk ft p r)(s2:Fr (·=.row b7) C D)(s3:Cx (XCo K fk ft) D b7 r'):Js A0 D K b7 fk ft p r':=by
 have wC:=h.fr.wf hw
 obtain⟨cs,hb,_⟩:=h.cx.box
 have hts:Fr (TM (fun x=>x=b7) (fun _=>False) (fun _=>False) C) C D:=s2.mono fun x q=>by subst q;exact .inl ⟨_,hb,rfl⟩
 exact { h with fr:=h.fr.trans s2 fun x q=>.inr (by subst q;exact h.hb),co:=h.co.ts wC hts ⟨fun q=>h.ne.1 q.symm,fun q=>h.ne.2.1 q.symm,fun q=>h.ne.2.2 q.symm⟩ (fun f q=>q.elim) ⟨fun q=>q,fun q=>q⟩ (fun f q=>.inl q) h.co.sub (fun f q=>Nat.lt_of_lt_of_le (h.co.xlt f q) s2.len),cx:=s3 }
theorem Co1{X:Nat->Prop}{D:AS}(hw:WF A0)(h:Js A0 C K b7 fk ft p r)(hL:Lst eMsg (qHp X B) B w l fo)(hf:Fr S0 B C)(s2:Fr (·=.row b7) C D):Lst eMsg (qHp X D) D w l fo:=by
 obtain⟨cs,hb,_⟩:=h.cx.box
 exact An5 (Aq6 hL hf) (h.fr.wf hw) hb s2
theorem Js.ref{x:Co×List M}(hw:WF A0)(h:Js A0 B K b7 fk ft p r)(hf:Fr S0 B C)(k:MOu (XCo K fk ft) B.blk.length C x u):∃u1 v X fo D,u=.tup [u1,v]/\ag TP 41 (.ptr b7 0) u1 C=some D/\Js A0 D K b7 fk ft p x.1/\Lst eMsg (qHp X D) D v x.2 fo/\∀{Y w l fo},Lst eMsg (qHp Y B) B w l fo->Lst eMsg (qHp Y D) D w l fo:=by
 obtain⟨u1,v,fo,rfl,k1,k2,k3⟩:=k
 have h1:=h.fr0 hf
 have wC:=h1.fr.wf hw
 obtain⟨cs,hb,_⟩:=h1.cx.box
 obtain⟨D,s1,s2,s3⟩:=h1.cx.set wC (k1.sub fun f q=>.inl q)
 exact⟨u1,v,_,fo,D,rfl,s1,h1.store hw s2 s3,An5 k2 wC hb s2,fun z=>Co1 hw h1 z hf s2⟩
theorem Js.te{c:Co}(hw:WF A0)(h:Js A0 B K b7 fk ft p r)(hf:Fr S0 B C)(k:RCs (XCo K fk ft) C c u):∃D,ag TP 41 (.ptr b7 0) u C=some D/\Fr (·=.row b7) C D/\Js A0 D K b7 fk ft p c:=by
 have h1:=h.fr0 hf
 have wC:=h1.fr.wf hw
 obtain⟨D,s1,s2,s3⟩:=h1.cx.set wC k
 exact⟨D,s1,s2,h1.store hw s2 s3⟩
theorem BH7{X:Nat->Prop}(h:Lst eMsg (qHp X A) A w l fo):Slc eMsg (dq A) w l:=h.gK (Bp1 X A)
end
end Go.Sv.Tryz
namespace Go.Sv.Tryz
open Go Go.Proofs
section
variable {A0 A B C:AS} {K:CoK} {c:Co} {b7:Nat} {fk ft fk1 ft1 fo:Option Nat} {p r:Co} {w u:V} {l:List M}
theorem Cg1(p q:Bool):fO TP 4 (.bool p) (.bool q)=some (p == q):=by rw[BP2 Tryz.underlying4];cases p<;>cases q<;>rfl
theorem B70:aw TP .eql 25 .eg .eg=some (.bool true):=by kernel_rfl
theorem CC0(b:Nat):aj TP 22 (.ptr b 0) (.int .i64 0)=some (.ptr b 0)/\aj TP 22 (.ptr b 0) (.int .i64 1)=some (.ptr b 1)/\aj TP 22 (.ptr b 0) (.int .i64 2)=some (.ptr b 2):=⟨by kernel_rfl,by kernel_rfl,by kernel_rfl⟩
theorem Cw2{b:Nat}{k:BK}{x y z:Int}(h:A.blk[b]?=some ⟨[.int .i64 x,.int .i64 y,.int .i64 z],k⟩):aa TP 3 (.ptr b 0) A=some (.int .i64 x)/\aa TP 3 (.ptr b 1) A=some (.int .i64 y)/\aa TP 3 (.ptr b 2) A=some (.int .i64 z):=⟨by rw[Ae3 ag3,Ah8 h];rfl,by rw[Ae3 ag3,Ah8 h];rfl,by rw[Ae3 ag3,Ah8 h];rfl⟩
theorem B71{cs:List V}(hl:cs.length=113)(ho:cs.all V.one=true):∃A',ag TP 41 (.ptr A.blk.length 0) (.agg cs) (A.push ⟨rcZ,.var⟩)=some A'/\Fr S0 A A'/\A'.blk[A.blk.length]?=some ⟨cs,.var⟩:=by
 obtain⟨A2,s1,s2,s3,s4⟩:=Ag5 (P:=TP) A (z:=rcZ) (t:=41) (x:=.agg cs) (cs:=cs) rfl (by rw[hl];exact BI0) (by rw[hl,Ad9]) ho
 exact⟨A2,s1,s2,s3⟩
theorem Bv7(hr:Rng c.rd)(ha:c.rd.al=[]):c.lZ.2.length<=100000:=by
 unfold Co.lZ
 have k2:=hr.bA z32
 rw[ha]at k2
 have h2:=k2.2.1
 rw[List.length_nil,Nat.zero_add]at h2
 refine Nat.le_trans (Am7 _ _) ?_
 omega
theorem A17(hr:Rng c.rd)(ha:c.rd.al=[])(b:Bts):(c.fe b).2.length<=100000:=by
 unfold Co.fe
 split
 . simp
 have k:=hr.fX (az b)
 rw[ha]at k
 have h1:(c.a6 b).2.length<=2000:=by have:=k.2.1;rw[List.length_nil,Nat.zero_add]at this;exact this
 refine Nat.le_trans (Am7 _ _) ?_
 omega
structure oP(A0 D:AS)(K:CoK)(b7:Nat)(c:Co)(j:Nat)(w1 w2:V):Prop where
 js:∃fk ft,Js A0 D K b7 fk ft c c
 pl:dh c j
 ms:∃l,Slc eMsg (dq D) w1 l/\Slc eMsg (dq D) w2 l/\(∀x∈l,ey x)/\l.length<=100000
theorem Js.both{x:Co×List M}{v:V}{F:AS}{X X2:Nat->Prop}{fo fo2:Option Nat}{j:Nat}(hJ:Js A0 F K b7 fk ft x.1 x.1)(hL:Lst eMsg (qHp X F) F w x.2 fo)(hL2:Lst eMsg (qHp X2 F) F v x.2 fo2)(hp:dh x.1 j/\∀y∈x.2,ey y)(hl:x.2.length<=100000):oP A0 F K b7 x.1 j w v:=⟨⟨fk,ft,hJ⟩,hp.1,x.2,BH7 hL,BH7 hL2,hp.2,hl⟩
structure Rk(A0:AS)(K:CoK)(b7:Nat)(v:V)(n i:Nat)(z:Ex)(e:Env)(D:AS):Prop where
 z:Is z .normal
 h60:e.get 60=.int .i64 (i:Int)
 h58:e.get 58=v
 h59:e.get 59=.int .i64 (n:Int)
 h5:e.get 5=.ptr K.cb 0
 h7:e.get 7=.ptr b7 0
 bo:∃c w1 w2,e.get 11=w1/\e.get 12=w2/\oP A0 D K b7 c (i+1) w1 w2
set_option maxRecDepth 10000 in
set_option maxHeartbeats 64000000 in
theorem corePlays_spec{v:V}{a b d:Int}{script:List InC}(hw:WF A)(h0:IntIn .i64 a)(h2:IntIn .i64 d)(hs:Slc eInC (iX A) v script)(hn:script.length<=9223372036854775807):
 ∃u A',EvF TP HH 3 [.agg [.int .i64 a,.int .i64 b,.int .i64 d],v] A u A'/\u=.bool true:=by
 refine Aa4 rfl Tryz.func3 (by unfold Tryz.f3;rfl) Tryz.ntmps3 (by unfold Tryz.f3;rfl) (by simp) ?_
 obtain⟨A1,e1,f1,r1,n1⟩:=Aa3 A [.int .i64 a,.int .i64 b,.int .i64 d]
 obtain⟨b3,hb3⟩:∃b,b=A.blk.length:=⟨_,rfl⟩
 rw[<- hb3]at r1 n1
 have w1:=f1.wf hw
 obtain⟨_,A2,k2,f2,rfl⟩:=AV3 w1
 have w2:=f2.wf w1
 have r2:=f2.af r1
 have ix:=CC0 b3
 have ld2:=Cw2 r2
 simp only[RT,Q0,Q1,Q2,Q3,Q4,Q5,Q6,Q7,Q8,<- hb3,<- e1]
 refine Aa0 k2 ?_
 obtain⟨wn,A3,k3,f3,hC⟩:=A16 w2 h0 h2 (me:=b)
 simp only[RT,Q0,Q1,Q2,Q3,Q4,Q5,Q6,Q7,Q8,Af4,ix,ld2]
 refine Aa0 k3 ?_
 have w3:=f3.wf w2
 have ld3:=Cw2 (f3.af r2)
 rcases hC with⟨hno,rfl⟩ |⟨n,i,rfl,rfl,hok,hlt,hh0,hh1,K,rfl,hN,hC⟩
 . obtain⟨u4,A4,k4,f4,hR⟩:=B49 (X:=fun _=>False) (n:=a) (me:=b) (h:=d) w3 (fun f q=>q.elim)
   rcases hR with⟨_,rfl⟩ |⟨m,i,rfl,rfl,hok,hlt,hh0,hh1,_⟩
   rotate_left
   . exact absurd ⟨⟨by unfold okN at hok;omega,by omega,by omega,hh0⟩,hh1⟩ hno
   obtain⟨A5,s1,s2,s3⟩:=B71 (A:=A4) Ad9 Bj3
   simp only[RT,Q0,Q1,Q2,Q3,Q4,Q5,Q6,Q7,Q8,ix,ld3]
   refine Aa0 k4 ?_
   simp only[RT,Q0,Q1,Q2,Q3,Q4,Q5,Q6,Q7,Q8,Bc5,s1,AY8,Cg1,B70]
 have hC:=hC (fun _=>False) (fun _ q=>q.elim)
 have hC:=hC.oF (Y:=XCo K none none) (fun f q=>.inr q) (fun f q=>q)
 obtain⟨u4,A4,k4,f4,hR⟩:=B49 (X:=XCo K none none) (n:=(n:Int)) (me:=(i:Int)) (h:=d) w3 hC.xlt
 rcases hR with⟨hno,_⟩ |⟨m,i',hm,hi',_,_,_,_,u1,rfl,hR⟩
 . exact absurd ⟨⟨by unfold okN at hok;omega,by omega,by omega,hh0⟩,hh1⟩ hno
 obtain rfl:n=m:=by omega
 obtain rfl:i=i':=by omega
 clear hm hi'
 obtain⟨s,rfl,hI⟩:=hR
 obtain⟨A5,s1,s2,s3⟩:=B71 (A:=A4) hI.len hI.one
 obtain⟨b7,hb7⟩:∃b,b=A4.blk.length:=⟨_,rfl⟩
 rw[<- hb7]at s1 s3
 have f35:=f4.ab s2
 have tT:=f35.len
 have hl4:=f4.len
 have hl3:=f3.len
 have hKl:=hC.lt
 have hJ5:Js A2 A5 K b7 none none (co0 n i d) (co0 n i d):=⟨f3.ab f35,hC.fr0 f35,⟨s,s3,hI.fr0 s2⟩,hN,(fun f q=>by cases q),(fun f q=>by cases q),by omega,by omega,by omega,by omega⟩
 simp only[RT,Q0,Q1,Q2,Q3,Q4,Q5,Q6,Q7,Q8,ix,ld3]
 refine Aa0 k4 ?_
 have f15:=(f1.ab f2).ab hJ5.fr
 obtain⟨_,A6,k6,f6,bo,rfl,hbo⟩:=Bd1 ((Bn6 A).fr0 f15) hs hn
 simp only[RT,Q0,Q1,Q2,Q3,Q4,Q5,Q6,Q7,Q8,Bc5,<- hb7,s1,AY8,Cg1,B64]
 refine Aa0 k6 ?_
 cases bo with
 |false=>simp only[RT,Q0,Q1,Q2,Q3,Q4,Q5,Q6,Q7,Q8,Af4]
 |true =>
 have hl1:=hbo rfl
 have hJ6:=hJ5.fr0 f6
 have hP0:dh (co0 n i d) 0:=⟨fun _=>rfl,Nat.le_refl _,Nat.le_refl _,by show(0:Int)<=_;omega⟩
 have hlen:=fun B=>hs.len (P:=TP) Tryz.underlying23 B
 simp only[RT,Q0,Q1,Q2,Q3,Q4,Q5,Q6,Q7,Q8,Af4,hlen]
 refine Aa6 (fun z e B=>∃(i:Nat) (fk ft:Option Nat) (c:Co),z=script.length-i/\i<=script.length/\e.get 60=.int .i64 i/\e.get 58=v/\e.get 59=.int .i64 script.length/\e.get 5=.ptr K.cb 0/\e.get 7=.ptr b7 0/\Js A2 B K b7 fk ft c c/\dh c i)
  (fun z e B=>Is z (.exit 0))
  ⟨_,0,none,none,_,rfl,by omega,rfl,rfl,rfl,rfl,rfl,hJ6,hP0⟩ ?_ ?_
 rotate_left
 . rintro z e B hz rfl
   simp only[RT,Q0,Q1,Q2,Q3,Q4,Q5,Q6,Q7,Q8]
 rintro z e B ⟨i,fk,ft,c,rfl,hi,h60,h58,h59,h5,h7,hJ,hP⟩
 simp only[RT,Q0,Q1,Q2,Q3,Q4,Q5,Q6,Q7,Q8,h60,h59]
 refine Aa8 (fun q1=>?_) (fun q1=>?_)
 rotate_left
 . simp only[RT,Q0,Q1,Q2,Q3,Q4,Q5,Q6,Q7,Q8]
   rfl
 obtain⟨x,hx⟩:=Ac7 (l:=script) (i:=i) (by omega)
 obtain⟨hdl,hil⟩:=hl1.2 x (List.mem_of_getElem? hx)
 have tU:=hl1.1
 have f12:=f1.ab f2
 have hro:(iX A).le (qHp (fun _=>False) A2):=Hp.le_trans (Bp2 _ A) (Ac8 f12)
 have hmo:∀{B fk ft p r},Js A2 B K b7 fk ft p r->(iX A).on B:=fun h=>(Bn6 A).fr0 (f12.ab h.fr)
 have hmq:∀{B fk ft p r},Js A2 B K b7 fk ft p r->(iX A).le (qHp (XCo K fk ft) B):=fun h=>Hp.le_trans hro (h.ro w2)
 obtain⟨bb,o,cc,g3,g4,g5⟩:=hs.at (P:=TP) (k:=.i64) (hmo hJ) Tryz.underlying23 Cr2 Cx2 hx
 obtain⟨dv,iv,lv,rfl,hin⟩:=BH3 g5
 obtain⟨C,t1,t2,t3⟩:=Bk0 (A:=B) hin
 obtain⟨b10,nB⟩:∃b,b=B.blk.length:=⟨_,rfl⟩
 rw[<- nB]at t1 t3
 have hKb:=hJ.co.lt
 have hbl:=hJ.cx.lt
 have hJC:=hJ.fr0 t2
 have wC:=hJC.fr.wf w2
 have fa:=BH4 b10
 have ldC:=AL3 t3 hin.id
 have hwi:IntKind.i64.wrap ((i:Int)+1)=((i+1:Nat):Int):=by rw[Ac2 (by omega)]
 have hrg:=hJ.co.rng
 have hac:=hJ.co.al
 have hok:=hJ.co.lim
 simp only[RT,Q0,Q1,Q2,Q3,Q4,Q5,Q6,Q7,Q8,h58,h60,g3,g4,Cg0,<- nB,t1,fa,ldC]
 refine Ah4 (Rk A2 K b7 v script.length i) ?_ ?_
 . by_cases k0:x.1=0
   . obtain⟨w,D,p1,p2⟩:=AA9 wC hJC.co (hin.data.mono (hmq hJC)) (by omega)
     obtain⟨fk1,ft1,X1,fo1,hJD,hL,dx⟩:=hJC.prog w2 p2
     have wD:=hJD.fr.wf w2
     have ldD:=AL3 (dx t3 (by omega) (by omega)) hin.id
     obtain⟨u,y1,y2⟩:=hJD.cx.out
     have cv:=Ah2 (P:=TP) (s:=45) (d:=9) (by decide) hin.data (hmo hJD) Tryz.underlying45 Tryz.underlying5 Tryz.underlying9
     obtain⟨_,E,q1,q2,q3⟩:=BK8 (t:=x.2.2.data) wD (fun f q=>hJD.co.xlt f q) y2 hrg hac hok (by have:=hP.bat;omega) (by omega)
     obtain⟨u1,v1,X2,fo2,F,rfl,s4,hJF,hL2,hgo⟩:=hJD.ref w2 q2 q3
     have hBo:=hJF.both (hgo hL) hL2 (BL2 hP _) (Bk1 hrg hac _)
     simp only[RT,Q0,Q1,Q2,Q3,Q4,Q5,Q6,Q7,Q8,DT k0,h5,fa,ldC]
     refine Aa0 p1 ?_
     simp only[RT,Q0,Q1,Q2,Q3,Q4,Q5,Q6,Q7,Q8,h7,y1,fa,ldD,cv]
     refine Aa0 q1 ?_
     simp only[RT,Q0,Q1,Q2,Q3,Q4,Q5,Q6,Q7,Q8,h7,s4]
     refine⟨rfl,?_,?_,?_,?_,?_,_,_,_,rfl,rfl,hBo⟩<;>first |rfl |assumption
   by_cases k1:x.1=1
   . obtain⟨w,D,p1,p2⟩:=Bj4 (w:=x.2.1) wC hJC.co (hin.mono (hmq hJC)) (by omega) (by omega)
     obtain⟨fk1,ft1,X1,fo1,hJD,hL,dx⟩:=hJC.prog w2 p2
     have wD:=hJD.fr.wf w2
     have ldD:=AL3 (dx t3 (by omega) (by omega)) hin.id
     obtain⟨u,y1,y2⟩:=hJD.cx.out
     obtain⟨_,E,q1,q2,q3⟩:=Cn4 (who:=x.2.1) wD (fun f q=>hJD.co.xlt f q) y2 hrg hac hok (by have:=hP.bat;omega) (by have:=hP.cG;omega) (hmo hJD) hin (by omega) (by omega)
     obtain⟨u1,v1,X2,fo2,F,rfl,s4,hJF,hL2,hgo⟩:=hJD.ref w2 q2 q3
     have hBo:=hJF.both (hgo hL) hL2 (B68 hP _ _) (Bv4 hrg hac _ _)
     simp only[RT,Q0,Q1,Q2,Q3,Q4,Q5,Q6,Q7,Q8,DF k0,DT k1,h5,fa,ldC]
     refine Aa0 p1 ?_
     simp only[RT,Q0,Q1,Q2,Q3,Q4,Q5,Q6,Q7,Q8,h7,y1,fa,ldD]
     refine Aa0 q1 ?_
     simp only[RT,Q0,Q1,Q2,Q3,Q4,Q5,Q6,Q7,Q8,h7,s4]
     refine⟨rfl,?_,?_,?_,?_,?_,_,_,_,rfl,rfl,hBo⟩<;>first |rfl |assumption
   by_cases k2':x.1=2
   . obtain⟨w,D,p1,p2⟩:=A15 wC hJC.co (by have:=hP.now;omega)
     obtain⟨fk1,ft1,X1,fo1,hJD,hL,dx⟩:=hJC.prog w2 p2
     have wD:=hJD.fr.wf w2
     obtain⟨u,y1,y2⟩:=hJD.cx.out
     obtain⟨_,E,q1,q2,q3⟩:=B59 wD (fun f q=>hJD.co.xlt f q) y2 hrg hac hok (by have:=hP.now;omega) (by have:=hP.bat;omega)
     obtain⟨u1,v1,X2,fo2,F,rfl,s4,hJF,hL2,hgo⟩:=hJD.ref w2 q2 q3
     have hBo:=hJF.both (hgo hL) hL2 (B69 hP) (Bv5 hrg hac hok.tim)
     simp only[RT,Q0,Q1,Q2,Q3,Q4,Q5,Q6,Q7,Q8,DF k0,DF k1,DT k2',h5]
     refine Aa0 p1 ?_
     simp only[RT,Q0,Q1,Q2,Q3,Q4,Q5,Q6,Q7,Q8,h7,y1]
     refine Aa0 q1 ?_
     simp only[RT,Q0,Q1,Q2,Q3,Q4,Q5,Q6,Q7,Q8,h7,s4]
     refine⟨rfl,?_,?_,?_,?_,?_,_,_,_,rfl,rfl,hBo⟩<;>first |rfl |assumption
   by_cases k3':x.1=3
   . obtain⟨C2,e2⟩:∃D,D=C.push ⟨mc x.2.2 dv iv lv,.arr C.blk.length 0⟩:=⟨_,rfl⟩
     have f22:Fr S0 C C2:=by rw[e2];exact Fr.aF C _
     have r22:C2.blk[C.blk.length]?=some ⟨mc x.2.2 dv iv lv,.arr C.blk.length 0⟩:=by rw[e2];exact Ab9 C _
     have hJ2:=hJC.fr0 f22
     have wC2:=hJ2.fr.wf w2
     have hsl:Slc eMsg (qHp (XCo K fk ft) C2) (.sl C.blk.length 0 1 41) [x.2.2]:=.inr ⟨_,0,mc x.2.2 dv iv lv,rfl,Aj1 r22 (fun q=>by have:=hJC.co.xlt _ q;omega),by rw[Am0 hin.id];show 0+1*41<=41;omega,fun i y hy=>by
      cases i with
      |zero =>
       cases hy
       exact⟨dv,iv,lv,by rw[List.take_of_length_le (by rw[List.length_drop,Am0 hin.id];decide)];simp,hin.mono (hmq hJ2)⟩
      |succ i=>cases hy⟩
     obtain⟨w,D,p1,fk1,p2⟩:=AP2 wC2 hJ2.co hsl (fun y hy=>by rw[List.mem_singleton.1 hy];exact⟨by omega,by omega⟩) (by simp)
     have hJD:=hJ2.step w2 p2
     have wD:=hJD.fr.wf w2
     have ldD:=AL3 (p2.fr.row _ _ (f22.af t3) (TM.box (f22.af t3) (by rintro(y |y)<;>omega))) hin.id
     obtain⟨u,y1,y2⟩:=hJD.cx.out
     obtain⟨u2,E,q1,q2,q3⟩:=Bv2 (m:=iX A) wD (fun f q=>hJD.co.xlt f q) y2 hrg (by have:=hP.bat;omega) (hmo hJD) hin (by omega) (by omega)
     obtain⟨F,s4,s5,hJF⟩:=hJD.te w2 q2 q3
     have hBo:oP A2 F K b7 (c.dg x.2.2) (i+1) .ah .ah:=⟨⟨_,_,hJF⟩,Bv6 hP _,[],.inl ⟨rfl,rfl⟩,.inl ⟨rfl,rfl⟩,(fun x q=>by cases q),by simp⟩
     simp only[RT,Q0,Q1,Q2,Q3,Q4,Q5,Q6,Q7,Q8,DF k0,DF k1,DF k2',DT k3',h5,fa,ldC,A13 hin.id,<- e2]
     refine Aa0 p1 ?_
     simp only[RT,Q0,Q1,Q2,Q3,Q4,Q5,Q6,Q7,Q8,h7,y1,fa,ldD]
     refine Aa0 q1 ?_
     simp only[RT,Q0,Q1,Q2,Q3,Q4,Q5,Q6,Q7,Q8,h7,s4]
     refine⟨rfl,?_,?_,?_,?_,?_,_,_,_,rfl,rfl,hBo⟩<;>first |rfl |assumption
   by_cases k4':x.1=4
   . obtain⟨w,D,p1,p2⟩:=Bi8 wC hJC.co
     obtain⟨fk1,ft1,X1,fo1,hJD,hL,dx⟩:=hJC.prog w2 p2
     have wD:=hJD.fr.wf w2
     obtain⟨u,y1,y2⟩:=hJD.cx.out
     obtain⟨_,E,q1,q2,q3⟩:=Cm9 wD (fun f q=>hJD.co.xlt f q) y2 hrg hac hok (by have:=hP.bat;omega)
     obtain⟨u1,v1,X2,fo2,F,rfl,s4,hJF,hL2,hgo⟩:=hJD.ref w2 q2 q3
     have hBo:=hJF.both (hgo hL) hL2 (B67 hP) (Bv7 hrg hac)
     simp only[RT,Q0,Q1,Q2,Q3,Q4,Q5,Q6,Q7,Q8,DF k0,DF k1,DF k2',DF k3',DT k4',h5]
     refine Aa0 p1 ?_
     simp only[RT,Q0,Q1,Q2,Q3,Q4,Q5,Q6,Q7,Q8,h7,y1]
     refine Aa0 q1 ?_
     simp only[RT,Q0,Q1,Q2,Q3,Q4,Q5,Q6,Q7,Q8,h7,s4]
     refine⟨rfl,?_,?_,?_,?_,?_,_,_,_,rfl,rfl,hBo⟩<;>first |rfl |assumption
   by_cases k5:x.1=5
   . obtain⟨w,D,p1,p2⟩:=AJ3 wC hJC.co (hin.data.mono (hmq hJC)) (by omega)
     obtain⟨fk1,ft1,X1,fo1,hJD,hL,dx⟩:=hJC.prog w2 p2
     have wD:=hJD.fr.wf w2
     have ldD:=AL3 (dx t3 (by omega) (by omega)) hin.id
     obtain⟨u,y1,y2⟩:=hJD.cx.out
     have cv:=Ah2 (P:=TP) (s:=45) (d:=9) (by decide) hin.data (hmo hJD) Tryz.underlying45 Tryz.underlying5 Tryz.underlying9
     obtain⟨_,E,q1,q2,q3⟩:=Bv0 (t:=x.2.2.data) wD (fun f q=>hJD.co.xlt f q) y2 hrg hac hok (by have:=hP.bat;omega) (by omega)
     obtain⟨u1,v1,X2,fo2,F,rfl,s4,hJF,hL2,hgo⟩:=hJD.ref w2 q2 q3
     have hBo:=hJF.both (hgo hL) hL2 (Bk2 hP _) (A17 hrg hac _)
     simp only[RT,Q0,Q1,Q2,Q3,Q4,Q5,Q6,Q7,Q8,DF k0,DF k1,DF k2',DF k3',DF k4',DT k5,h5,fa,ldC]
     refine Aa0 p1 ?_
     simp only[RT,Q0,Q1,Q2,Q3,Q4,Q5,Q6,Q7,Q8,h7,y1,fa,ldD,cv]
     refine Aa0 q1 ?_
     simp only[RT,Q0,Q1,Q2,Q3,Q4,Q5,Q6,Q7,Q8,h7,s4]
     refine⟨rfl,?_,?_,?_,?_,?_,_,_,_,rfl,rfl,hBo⟩<;>first |rfl |assumption
   have hBo:oP A2 C K b7 c (i+1) .ah .ah:=⟨⟨_,_,hJC⟩,hP.le (Nat.le_succ i),[],.inl ⟨rfl,rfl⟩,.inl ⟨rfl,rfl⟩,(fun x q=>by cases q),by simp⟩
   simp only[RT,Q0,Q1,Q2,Q3,Q4,Q5,Q6,Q7,Q8,DF k0,DF k1,DF k2',DF k3',DF k4',DF k5]
   refine⟨rfl,?_,?_,?_,?_,?_,_,_,_,rfl,rfl,hBo⟩<;>first |rfl |assumption
 clear h60 h58 h59 h5 h7 hJ hP hJC
 rintro z e D ⟨rfl,h60,h58,h59,h5,h7,c2,w11,w12,h11,h12,⟨fk2,ft2,hJ⟩,hP,l,hs1,hs2,hsm,hll⟩
 have wD:=hJ.fr.wf w2
 obtain⟨tv,tdv,tbl,x1,_⟩:=hJ.co.cm.ex
 obtain⟨_,E,k8,f8,iv8,fo8,rfl,l8,n8⟩:=Ay9 wD hJ.co.rd x1
 have oL:cw (dq E) (dC c2.rd) .ah iv8 .ah:=⟨rfl,.inl ⟨rfl,rfl⟩,l8.gK (fun b cs q=>by cases q),.inl ⟨rfl,rfl⟩⟩
 obtain⟨F,m9,f9,r9⟩:=Au3 oL
 obtain⟨b13,ru⟩:∃b,b=E.blk.length:=⟨_,rfl⟩
 rw[<- ru]at m9 r9
 have m9:ag TP 48 (.ptr b13 0) (.agg (mc (fc c2.rd.me c2.rd.ai (cW c2.rd)) .ah iv8 .ah)) (E.push ⟨mcZ,.var⟩)=some F:=m9
 have hJF:=hJ.fr0 (f8.ab f9)
 have wF:=hJF.fr.wf w2
 obtain⟨u,y1,y2⟩:=hJF.cx.out
 obtain⟨_,G,k10,f10,iv10,rfl,q10⟩:=AP0 wF y2
 obtain⟨I,m11,f11,r11⟩:=Au3 q10.in_
 obtain⟨b15,nQ⟩:∃b,b=G.blk.length:=⟨_,rfl⟩
 rw[<- nQ]at m11 r11
 have hJI:=(hJF.fr0 f10).fr0 f11
 have wI:=hJI.fr.wf w2
 obtain⟨_,J,k12,f12',dv12,rfl,s12⟩:=AF6 wI hJI.co
 have fFI:=f10.ab f11
 have fDJ:=((f8.ab f9).ab fFI).ab f12'
 have hJJ:=hJI.fr0 f12'
 obtain⟨_,L,k13,f13,rfl⟩:=Bd2 (Ai2 J) (hs1.mono (Av9 fDJ)) (hs2.mono (Av9 fDJ)) hsm (by omega)
 have fFL:=(fFI.ab f12').ab f13
 have hJL:=hJJ.fr0 f13
 have st24:=Bj9 c2.rd
 obtain⟨_,N,k14,f14,b14,rfl,tf⟩:=AU7 (Ai2 L) (x:=dC c2.rd) (y:=dC c2.rd) (oL.mono (Av9 (f9.ab fFL))) ((q10.in_.mono (Bp1 _ G)).mono (Av9 ((f11.ab f12').ab f13))) (by show(cW c2.rd).length<=_;omega) (by show(0:Nat)<=_;omega)
 have hbt:b14=true:=tf.2 rfl
 subst hbt
 have hJN:=hJL.fr0 f14
 have cv:=Ah2 (P:=TP) (s:=45) (d:=9) (by decide) (s12.mono (Ac8 (f13.ab f14))) (Ab5 _ N) Tryz.underlying45 Tryz.underlying5 Tryz.underlying9
 have hdn:(if c2.bL=true then c2.done else [])=c2.done:=by
  cases ho:c2.bL with
  |true=>rfl
  |false=>exact(hP.od ho).symm
 rw[hdn]at cv
 obtain⟨sN,rN,hN7⟩:=hJN.cx
 have lN:=At4 rN hN7
 have fk7:=Bf4 b7
 have lmI:=ldM ((fFL.af r9)) (x:=dC c2.rd) rfl
 have lm2:=ldM ((f12'.ab f13).af r11) (x:=dC c2.rd) rfl
 obtain⟨sb,hsb⟩:∃b:Bool,b=decide (0<(cW c2.rd).length):=⟨_,rfl⟩
 rw[<- hsb]at k8 k10
 simp only[RT,Q0,Q1,Q2,Q3,Q4,Q5,Q6,Q7,Q8,h5]
 refine Aa0 k8 ?_
 simp only[RT,Q0,Q1,Q2,Q3,Q4,Q5,Q6,Q7,Q8,zcM,<- ru,m9,h7,y1]
 refine Aa0 k10 ?_
 simp only[RT,Q0,Q1,Q2,Q3,Q4,Q5,Q6,Q7,Q8,zcM,<- nQ,m11,h5]
 refine Aa0 k12 ?_
 simp only[RT,Q0,Q1,Q2,Q3,Q4,Q5,Q6,Q7,Q8,h11,h12]
 refine Aa0 k13 ?_
 simp only[RT,Q0,Q1,Q2,Q3,Q4,Q5,Q6,Q7,Q8,Af4,AY8,Cg1,beq_self_eq_true,lmI,lm2]
 refine Aa0 k14 ?_
 simp only[RT,Q0,Q1,Q2,Q3,Q4,Q5,Q6,Q7,Q8,Af4,AY8,Cg1,beq_self_eq_true,h7,fk7,lN,cv,DF (show ¬ ¬c2.done=c2.done from fun z=>z rfl),h60,hwi]
 refine⟨script.length-(i+1),by omega,i+1,fk2,ft2,c2,rfl,by omega,?_⟩
 and_intros<;>first |rfl |assumption
end
end Go.Sv.Tryz
