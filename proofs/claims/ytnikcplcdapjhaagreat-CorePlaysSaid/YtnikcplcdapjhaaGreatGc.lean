/- The document's round: one's own vote; what is sure; what one votes for. -/
import Derived.Test.YtnikcplcdapjhaaGreatGb
import Derived.Test.YtnikcplcdapjhaaGreatSv4
open Go.Proofs.Tryz renaming prog → TP
set_option linter.unusedSimpArgs false
set_option linter.unusedVariables false
open Nat renaming reduceLT → Q0, reduceBEq → Q1, reduceEqDiff → Q2, reduceAdd → Q3
open Int renaming reduceEq → Q4, reduceLT → Q5, reduceLE → Q6, reduceGT → Q7, reduceGE → Q8
namespace Go.Sv.Tryz
open Go Go.Proofs
section
variable {X:Nat->Prop} {N:Nat} {A B:AS} {r r':Rd} {ov kv vv tv av w:V} {b:Nat}
theorem B14(g:Nat->V)(a b c:Int):au TP 155 [(0,.int .i64 a),(1,.int .i64 b),(2,.int .i64 c),(3,.agg ((List.range 32).map g))]=some (.agg (.int .i64 a::.int .i64 b::.int .i64 c::(List.range 32).map g)):=by kernel_rfl
theorem BI8{x:Bts}(h:x.length=32)(a b c:Int):au TP 155 [(0,.int .i64 a),(1,.int .i64 b),(2,.int .i64 c),(3,.agg (bc x))]=some (.agg (rvC (a,b,c,x))):=by
 obtain⟨g,hg⟩:=Ac3 (l:=bc x) (n:=32) (by rw[Aa7,h])
 unfold rvC;simp only[];rw[hg];exact B14 g a b c
theorem B15(g:Nat->V)(a b c:Int):au TP 127 [(0,.int .i64 a),(1,.int .i64 b),(2,.int .i64 c),(4,.agg ((List.range 32).map g))]=some (.agg (.int .i64 a::.int .i64 b::.int .i64 c::.int .i64 0::(List.range 32).map g)):=by kernel_rfl
theorem BG1{x:Bts}(h:x.length=32)(a b c:Int):au TP 127 [(0,.int .i64 a),(1,.int .i64 b),(2,.int .i64 c),(4,.agg (bc x))]=some (.agg (aX ⟨a,b,c,0,x⟩)):=by
 obtain⟨g,hg⟩:=Ac3 (l:=bc x) (n:=32) (by rw[Aa7,h])
 unfold aX;simp only[];rw[hg];exact B15 g a b c
theorem BI9(g:Nat->V)(a b c:Int):au TP 127 [(0,.int .i64 a),(1,.int .i64 b),(3,.int .i64 c),(4,.agg ((List.range 32).map g))]=some (.agg (.int .i64 a::.int .i64 b::.int .i64 0::.int .i64 c::(List.range 32).map g)):=by kernel_rfl
theorem Bh6{x:Bts}(h:x.length=32)(a b c:Int):au TP 127 [(0,.int .i64 a),(1,.int .i64 b),(3,.int .i64 c),(4,.agg (bc x))]=some (.agg (aX ⟨a,b,0,c,x⟩)):=by
 obtain⟨g,hg⟩:=Ac3 (l:=bc x) (n:=32) (by rw[Aa7,h])
 unfold aX;simp only[];rw[hg];exact BI9 g a b c
theorem BJ0(g:Nat->V)(a b:Int):au TP 127 [(0,.int .i64 a),(1,.int .i64 b),(4,.agg ((List.range 32).map g))]=some (.agg (.int .i64 a::.int .i64 b::.int .i64 0::.int .i64 0::(List.range 32).map g)):=by kernel_rfl
theorem B16{x:Bts}(h:x.length=32)(a b:Int):au TP 127 [(0,.int .i64 a),(1,.int .i64 b),(4,.agg (bc x))]=some (.agg (aX ⟨a,b,0,0,x⟩)):=by
 obtain⟨g,hg⟩:=Ac3 (l:=bc x) (n:=32) (by rw[Aa7,h])
 unfold aX;simp only[];rw[hg];exact BJ0 g a b
theorem BJ1{l:List RV}{v:V}{n:Nat}{V0:Vt}{r k w0:Int}{id:Bts}{m:Hp}(hw:WF A)(hm:m.on A)(h:Slc eRV m v l)(hV:VLn n V0 l)(hn:okN n)(hid:id.length=32):
 ∃u A',EvF TP HH 80 [.int .i64 (n:Int),v,.agg (rvC (r,k,w0,id))] A u A'/\Fr S0 A A'/\∃v' l',u=.tup [v',.int .i64 (cT n V0 r k w0 id)]/\VLn n (dG n V0 r k w0 id) l'/\(¬cT n V0 r k w0 id=0/\v'=v/\l'=l∨cT n V0 r k w0 id=0/\eM eRV A.blk.length A' v' l'):=by
 have hn7:n<=7:=by unfold okN at hn;omega
 have:=hV.len hn7
 obtain⟨u,A',k1,k2,v',l',k3,k5,k6⟩:=Bh0 hw hm h (by omega) hV.vl hid (r:=r) (k:=k) (w0:=w0)
 rcases k6 with⟨q,rfl,rfl⟩ |⟨q,rfl,k7⟩
 . exact⟨u,A',k1,k2,_,_,k3,⟨k5,hV.nd⟩,.inl ⟨q,rfl,rfl⟩⟩
 . exact⟨u,A',k1,k2,_,_,k3,⟨k5,(hV.put q).nd⟩,.inr ⟨q,k7⟩⟩
set_option maxRecDepth 10000 in
set_option maxHeartbeats 16000000 in
theorem Bt0{k:Nat}{id:Bts}(hw:WF A)(h:RRs X N A r w)(hk:k<2)(hid:id.length=32)(hl:r.al.length<=100000):∃u A',EvF TP HH 85 [w,.int .i64 (k:Int),.agg (bc id)] A u A'/\Fr S0 A A'/\RRs X N A' (r.vote k id) u:=by
 refine Aa4 rfl Tryz.func85 (by unfold Tryz.f85;rfl) Tryz.ntmps85 (by unfold Tryz.f85;rfl) (by simp) ?_
 obtain⟨cs,rfl,A1,e1,f1,hB1⟩:=h.new
 obtain⟨b3,hb3⟩:∃b,b=A.blk.length:=⟨_,rfl⟩
 rw[<- hb3]at hB1
 obtain⟨A2,e2,f2,r2,n2⟩:=Aa3 A1 (bc id)
 obtain⟨b5,hb5⟩:∃b,b=A1.blk.length:=⟨_,rfl⟩
 rw[<- hb5]at r2
 obtain⟨A3,e3,f3,r3,n3⟩:=Aa3 A2 rrZ.cs
 obtain⟨b6,hb6⟩:∃b,b=A2.blk.length:=⟨_,rfl⟩
 rw[<- hb6]at r3
 have hlt:b3<b5/\b5<b6:=by
  obtain⟨cs,q⟩:=hB1.box
  have:=Ab3 q
  have:=Ab3 r2
  omega
 have fa:=AJ1 b3
 have hB3:=(hB1.fr0 f2).fr0 f3
 have f13:Fr S0 A A3:=(f1.ab f2).ab f3
 have w3:=f13.wf hw
 have r2':=f3.af r2
 obtain⟨ov,kv,vv,tv,av,hb,hr⟩:=hB3
 have ld:=AA8 hb hr
 obtain⟨l,hS,hV⟩:=hr.vv
 obtain⟨_,A4,k1,k2,v',l',rfl,k4,k5⟩:=BJ1 (r:=r.now) (k:=(k:Int)) (w0:=(r.me:Int)) w3 (Ab5 X _) hS hV hr.n hid
 have hB4:Bx X N A4 b3 r:=Bx.fr0 ⟨_,_,_,_,_,hb,hr⟩ k2
 have w4:=k2.wf w3
 have r4:=k2.af r3
 have r2'':=k2.af r2'
 have hwk:IntKind.i64.wrap (1+(k:Int))=1+(k:Int):=Ac6 (by omega) (by omega)
 unfold Rd.vote
 simp only[RT,Q0,Q1,Q2,Q3,Q4,Q5,Q6,Q7,Q8,<- e1,<- hb3]
 simp only[RT,Q0,Q1,Q2,Q3,Q4,Q5,Q6,Q7,Q8,<- hb5,<- e2,AI9]
 simp only[RT,Q0,Q1,Q2,Q3,Q4,Q5,Q6,Q7,Q8,<- hb6,<- e3,fa,ld,ldI r2' hid,BI8 hid]
 refine Aa0 k1 ?_
 by_cases q:cT r.n r.v r.now k r.me id=0
 rotate_left
 . obtain⟨B,s1,s2,s3⟩:=hB4.mP w4 (1+(k:Int))
   obtain⟨u,C,y1,y2,y3,y4,y5⟩:=s3.fin (s2.wf w4) (s2.aq r4 (by omega))
   simp only[RT,Q0,Q1,Q2,Q3,Q4,Q5,Q6,Q7,Q8,DF q,hwk,fa,s1,y1,y2,y3]
   rw[if_neg q]
   exact⟨((f13.ab k2).ar s2 (by omega)).ar y4 (by omega),y5⟩
 rw[q]at k1
 have k5':=(k5.resolve_left fun z=>z.1 q).2
 obtain⟨B,s1,s2,s3⟩:=Bx.eF ⟨_,_,_,_,_,hb,hr⟩ w3 k2 k5' k4
 have wB:=s2.wf w4
 obtain⟨u1,y1,y2⟩:=s3.out
 obtain⟨ov5,kv5,vv5,tv5,av5,mQ,hr5⟩:=s3
 have ld5:=AA8 mQ hr5
 have s3:Bx X N B b3 _:=⟨_,_,_,_,_,mQ,hr5⟩
 have rB:=s2.aq r2'' (by omega)
 obtain⟨u2,C,z1,z2,z3⟩:=rDo wB y2 (a:=⟨2,r.now,k,0,id⟩) hid hl
 obtain⟨D,t1,t2,t3⟩:=(s3.fr0 z2).set (z2.wf wB) z3
 have wD:=t2.wf (z2.wf wB)
 obtain⟨E,x1,x2,x3⟩:=t3.mP wD (1+(k:Int))
 obtain⟨u,G,p1,p2,p3,p4,p5⟩:=x3.fin (x2.wf wD) (x2.aq (t2.aq (z2.af (s2.aq r4 (by omega))) (by omega)) (by omega))
 rw[q]
 simp only[RT,Q0,Q1,Q2,Q3,Q4,Q5,Q6,Q7,Q8,fa,s1,y1,ld5,ldI rB hid,BG1 hid]
 refine Aa0 z1 ?_
 simp only[RT,Q0,Q1,Q2,Q3,Q4,Q5,Q6,Q7,Q8,t1,hwk,fa,x1,p1,p2,p3]
 exact⟨(((((f13.ab k2).ar s2 (by omega)).ab z2).ar t2 (by omega)).ar x2 (by omega)).ar p4 (by omega),p5⟩
end
end Go.Sv.Tryz
namespace Go.Sv.Tryz
open Go Go.Proofs
section
variable {X:Nat->Prop} {N:Nat} {A B:AS} {r r':Rd} {ov kv vv tv av w:V} {b:Nat}
theorem cD.oB(h:cD X N A r ov kv vv tv av)(R K:Int):((dz r.n r.v R K).getD z32).length=32:=by
 obtain⟨l,hS,hV⟩:=h.vv
 rw[<- hV.vl.sure h.n]
 unfold iQ
 cases hf:l.find? fun p=>decide (p.1=R/\p.2.1=K/\bu r.n<=eY l R K p.2.2.2)with
 |none=>rfl
 |some p =>
  obtain⟨j,hj⟩:=List.mem_iff_getElem?.1 (List.mem_of_find?_eq_some hf)
  exact(BI3 (Ab5 X A) hS hj).choose_spec.choose_spec.2.2
set_option maxRecDepth 10000 in
set_option maxHeartbeats 8000000 in
theorem BJ2{R K:Int}(hw:WF A)(h:RRs X N A r w):∃u A',EvF TP HH 107 [w,.int .i64 R,.int .i64 K] A u A'/\Fr S0 A A'/\∃x,x.length=32/\u=.tup [.agg (bc x),.bool (r.sure R K).isSome]/\∀id,r.sure R K=some id->x=id:=by
 refine Aa4 rfl Tryz.func107 (by unfold Tryz.f107;rfl) Tryz.ntmps107 (by unfold Tryz.f107;rfl) (by simp) ?_
 obtain⟨cs,rfl,A1,e1,f1,hB1⟩:=h.new
 obtain⟨b3,hb3⟩:∃b,b=A.blk.length:=⟨_,rfl⟩
 rw[<- hb3]at hB1
 obtain⟨A2,e2,f2,r2,n2⟩:=Aa3 A1 (bc bF)
 obtain⟨b6,hb6⟩:∃b,b=A1.blk.length:=⟨_,rfl⟩
 rw[<- hb6]at r2
 have hlt:b3<b6:=by
  obtain⟨cs,q⟩:=hB1.box
  have:=Ab3 q
  omega
 have fa:=AJ1 b3
 have f12:Fr S0 A A2:=f1.ab f2
 have w2:=f12.wf hw
 obtain⟨ov,kv,vv,tv,av,hb,hr⟩:=hB1.fr0 f2
 have ld:=AA8 hb hr
 obtain⟨l,hS,hV⟩:=hr.vv
 have hn7:r.n<=7:=by have:=hr.n;unfold okN at this;omega
 have hll:=hV.len hn7
 obtain⟨_,A3,k1,k2,rfl⟩:=Ba5 (r:=R) (k:=K) hr.n (Ab5 X A2) hS (by omega) hV.vl
 have hxl:=hr.oB R K
 obtain⟨x,hx⟩:∃x,x=(dz r.n r.v R K).getD z32:=⟨_,rfl⟩
 rw[<- hx]at k1 hxl
 obtain⟨A4,e4,f4,r4,n4⟩:=Aa3 A3 (bc bF)
 obtain⟨b8,hb8⟩:∃b,b=A3.blk.length:=⟨_,rfl⟩
 rw[<- hb8]at r4
 obtain⟨A5,s1,s2,s3⟩:=AA5 r4 (by simp[bF]) hxl
 have h68:b6<b8:=by have:=Ab3 (k2.af r2);omega
 have r6:=s2.aq (f4.af (k2.af r2)) (by omega)
 have f15:Fr S0 A A5:=((f12.ab k2).ab f4).ar s2 (by have:=f12.len;have:=k2.len;omega)
 simp only[RT,Q0,Q1,Q2,Q3,Q4,Q5,Q6,Q7,Q8,<- e1,<- hb3]
 simp only[RT,Q0,Q1,Q2,Q3,Q4,Q5,Q6,Q7,Q8,Av8,<- hb6,<- e2,fa,ld]
 refine Aa0 k1 ?_
 simp only[RT,Q0,Q1,Q2,Q3,Q4,Q5,Q6,Q7,Q8,Av8]
 simp only[RT,Q0,Q1,Q2,Q3,Q4,Q5,Q6,Q7,Q8,<- hb8,<- e4,s1]
 obtain⟨_,A6,m1,m2,rfl⟩:=Ai3 A5
 cases hs:dz r.n r.v R K with
 |none =>
  have e:r.sure R K=none:=by unfold Rd.sure;rw[hs]
  obtain⟨A7,t1,t2,t3⟩:=AA5 r6 (by simp[bF]) hxl
  simp only[RT,Q0,Q1,Q2,Q3,Q4,Q5,Q6,Q7,Q8,Ba0,ldI s3 hxl,Aa1,Option.isSome_none,t1]
  refine⟨Aa5 (ha:=rfl) rfl (ldI s3 hxl) rfl <| Ad0 rfl rfl rfl rfl Aa1,Ad0 rfl rfl rfl rfl Aa1,?_⟩
  simp only[RT,Q0,Q1,Q2,Q3,Q4,Q5,Q6,Q7,Q8,ldI t3 hxl]
  exact⟨f15.ar t2 (by omega),x,hxl,by rw[e];rfl,fun id hid=>by rw[e]at hid;cases hid⟩
 |some y =>
  have hxy:x=y:=by rw[hx,hs];rfl
  have r6':=m2.af r6
  have s3':=m2.af s3
  obtain⟨A7,t1,t2,t3⟩:=AA5 r6' (by simp[bF]) hxl
  simp only[RT,Q0,Q1,Q2,Q3,Q4,Q5,Q6,Q7,Q8,Ba0,ldI s3 hxl,Aa1,Option.isSome_some]
  refine Aa0 m1 ?_
  simp only[RT,Q0,Q1,Q2,Q3,Q4,Q5,Q6,Q7,Q8]
  refine⟨Aa5 (ha:=rfl) rfl (ldI s3' hxl) rfl <| Ac4 rfl rfl rfl rfl rfl (ldI s3' hxl) rfl Aa1,?_⟩
  simp only[RT,Q0,Q1,Q2,Q3,Q4,Q5,Q6,Q7,Q8,eqZ hxl Ad3,Aa1,t1]
  refine⟨Ac4 rfl rfl rfl rfl rfl (ldI (t2.aq s3' (by omega)) hxl) rfl Aa1,?_⟩
  simp only[RT,Q0,Q1,Q2,Q3,Q4,Q5,Q6,Q7,Q8,ldI t3 hxl]
  refine⟨(f15.ab m2).ar t2 (by omega),x,hxl,?_,?_⟩
  . unfold Rd.sure;rw[hs];simp only[]
    rw[hxy]
    by_cases q:y=n32
    . rw[if_pos q];simp[q]
    . rw[if_neg q];simp[q]
  . intro id hid
    unfold Rd.sure at hid;rw[hs]at hid;simp only[]at hid
    split at hid
    . cases hid
    . rw[hxy];exact Option.some.inj hid
def kr(r:Rd)(o:ROf):Bts:=(r.choice ⟨true,o.2.1,o.2.2⟩).getD z32
theorem Bt1{k:BK}{o:ROf}(hb:A.blk[b]?=some ⟨roC o,k⟩)(h:o.2.2.length=32):aa TP 3 (.ptr b 1) A=some (.int .i64 o.2.1)/\aa TP 30 (.ptr b 2) A=some (.agg (bc o.2.2)):=
 ⟨At.cC hb (o:=1) ⟨[.int .i64 o.1],bc o.2.2,rfl,rfl⟩ ag3,At.load hb (o:=2) ⟨[.int .i64 o.1,.int .i64 o.2.1],[],by simp[roC],rfl⟩ Av4 Ap3 (by rw[Aa7,h])⟩
set_option maxRecDepth 10000 in
set_option maxHeartbeats 16000000 in
theorem Bh7{o:ROf}(hw:WF A)(h:RRs X N A r w)(ho:o.2.2.length=32)(h0:0<=o.2.1)(h1:o.2.1<=1000):∃u A',EvF TP HH 109 [w,.agg (roC o)] A u A'/\Fr S0 A A'/\u=.agg (bc (kr r o)):=by
 refine Aa4 rfl Tryz.func109 (by unfold Tryz.f109;rfl) Tryz.ntmps109 (by unfold Tryz.f109;rfl) (by simp) ?_
 obtain⟨cs,rfl,A1,e1,f1,hB1⟩:=h.new
 obtain⟨b2,hb2⟩:∃b,b=A.blk.length:=⟨_,rfl⟩
 rw[<- hb2]at hB1
 obtain⟨A2,e2,f2,r2,n2⟩:=Aa3 A1 (roC o)
 obtain⟨b3,hb3⟩:∃b,b=A1.blk.length:=⟨_,rfl⟩
 rw[<- hb3]at r2
 obtain⟨A3,e3,f3,r3,n3⟩:=Aa3 A2 (bc bF)
 obtain⟨b4,hb4⟩:∃b,b=A2.blk.length:=⟨_,rfl⟩
 rw[<- hb4]at r3
 have hlt:b2<b3/\b3<b4:=by
  obtain⟨cs,q⟩:=hB1.box
  have:=Ab3 q
  have:=Ab3 r2
  omega
 have f13:Fr S0 A A3:=(f1.ab f2).ab f3
 have w3:=f13.wf hw
 have r2':=f3.af r2
 have hB3:=(hB1.fr0 f2).fr0 f3
 have fa:=AJ1 b2
 have fo:=Cf5 b3 0
 simp only[Nat.zero_add]at fo
 have lo:=Bt1 r2' ho
 obtain⟨u3,y1,y2⟩:=hB3.out
 obtain⟨ov,kv,vv,tv,av,hb,hr⟩:=hB3
 have ld:=AA8 hb hr
 have li:=Cf7 hb hr
 have eqL:=eqZ hr.lk ho
 have fin:∀{B:AS} {x:Bts},Fr S0 A3 B->x.length=32->∃C,ag TP 30 (.ptr b4 0) (.agg (bc x)) B=some C/\aa TP 30 (.ptr b4 0) C=some (.agg (bc x))/\Fr S0 A C:=fun {B x} hf hx=>by
  obtain⟨C,s1,s2,s3⟩:=AA5 (hf.af r3) (by simp[bF]) hx
  exact⟨C,s1,ldI s3 hx,(f13.ab hf).ar s2 (by omega)⟩
 obtain⟨C1,p1,p2,p3⟩:=fin (.refl _ _) ho
 obtain⟨_,B2,m1,m2,rfl⟩:=Ai3 A3
 obtain⟨C2,q1,q2,q3⟩:=fin m2 Ad3
 unfold kr Rd.choice
 simp only[]
 simp only[RT,Q0,Q1,Q2,Q3,Q4,Q5,Q6,Q7,Q8,<- e1,<- hb2]
 simp only[RT,Q0,Q1,Q2,Q3,Q4,Q5,Q6,Q7,Q8,<- hb3,<- e2,Av8]
 simp only[RT,Q0,Q1,Q2,Q3,Q4,Q5,Q6,Q7,Q8,<- hb4,<- e3]
 by_cases c0:o.2.1=0
 . by_cases c1:r.locked=0
   . simp only[RT,Q0,Q1,Q2,Q3,Q4,Q5,Q6,Q7,Q8,fa,ld,DT c1,fo,lo,DT c0,p1,p2]
     rw[if_pos ⟨c0,.inl c1⟩]
     exact⟨p3,rfl⟩
   by_cases c2:r.lock=o.2.2
   . simp only[RT,Q0,Q1,Q2,Q3,Q4,Q5,Q6,Q7,Q8,fa,ld,li,eqL,DF c1,fo,lo,DT c0,DT c2,p1,p2]
     rw[if_pos ⟨c0,.inr c2⟩]
     exact⟨p3,rfl⟩
   . simp only[RT,Q0,Q1,Q2,Q3,Q4,Q5,Q6,Q7,Q8,fa,ld,li,eqL,DF c1,fo,lo,DT c0,DF c2]
     refine Aa0 m1 ?_
     simp only[RT,Q0,Q1,Q2,Q3,Q4,Q5,Q6,Q7,Q8,q1,q2]
     rw[if_neg (by rintro⟨_,z |z⟩;exact c1 z;exact c2 z),if_neg (by omega)]
     exact⟨q3,rfl⟩
 rw[if_neg (fun z=>c0 z.1)]
 obtain⟨t1,ht1⟩:∃t,decide (r.locked=0)=t:=⟨_,rfl⟩
 obtain⟨t2,ht2⟩:∃t,decide (r.lock=o.2.2)=t:=⟨_,rfl⟩
 by_cases c3:o.2.1>r.now
 . rw[if_neg (fun z=>by have:=z.2;omega)]
   cases t1<;>cases t2
   all_goals
    simp only[RT,Q0,Q1,Q2,Q3,Q4,Q5,Q6,Q7,Q8,fa,ld,li,eqL,ht1,ht2,fo,lo,DF c0,DT c3]
    refine Aa0 m1 ?_
    simp only[RT,Q0,Q1,Q2,Q3,Q4,Q5,Q6,Q7,Q8,q1,q2]
    exact⟨q3,rfl⟩
 rw[if_pos (show o.2.1>0/\o.2.1<=r.now by omega)]
 obtain⟨_,B4,k1,k2,x,hx,rfl,hsx⟩:=BJ2 w3 y2 (R:=o.2.1-1) (K:=0)
 have hwo:IntKind.i64.wrap (o.2.1-1)=o.2.1-1:=Ac6 (by omega) (by omega)
 have es:=An1 (a:=o.2.1) (b:=1) (by omega) (by omega)
 obtain⟨B5,e5,f5,r5,n5⟩:=Aa3 B4 (bc bF)
 obtain⟨b6,hb6⟩:∃b,b=B4.blk.length:=⟨_,rfl⟩
 rw[<- hb6]at r5
 obtain⟨B6,s1,s2,s3⟩:=AA5 r5 (by simp[bF]) hx
 have fB:Fr S0 A3 B6:=(k2.ab f5).ar s2 (by have:=k2.len;omega)
 have lo6:=Bt1 (fB.af r2') ho
 have ld6:=AA8 (fB.af hb) (hr.fr0 fB)
 have li6:=Cf7 (fB.af hb) (hr.fr0 fB)
 obtain⟨D1,u1,u2,u4⟩:=fin fB ho
 obtain⟨D2,v1,v2,v4⟩:=fin fB Aa9
 obtain⟨_,B7,m3,m4,rfl⟩:=Ai3 B6
 obtain⟨D3,x1,x2,x4⟩:=fin (fB.ab m4) Ad3
 cases t1<;>cases t2
 all_goals
  simp only[RT,Q0,Q1,Q2,Q3,Q4,Q5,Q6,Q7,Q8,fa,ld,li,eqL,ht1,ht2,fo,lo,DF c0,DF c3,y1,es]
  refine Aa0 k1 ?_
  simp only[RT,Q0,Q1,Q2,Q3,Q4,Q5,Q6,Q7,Q8,Av8]
  simp only[RT,Q0,Q1,Q2,Q3,Q4,Q5,Q6,Q7,Q8,<- hb6,<- e5,s1,Af4]
  cases hs:r.sure (o.2.1-1) 0 with
  |none =>
   simp only[RT,Q0,Q1,Q2,Q3,Q4,Q5,Q6,Q7,Q8,Option.isSome_none,Ad8,v1,v2]
   exact⟨v4,rfl⟩
  |some id =>
   obtain rfl:=hsx id hs
   by_cases c5:x=o.2.2
   rotate_left
   . simp only[RT,Q0,Q1,Q2,Q3,Q4,Q5,Q6,Q7,Q8,Option.isSome_some,ldI s3 hx,fo,lo6,eqZ hx ho,DF c5,Bool.not_false,Ad8,v1,v2]
     rw[if_pos (fun z=>c5 (Option.some.inj z))]
     exact⟨v4,rfl⟩
   rw[if_neg (fun z=>z (by rw[c5]))]
   by_cases c6:r.locked<=o.2.1
   . simp only[RT,Q0,Q1,Q2,Q3,Q4,Q5,Q6,Q7,Q8,Option.isSome_some,ldI s3 hx,fo,lo6,eqZ hx ho,DT c5,Bool.not_true,fa,ld6,DT c6,u1,u2]
     rw[if_pos (.inl c6)]
     exact⟨u4,rfl⟩
   by_cases c7:r.lock=o.2.2
   . simp only[RT,Q0,Q1,Q2,Q3,Q4,Q5,Q6,Q7,Q8,Option.isSome_some,ldI s3 hx,fo,lo6,eqZ hx ho,DT c5,Bool.not_true,fa,ld6,li6,eqL,DF c6,DT c7,u1,u2]
     rw[if_pos (.inr c7)]
     exact⟨u4,rfl⟩
   . simp only[RT,Q0,Q1,Q2,Q3,Q4,Q5,Q6,Q7,Q8,Option.isSome_some,ldI s3 hx,fo,lo6,eqZ hx ho,DT c5,Bool.not_true,fa,ld6,li6,eqL,DF c6,DF c7]
     refine Aa0 m3 ?_
     simp only[RT,Q0,Q1,Q2,Q3,Q4,Q5,Q6,Q7,Q8,x1,x2]
     rw[if_neg (by rintro(z |z);exact c6 z;exact c7 z)]
     exact⟨x4,rfl⟩
end
end Go.Sv.Tryz
namespace Go.Sv.Tryz
open Go Go.Proofs
structure Rng(r:Rd):Prop where
 me:r.me<r.n
 now:-1<=r.now/\r.now<12
 ai:0<=r.ai/\r.ai<=9223372036854775807
 valid:0<=r.valid/\r.valid<=1000
 locked:0<=r.locked/\r.locked<=1000
 step:0<=r.step/\r.step<=3
 known:r.known.length<=1000000
 offers:∀i,0<=(r.offers i).valid/\(r.offers i).valid<=1000
theorem AO6{f:Nat->Ofr}{i:Nat}{o:Ofr}(h:∀j,(f j).id.length=32)(ho:o.id.length=32)(j:Nat):(fM f i o j).id.length=32:=by
 unfold fM;split
 . exact ho
 . exact h j
section
variable {A A' B:AS} {rp cp:Nat} {r r':Rd} {vb:Nat->Nat} {fk fa fk' fa':Option Nat} {kv av:V}
set_option maxRecDepth 10000 in
set_option maxHeartbeats 16000000 in
theorem Ay8(hw:WF A)(h:a4 A rp r cp vb fk fa)(hr:Rng r){R:Int}(hR:0<=R)(hR2:R<=9223372036854775807)(hl:r.al.length<=10000000):∃w A',EvF TP HH 68 [.ptr rp 0,.int .i64 R] A w A'/\aJ A rp cp vb fk fa A' (r.begin R):=by
 refine Aa4 rfl Tryz.func68 (by unfold Tryz.f68;rfl) Tryz.ntmps68 (by unfold Tryz.f68;rfl) (by simp) ?_
 simp only[RT,Q0,Q1,Q2,Q3,Q4,Q5,Q6,Q7,Q8]
 have hfa:=AB9 rp
 obtain⟨kv,av,b1,b2,b3⟩:=h.box
 unfold Rd.begin
 by_cases q12:12<=R
 . obtain⟨A1,s1,s2,s3⟩:=(AC0 b1 h.ok 3).2.1
   have h1:a4 A1 rp { r with step:=3 } cp vb fk fa:=h.upd b1 b2 b3 s2 s3 rfl rfl rfl rfl { h.ok with }
   simp only[RT,Q0,Q1,Q2,Q3,Q4,Q5,Q6,Q7,Q8,DT (show R>=12 from q12),hfa,s1]
   rw[if_pos q12]
   exact .upd s2 h1
 rw[if_neg q12]
 obtain⟨i,rfl⟩:=Int.eq_ofNat_of_zero_le hR
 have dW:i<12:=by omega
 obtain⟨A1,s1,s2,s3⟩:=(AC0 b1 h.ok (i:Int)).1
 have h1:a4 A1 rp { r with now:=(i:Int) } cp vb fk fa:=h.upd b1 b2 b3 s2 s3 rfl rfl rfl rfl { h.ok with }
 have b2':=b2.fr s2 (.box b1)
 have b3':=b3.fr s2 (.box b1)
 obtain⟨A2,t1,t2,t3⟩:=(AC0 s3 h1.ok 0).2.1
 have h2:a4 A2 rp { r with now:=(i:Int),step:=0 } cp vb fk fa:=h1.upd s3 b2' b3' t2 t3 rfl rfl rfl rfl { h.ok with }
 have w1:=s2.wf hw
 have w2:=t2.wf w1
 have step2:∀{A':AS} {r':Rd},aJ A2 rp cp vb fk fa A' r'->aJ A rp cp vb fk fa A' r':=fun k=>aJ.next hw (s2.mono fun _ q=>.inl q) (.inl rfl) (.inl rfl) (aJ.next w1 (t2.mono fun _ q=>.inl q) (.inl rfl) (.inl rfl) k)
 have ld2:=Ap1 t3 h2.ok
 obtain⟨r1,hr1⟩:∃r1:Rd,r1={ r with now:=(i:Int),step:=0 }:=⟨_,rfl⟩
 have en:r1.n=r.n/\r1.me=r.me/\r1.ai=r.ai/\r1.valid=r.valid/\r1.known=r.known/\r1.al=r.al/\r1.a7=r.a7/\r1.fresh=r.fresh/\r1.offers=r.offers/\r1.now=(i:Int)/\r1.step=0:=by rw[hr1];exact⟨rfl,rfl,rfl,rfl,rfl,rfl,rfl,rfl,rfl,rfl,rfl⟩
 rw[<- hr1]at h2 t3 ⊢
 have hsm:=h.cnt.small
 obtain⟨_,_,p1,hA,rfl⟩:=Ap6 (A:=A2) (n:=r.n) (h:=r.ai) (k:=(i:Int)) (by omega) (by omega) (by have:=hr.ai;omega) hr.ai.2 (by omega) (by omega)
 rw[hA]at p1
 simp only[RT,Q0,Q1,Q2,Q3,Q4,Q5,Q6,Q7,Q8,DF (show ¬(i:Int)>=12 from q12),hfa,s1,t1,BV5,ld2,Aa1]
 refine Aa0 p1 ?_
 simp only[RT,Q0,Q1,Q2,Q3,Q4,Q5,Q6,Q7,Q8,Aa1]
 refine⟨Aa5 (ha:=rfl) rfl ld2.2.1 rfl Aa1,?_⟩
 have tm:∀{B:AS} (hB:Fr S0 A2 B),∃w A',EvF TP HH 91 [.ptr rp 0,.int .i64 0] B w A'/\aJ A rp cp vb fk fa A' (r1.timer 0):=by
  intro B hB
  obtain⟨w,A',k1,k2⟩:=Ay5 (hB.wf w2) (h2.fr0 hB) (k:=0) (by omega) (by rw[en.2.2.2.2.2.2.2.2.2.1];omega) (by rw[en.2.2.2.2.2.2.2.2.2.1];omega) (by rw[en.2.2.2.2.2.1];omega)
  exact⟨w,A',k1,step2 (aJ.br w2 hB k2)⟩
 by_cases qp:aP r.n r.ai i=r.me
 rotate_left
 . obtain⟨w,A3,k1,k2⟩:=tm (.refl _ _)
   simp only[RT,Q0,Q1,Q2,Q3,Q4,Q5,Q6,Q7,Q8,DT (show ¬(aP (r.n:Int) r.ai i=(r.me:Int))from qp),Aa1]
   refine Aa0 k1 ?_
   simp only[RT,Q0,Q1,Q2,Q3,Q4,Q5,Q6,Q7,Q8]
   rw[if_pos qp]
   exact k2
 simp only[RT,Q0,Q1,Q2,Q3,Q4,Q5,Q6,Q7,Q8,DF (show ¬ ¬(aP (r.n:Int) r.ai i=(r.me:Int))from fun q=>q qp),Aa1,hfa,ld2,A59]
 obtain⟨A3,u1,u2,u3⟩:=AN5 (A:=A2) h.ok.fresh
 simp only[RT,Q0,Q1,Q2,Q3,Q4,Q5,Q6,Q7,Q8,u1]
 have h3:=h2.fr0 u2
 have w3:=u2.wf w2
 have ld3:=Ap1 (u2.af t3) h3.ok
 rw[en.2.2.2.1,en.2.2.2.2.2.2.1]at ld3
 simp only[RT,Q0,Q1,Q2,Q3,Q4,Q5,Q6,Q7,Q8,hfa,ld3]
 obtain⟨id,hid⟩:∃id,id=if r.valid>0 then r.a7 else r.fresh:=⟨_,rfl⟩
 have dt:id.length=32:=by rw[hid];split;exact h.ok.a7;exact h.ok.fresh
 rw[if_neg (show ¬aP r.n r.ai i≠r.me from fun q=>q qp),<- hid]
 refine Ah4 (fun z e B=>Is z .normal/\e.get 0=.ptr rp 0/\e.get 1=.int .i64 i/\e.get 4=.ptr A2.blk.length 0/\Fr S0 A2 B/\B.blk[A2.blk.length]?=some ⟨bc id,.var⟩) ?_ ?_
 . refine Aa8 (fun q=>?_) (fun q=>?_)
   . rw[if_pos q]at hid
     obtain⟨A4,y1,y2,y3⟩:=AJ0 u3 h.ok.fresh h.ok.a7
     simp only[RT,Q0,Q1,Q2,Q3,Q4,Q5,Q6,Q7,Q8,hfa,ld3,y1]
     exact⟨rfl,u2.ar y2 (Nat.le_refl _),by rw[hid];exact y3⟩
   . rw[if_neg q]at hid
     simp only[RT,Q0,Q1,Q2,Q3,Q4,Q5,Q6,Q7,Q8]
     exact⟨rfl,u2,by rw[hid];exact u3⟩
 rintro z e B ⟨rfl,g0,g1,g4,hB,gB⟩
 have h4:=h2.fr0 hB
 have w4:=hB.wf w2
 have b4:=hB.af t3
 have hof:=Cf4 b4 h4.ok dW
 have fof:=Cg6 rp (103+i*34)
 rw[en.2.2.2.2.2.2.2.2.1]at hof
 simp only[RT,Q0,Q1,Q2,Q3,Q4,Q5,Q6,Q7,Q8,g0,g1,hfa,Bf3 dW,fof,hof]
 rw[show((i:Int)).toNat=i from rfl]
 cases qt:(r.offers i).there with
 |true =>
  simp only[RT,Q0,Q1,Q2,Q3,Q4,Q5,Q6,Q7,Q8]
  exact step2 (.of0 h2 hB)
 |false =>
  simp only[RT,Q0,Q1,Q2,Q3,Q4,Q5,Q6,Q7,Q8,g4,Ai8 gB dt,Ad8,eqZ dt Aa9]
  by_cases qz:id=z32
  . obtain⟨w,A5,k1,k2⟩:=tm hB
    simp only[RT,Q0,Q1,Q2,Q3,Q4,Q5,Q6,Q7,Q8,DT qz,g0]
    refine Aa0 k1 ?_
    simp only[RT,Q0,Q1,Q2,Q3,Q4,Q5,Q6,Q7,Q8]
    rw[if_pos (.inl qz)]
    exact k2
  have ld4:=Ap1 b4 h4.ok
  rw[en.2.2.2.1]at ld4
  have last:∀{C:AS},Fr S0 A2 C->C.blk[A2.blk.length]?=some ⟨bc id,.var⟩->∃D E w,ag TP 94 (.ptr rp (103+i*34)) (.agg (cR ⟨true,r.valid,id⟩)) C=some D/\aa TP 3 (.ptr rp 6) C=some (.int .i64 r.valid)/\aa TP 30 (.ptr A2.blk.length 0) C=some (.agg (bc id))/\aa TP 3 (.ptr rp 6) D=some (.int .i64 r.valid)/\aa TP 30 (.ptr A2.blk.length 0) D=some (.agg (bc id))
   /\ EvF TP HH 92 [.ptr rp 0,.agg (aX ⟨1,i,0,r.valid,id⟩)] D w E/\aJ A rp cp vb fk fa E (({ r1 with offers:=fM r1.offers i ⟨true,r.valid,id⟩ }:Rd).do_ ⟨1,i,0,r.valid,id⟩):=by
   intro C hC gC
   have hc:=h2.fr0 hC
   have wC:=hC.wf w2
   obtain⟨kv5,av5,c1,c2,c3⟩:=hc.box
   have ldc:=Ap1 c1 hc.ok
   rw[en.2.2.2.1]at ldc
   obtain⟨D,x1,x2,x3⟩:=Cg7 c1 hc.ok (o:=⟨true,r.valid,id⟩) dt dW
   have hD:=hc.upd (r':={ r1 with offers:=fM r1.offers i ⟨true,r.valid,id⟩ }) c1 c2 c3 x2 x3 rfl rfl rfl rfl { hc.ok with offers:=AO6 hc.ok.offers dt }
   have ldd:=Ap1 x3 hD.ok
   have hne:A2.blk.length≠rp:=by have:=Ab3 t3;omega
   have gD:=x2.aq gC hne
   obtain⟨w,E,k1,k2⟩:=AO3 (x2.wf wC) hD (a:=⟨1,i,0,r.valid,id⟩) dt (by show r1.al.length<=_;rw[en.2.2.2.2.2.1];omega)
   refine⟨D,E,w,x1,ldc.2.2.2.2.2.2.1,Ai8 gC dt,?_,Ai8 gD dt,k1,step2 (aJ.br w2 hC (aJ.next wC (x2.mono fun _ q=>.inl q) (.inl rfl) (.inl rfl) k2))⟩
   rw[ldd.2.2.2.2.2.2.1];show some (V.int .i64 r1.valid)=_;rw[en.2.2.2.1]
  simp only[RT,Q0,Q1,Q2,Q3,Q4,Q5,Q6,Q7,Q8,DF qz,g0,hfa,ld4]
  by_cases qv:r.valid>0
  rotate_left
  . obtain⟨D,E,w,x1,x2,x3,x4,x5,x6,x7⟩:=last hB gB
    simp only[RT,Q0,Q1,Q2,Q3,Q4,Q5,Q6,Q7,Q8,DF qv]
    rw[Bp7,Aa2 (by rfl)]
    simp only[RT,Q0,Q1,Q2,Q3,Q4,Q5,Q6,Q7,Q8,g0,g1,hfa,x2,g4,x3,Br9 dt,Bf3 dW,x1]
    rw[Bp8,Aa2 (by rfl)]
    simp only[RT,Q0,Q1,Q2,Q3,Q4,Q5,Q6,Q7,Q8,g0,g1,hfa,x4,g4,x5,BY7 dt]
    refine Aa0 x6 ?_
    simp only[RT,Q0,Q1,Q2,Q3,Q4,Q5,Q6,Q7,Q8]
    rw[if_neg (by rintro(z |z);exact qz z;exact qv z.1)]
    exact x7
  obtain⟨_,C,m1,m2,rfl⟩:=Aw1 w4 h4 dt (by rw[en.2.2.2.2.1];have:=hr.known;omega)
  simp only[RT,Q0,Q1,Q2,Q3,Q4,Q5,Q6,Q7,Q8,DT qv,g0,g4,Ai8 gB dt]
  rw[en.2.2.2.2.1]at m1
  refine Aa0 m1 ?_
  have hC:=hB.ab m2
  have gC:=m2.af gB
  by_cases qk:id∈r.known
  . obtain⟨D,E,w,x1,x2,x3,x4,x5,x6,x7⟩:=last hC gC
    simp only[RT,Q0,Q1,Q2,Q3,Q4,Q5,Q6,Q7,Q8,DT qk]
    rw[Bp7,Aa2 (by rfl)]
    simp only[RT,Q0,Q1,Q2,Q3,Q4,Q5,Q6,Q7,Q8,g0,g1,hfa,x2,g4,x3,Br9 dt,Bf3 dW,x1]
    rw[Bp8,Aa2 (by rfl)]
    simp only[RT,Q0,Q1,Q2,Q3,Q4,Q5,Q6,Q7,Q8,g0,g1,hfa,x4,g4,x5,BY7 dt]
    refine Aa0 x6 ?_
    simp only[RT,Q0,Q1,Q2,Q3,Q4,Q5,Q6,Q7,Q8]
    rw[if_neg (by rintro(z |z);exact qz z;exact z.2 qk)]
    exact x7
  . obtain⟨w,A5,k1,k2⟩:=tm hC
    simp only[RT,Q0,Q1,Q2,Q3,Q4,Q5,Q6,Q7,Q8,DF qk,g0]
    refine Aa0 k1 ?_
    simp only[RT,Q0,Q1,Q2,Q3,Q4,Q5,Q6,Q7,Q8]
    rw[if_pos (.inr ⟨qv,qk⟩)]
    exact k2
end
end Go.Sv.Tryz
namespace Go.Sv
open Go
theorem Ag0{P:Program}{H:Hints}{f:FuncId}{nt:Nat}{a:Kt}{k2:List Kt}{x:Ex}{e:Env}{A:AS}{Q:Ex->Env->AS->Prop}(R:Ex->Env->AS->Prop)(h:Run P H f nt [a] x e A R)(hk:∀x e A,R x e A->Run P H f nt k2 x e A Q):Run P H f nt (a::k2) x e A Q:=Ah9 (k1:=[a]) h hk
end Go.Sv
namespace Go.Sv.Tryz
open Go Go.Proofs
def mA(r:Rd):Rd×Bool :=
 if r.step=1/\bu r.n<=fq r.n r.v r.now 0 n32 then(r.vote 1 n32,true)else
 let r1:=if r.step=1/\bu r.n<=allI r.n r.v r.now 0 then r.timer 1 else r
 (if bu r.n<=allI r.n r.v r.now 1 then r1.timer 2 else r1,false)
def gI(r:Rd)(id:Bts):Prop:=r.sure r.now 0=some id/\id∈r.known/\r.step>=1/\r.valid≠r.now+1
theorem AO7{r:Rd}{id:Bts}(h:gI r id):r.rest=(if r.step=1 then({ r with valid:=r.now+1,a7:=id,locked:=r.now+1,lock:=id }:Rd).vote 1 id else { r with valid:=r.now+1,a7:=id },true):=by
 unfold Rd.rest;simp only[];rw[h.1];simp only[];rw[if_pos h.2]
theorem A03{r:Rd}(h:∀id,¬gI r id):r.rest=mA r:=by
 unfold Rd.rest;simp only[]
 cases q:r.sure r.now 0 with
 |none=>rfl
 |some id=>simp only[];rw[if_neg (fun w=>h id ⟨q,w⟩)];rfl
section
variable {A A' B:AS} {rp cp:Nat} {r r':Rd} {vb:Nat->Nat} {fk fa fk' fa':Option Nat} {kv av:V}
set_option maxRecDepth 10000 in
set_option maxHeartbeats 16000000 in
theorem Bh8(hw:WF A)(h:a4 A rp r cp vb fk fa)(hr:Rng r)(h0:0<=r.now)(hl:r.al.length<=10000000):∃w A',EvF TP HH 104 [.ptr rp 0] A w A'/\aJ A rp cp vb fk fa A' r.rest.1/\w=.bool r.rest.2:=by
 refine Aa4 rfl Tryz.func104 (by unfold Tryz.f104;rfl) Tryz.ntmps104 (by unfold Tryz.f104;rfl) (by simp) ?_
 simp only[RT,Q0,Q1,Q2,Q3,Q4,Q5,Q6,Q7,Q8]
 have hfa:=AB9 rp
 have hsm:=h.cnt.small
 have mR:=hr.now
 have ldA:=fun {B:AS} (hB:Fr S0 A B)=>(by obtain⟨kv,av,b1,_⟩:=(h.fr0 hB).box;exact⟨kv,av,b1,Ap1 b1 h.ok⟩:∃kv av,B.blk[rp]?=some ⟨dP r kv av cp,.var⟩/\_)
 obtain⟨kv,av,b1,b2,b3⟩:=h.box
 have ld:=Ap1 b1 h.ok
 simp only[RT,Q0,Q1,Q2,Q3,Q4,Q5,Q6,Q7,Q8,hfa,ld]
 obtain⟨_,A1,k1,k2,x,hx,rfl,hsx⟩:=AE7 hw h r.now 0
 refine Aa0 k1 ?_
 obtain⟨A2,t1,t2,t3⟩:=AN5 (A:=A1) hx
 simp only[RT,Q0,Q1,Q2,Q3,Q4,Q5,Q6,Q7,Q8,A59,t1]
 have f2:=k2.ab t2
 have w2:=f2.wf hw
 have h2:=h.fr0 f2
 obtain⟨xb,hxb⟩:∃b,b=A1.blk.length:=⟨_,rfl⟩
 rw[<- hxb]at t3 ⊢
 have bx:=f2.af b1
 have ld2:=Ap1 bx h2.ok
 have wn1:IntKind.i64.wrap (r.now+1)=r.now+1:=Ac6 (by omega) (by omega)
 rw[BD0,Aa2 (by rfl)]
 refine Ag0 (fun z e B=>Is z .normal/\e.get 0=.ptr rp 0/\e.get 3=.ptr xb 0/\Fr S0 A2 B/\∃c:Bool,e.get 14=.bool c/\(c=true->gI r x)/\(c=false->∀id,¬gI r id)) ?_ ?_
 . cases hs:r.sure r.now 0 with
   |none =>
    simp only[RT,Q0,Q1,Q2,Q3,Q4,Q5,Q6,Q7,Q8,Option.isSome_none]
    exact⟨rfl,.refl _ _,false,rfl,(fun q=>by simp at q),fun _ id q=>by have:=q.1;rw[hs]at this;simp at this⟩
   |some id =>
    obtain rfl:=hsx id hs
    simp only[RT,Q0,Q1,Q2,Q3,Q4,Q5,Q6,Q7,Q8,Option.isSome_some,Ai8 t3 hx]
    obtain⟨_,A3,m1,m2,rfl⟩:=Aw1 w2 h2 hx (by have:=hr.known;omega)
    refine Aa0 m1 ?_
    have ld3:=Ap1 (m2.af bx) h2.ok
    by_cases q1:x∈r.known
    rotate_left
    . simp only[RT,Q0,Q1,Q2,Q3,Q4,Q5,Q6,Q7,Q8,DF q1]
      exact⟨rfl,m2,false,rfl,(fun q=>by simp at q),fun _ id q=>by have:=q.1;rw[hs]at this;cases this;exact q1 q.2.1⟩
    by_cases q2:r.step>=1
    rotate_left
    . simp only[RT,Q0,Q1,Q2,Q3,Q4,Q5,Q6,Q7,Q8,DT q1,hfa,ld3,DF q2]
      exact⟨rfl,m2,false,rfl,(fun q=>by simp at q),fun _ id q=>q2 q.2.2.1⟩
    simp only[RT,Q0,Q1,Q2,Q3,Q4,Q5,Q6,Q7,Q8,DT q1,hfa,ld3,DT q2,wn1]
    refine⟨rfl,m2,decide (¬r.valid=r.now+1),rfl,fun q=>⟨hs,q1,q2,of_decide_eq_true q⟩,fun q id z=>of_decide_eq_false q z.2.2.2⟩
 rintro z e B ⟨rfl,g0,g3,hB,c,g14,hc1,hc2⟩
 have fB:=f2.ab hB
 have wB:=fB.wf hw
 have hBr:=h.fr0 fB
 have bB:=fB.af b1
 have ldB:=Ap1 bB hBr.ok
 have gx:=hB.af t3
 have bk:=b2.fr0 fB
 have ba:=b3.fr0 fB
 cases c with
 |true =>
  have hns:=hc1 rfl
  rw[AO7 hns]
  obtain⟨C,s1,s2,s3⟩:=(AC0 bB hBr.ok (r.now+1)).2.2.2
  have hC:a4 C rp { r with valid:=r.now+1 } cp vb fk fa:=hBr.upd bB bk ba s2 s3 rfl rfl rfl rfl { h.ok with }
  have nexr:xb≠rp:=by have:=Ab3 b1;have:=k2.len;omega
  have gC:=s2.aq gx nexr
  obtain⟨D,y1,y2,y3⟩:=(BX6 s3 hC.ok hx).2.1
  have hD:a4 D rp { r with valid:=r.now+1,a7:=x } cp vb fk fa:=hC.upd s3 (bk.fr s2 (.box bB)) (ba.fr s2 (.box bB)) y2 y3 rfl rfl rfl rfl { h.ok with a7:=hx }
  have gD:=y2.aq gC nexr
  have ldD:=Ap1 y3 hD.ok
  have stepD:∀{A':AS} {r':Rd},aJ D rp cp vb fk fa A' r'->aJ A rp cp vb fk fa A' r':=fun k=>aJ.br hw fB (aJ.next wB (s2.mono fun _ q=>.inl q) (.inl rfl) (.inl rfl) (aJ.next (s2.wf wB) (y2.mono fun _ q=>.inl q) (.inl rfl) (.inl rfl) k))
  simp only[RT,Q0,Q1,Q2,Q3,Q4,Q5,Q6,Q7,Q8,g14,BD1,g0,hfa,ldB,wn1,g3,Ai8 gx hx,s1,Aa1]
  refine⟨Aa5 (ha:=rfl) rfl (by show aa _ _ (e.get 3) _=_;rw[g3];exact Ai8 gC hx) rfl Aa1,?_⟩
  simp only[RT,Q0,Q1,Q2,Q3,Q4,Q5,Q6,Q7,Q8,hfa,y1,Aa1,g0,ldD]
  by_cases q:r.step=1
  . obtain⟨E,z1,z2,z3⟩:=(AC0 y3 hD.ok (r.now+1)).2.2.1
    have hE:a4 E rp { r with valid:=r.now+1,a7:=x,locked:=r.now+1 } cp vb fk fa:=hD.upd y3 ((bk.fr s2 (.box bB)).fr y2 (.box s3)) ((ba.fr s2 (.box bB)).fr y2 (.box s3)) z2 z3 rfl rfl rfl rfl { hD.ok with }
    have gE:=z2.aq gD nexr
    obtain⟨G,u1,u2,u3⟩:=(BX6 z3 hE.ok hx).1
    have hG:a4 G rp { r with valid:=r.now+1,a7:=x,locked:=r.now+1,lock:=x } cp vb fk fa:=hE.upd z3 (((bk.fr s2 (.box bB)).fr y2 (.box s3)).fr z2 (.box y3)) (((ba.fr s2 (.box bB)).fr y2 (.box s3)).fr z2 (.box y3)) u2 u3 rfl rfl rfl rfl { hE.ok with lock:=hx }
    have gG:=u2.aq gE nexr
    have wD:=y2.wf (s2.wf wB)
    obtain⟨w,I,i1,i2⟩:=Ar0 (k:=1) (u2.wf (z2.wf wD)) hG (by omega) hx (by show r.al.length<=_;omega)
    have i1:EvF TP HH 84 [.ptr rp 0,.int .i64 1,.agg (bc x)] G w I:=i1
    simp only[RT,Q0,Q1,Q2,Q3,Q4,Q5,Q6,Q7,Q8,DT q,BD2,g0,hfa,ldD,wn1,g3,Ai8 gD hx,z1,Aa1]
    refine⟨Aa5 (ha:=rfl) rfl (by show aa _ _ (e.get 3) _=_;rw[g3];exact Ai8 gE hx) rfl Aa1,?_⟩
    simp only[RT,Q0,Q1,Q2,Q3,Q4,Q5,Q6,Q7,Q8,hfa,u1,Aa1,g0,g3,Ai8 gG hx]
    refine Aa0 i1 ?_
    simp only[RT,Q0,Q1,Q2,Q3,Q4,Q5,Q6,Q7,Q8]
    rw[if_pos q]
    exact stepD (aJ.next wD (z2.mono fun _ q=>.inl q) (.inl rfl) (.inl rfl) (aJ.next (z2.wf wD) (u2.mono fun _ q=>.inl q) (.inl rfl) (.inl rfl) i2))
  . simp only[RT,Q0,Q1,Q2,Q3,Q4,Q5,Q6,Q7,Q8,DF q]
    rw[if_neg q]
    exact stepD (.da hD)
 |false =>
  rw[A03 (hc2 rfl)]
  simp only[RT,Q0,Q1,Q2,Q3,Q4,Q5,Q6,Q7,Q8,g14]
  refine Ag0 (fun z e C=>Is z .normal/\e.get 0=.ptr rp 0/\Fr S0 B C/\e.get 72=.bool (decide (r.step=1/\bu r.n<=fq r.n r.v r.now 0 n32))) ?_ ?_
  . simp only[RT,Q0,Q1,Q2,Q3,Q4,Q5,Q6,Q7,Q8,BD3,g0,hfa,ldB,Aa1]
    by_cases q:r.step=1
    rotate_left
    . simp only[RT,Q0,Q1,Q2,Q3,Q4,Q5,Q6,Q7,Q8,DF q,Aa1]
      refine⟨Ad0 rfl rfl rfl rfl <| Ad0 rfl rfl rfl rfl <| Ad0 rfl rfl rfl rfl Aa1,Ad0 rfl rfl rfl rfl Aa1,?_⟩
      exact⟨rfl,g0,.refl _ _,by rw[DF (fun z=>q z.1)]⟩
    obtain⟨_,C1,m1,rfl,m2⟩:=Ap4 (A:=B)
    have ldC1:=Ap1 (m2.af bB) hBr.ok
    obtain⟨_,C2,p1,p2,rfl⟩:=A63 (r:=r.now) (k:=0) (m2.wf wB) (hBr.fr0 m2).cnt Ad3
    have ldC2:=Ap1 (p2.af (m2.af bB)) hBr.ok
    obtain⟨_,_,y1,hC,rfl⟩:=Av6 (A:=C2) h.cnt.ok
    rw[hC]at y1
    simp only[RT,Q0,Q1,Q2,Q3,Q4,Q5,Q6,Q7,Q8,DT q,g0,hfa,ldB,Aa1]
    refine Aa0 m1 ?_
    simp only[RT,Q0,Q1,Q2,Q3,Q4,Q5,Q6,Q7,Q8]
    refine⟨Ac4 rfl rfl rfl rfl rfl ldC1.2.2.2.2.2.2.2.2.2.2.2.1 rfl <| Ac4 rfl rfl rfl rfl rfl ldC1.2.2.2.1 rfl <| Ac4 rfl rfl rfl rfl rfl ldC1.1 rfl Aa1,?_⟩
    refine Aa0 p1 ?_
    simp only[RT,Q0,Q1,Q2,Q3,Q4,Q5,Q6,Q7,Q8]
    refine⟨Ac4 rfl rfl rfl rfl rfl ldC2.1 rfl Aa1,?_⟩
    refine Aa0 y1 ?_
    simp only[RT,Q0,Q1,Q2,Q3,Q4,Q5,Q6,Q7,Q8,Aa1]
    refine⟨rfl,g0,m2.ab p2,?_⟩
    congr 1
    rw[decide_eq_decide]
    constructor
    . intro z;exact⟨q,by omega⟩
    . intro z;have:=z.2;omega
  clear g0 g3 g14
  rintro z e C ⟨rfl,g0,hC,g72⟩
  have fC:=fB.ab hC
  have wC:=fC.wf hw
  have hCr:=h.fr0 fC
  have bC:=fC.af b1
  have ldC:=Ap1 bC hCr.ok
  unfold mA
  by_cases qv:r.step=1/\bu r.n<=fq r.n r.v r.now 0 n32
  . rw[if_pos qv]
    obtain⟨_,C1,m1,rfl,m2⟩:=Ap4 (A:=C)
    obtain⟨w,I,i1,i2⟩:=Ar0 (k:=1) (m2.wf wC) (hCr.fr0 m2) (by omega) Ad3 (by omega)
    have i1:EvF TP HH 84 [.ptr rp 0,.int .i64 1,.agg (bc n32)] C1 w I:=i1
    rw[DT qv]at g72
    simp only[RT,Q0,Q1,Q2,Q3,Q4,Q5,Q6,Q7,Q8,g72,g0]
    refine Aa0 m1 ?_
    simp only[RT,Q0,Q1,Q2,Q3,Q4,Q5,Q6,Q7,Q8]
    refine Aa0 i1 ?_
    simp only[RT,Q0,Q1,Q2,Q3,Q4,Q5,Q6,Q7,Q8]
    exact aJ.br hw (fC.ab m2) i2
  rw[if_neg qv]
  rw[DF qv]at g72
  simp only[RT,Q0,Q1,Q2,Q3,Q4,Q5,Q6,Q7,Q8,g72]
  refine Ag0 (fun z e D=>Is z .normal/\e.get 0=.ptr rp 0/\Fr S0 C D/\e.get 120=.bool (decide (r.step=1/\bu r.n<=allI r.n r.v r.now 0))) ?_ ?_
  . simp only[RT,Q0,Q1,Q2,Q3,Q4,Q5,Q6,Q7,Q8,Bq1,g0,hfa,ldC,Aa1]
    by_cases q:r.step=1
    rotate_left
    . simp only[RT,Q0,Q1,Q2,Q3,Q4,Q5,Q6,Q7,Q8,DF q,Aa1]
      refine⟨Ad0 rfl rfl rfl rfl Aa1,?_⟩
      exact⟨rfl,g0,.refl _ _,by rw[DF (fun z=>q z.1)]⟩
    obtain⟨_,C2,p1,p2,rfl⟩:=AA6 (r:=r.now) (k:=0) wC hCr.cnt
    have ldC2:=Ap1 (p2.af bC) hBr.ok
    obtain⟨_,_,y1,hC,rfl⟩:=Av6 (A:=C2) h.cnt.ok
    rw[hC]at y1
    simp only[RT,Q0,Q1,Q2,Q3,Q4,Q5,Q6,Q7,Q8,DT q,g0,hfa,ldC,Aa1]
    refine Aa0 p1 ?_
    simp only[RT,Q0,Q1,Q2,Q3,Q4,Q5,Q6,Q7,Q8]
    refine⟨Ac4 rfl rfl rfl rfl rfl ldC2.1 rfl Aa1,?_⟩
    refine Aa0 y1 ?_
    simp only[RT,Q0,Q1,Q2,Q3,Q4,Q5,Q6,Q7,Q8,Aa1]
    refine⟨rfl,g0,p2,?_⟩
    congr 1
    rw[decide_eq_decide]
    constructor
    . intro z;exact⟨q,by omega⟩
    . intro z;have:=z.2;omega
  clear g0 g72
  rintro z e D ⟨rfl,g0,hD,g120⟩
  have fD:=fC.ab hD
  have wD:=fD.wf hw
  have hDr:=h.fr0 fD
  obtain⟨r1,hr1⟩:∃r1:Rd,r1=if r.step=1/\bu r.n<=allI r.n r.v r.now 0 then r.timer 1 else r:=⟨_,rfl⟩
  have ej:r1.n=r.n/\r1.v=r.v/\r1.now=r.now/\r1.al.length<=r.al.length+1:=by
   rw[hr1];split
   . unfold Rd.timer;split
     . exact⟨rfl,rfl,rfl,by omega⟩
     . exact⟨rfl,rfl,rfl,by simp[Rd.do_]⟩
   . exact⟨rfl,rfl,rfl,by omega⟩
  rw[<- hr1]
  refine Ag0 (fun z e G=>Is z .normal/\e.get 0=.ptr rp 0/\∃fk1 fa1,Fr (rdS A rp vb fk fa) A G/\Gr A fk fk1/\Gr A fa fa1/\a4 G rp r1 cp vb fk1 fa1) ?_ ?_
  . by_cases q:r.step=1/\bu r.n<=allI r.n r.v r.now 0
    . rw[if_pos q]at hr1
      rw[DT q]at g120
      obtain⟨w,I,i1,i2⟩:=Ay5 (k:=1) wD hDr (by omega) h0 hr.now.2 (by omega)
      have i1:EvF TP HH 91 [.ptr rp 0,.int .i64 1] D w I:=i1
      obtain⟨fk1,fa1,j1,j2,j3,j4⟩:=aJ.br hw fD i2
      simp only[RT,Q0,Q1,Q2,Q3,Q4,Q5,Q6,Q7,Q8,g120,g0]
      refine Aa0 i1 ?_
      simp only[RT,Q0,Q1,Q2,Q3,Q4,Q5,Q6,Q7,Q8]
      exact⟨rfl,g0,fk1,fa1,j1,j2,j3,by rw[hr1];exact j4⟩
    . rw[if_neg q]at hr1
      rw[DF q]at g120
      simp only[RT,Q0,Q1,Q2,Q3,Q4,Q5,Q6,Q7,Q8,g120]
      exact⟨rfl,g0,fk,fa,fD.mono fun _ q=>q.elim,.inl rfl,.inl rfl,by rw[hr1];exact hDr⟩
  clear g0 g120
  rintro z e G ⟨rfl,g0,fk1,fa1,j1,j2,j3,j4⟩
  have wG:=j1.wf hw
  obtain⟨kvg,avg,c1,c2,c3⟩:=j4.box
  have ldG:=Ap1 c1 j4.ok
  rw[ej.1,ej.2.2.1]at ldG
  simp only[RT,Q0,Q1,Q2,Q3,Q4,Q5,Q6,Q7,Q8]
  refine Ag0 (fun z e H=>Is z .normal/\e.get 0=.ptr rp 0/\Fr S0 G H/\e.get 137=.bool (decide (bu r.n<=allI r.n r.v r.now 1))) ?_ ?_
  . simp only[RT,Q0,Q1,Q2,Q3,Q4,Q5,Q6,Q7,Q8,Bq2,g0,hfa,ldG,Aa1]
    obtain⟨_,C2,p1,p2,rfl⟩:=AA6 (r:=r.now) (k:=1) wG j4.cnt
    rw[ej.1,ej.2.1]at p1
    have ldC2:=Ap1 (p2.af c1) j4.ok
    rw[ej.1,ej.2.2.1]at ldC2
    obtain⟨_,_,y1,hC,rfl⟩:=Av6 (A:=C2) h.cnt.ok
    rw[hC]at y1
    refine Aa0 p1 ?_
    simp only[RT,Q0,Q1,Q2,Q3,Q4,Q5,Q6,Q7,Q8]
    refine⟨Aa5 (ha:=rfl) rfl ldC2.1 rfl Aa1,?_⟩
    refine Aa0 y1 ?_
    simp only[RT,Q0,Q1,Q2,Q3,Q4,Q5,Q6,Q7,Q8,Aa1]
    refine⟨rfl,g0,p2,?_⟩
    congr 1
    rw[decide_eq_decide];omega
  clear g0
  rintro z e H ⟨rfl,g0,hH,g137⟩
  have hHr:=j4.fr0 hH
  by_cases q:bu r.n<=allI r.n r.v r.now 1
  . rw[DT q]at g137
    obtain⟨w,I,i1,i2⟩:=Ay5 (k:=2) (hH.wf wG) hHr (by omega) (by rw[ej.2.2.1];exact h0) (by rw[ej.2.2.1];exact hr.now.2) (by omega)
    have i1:EvF TP HH 91 [.ptr rp 0,.int .i64 2] H w I:=i1
    simp only[RT,Q0,Q1,Q2,Q3,Q4,Q5,Q6,Q7,Q8,g137,g0]
    refine Aa0 i1 ?_
    simp only[RT,Q0,Q1,Q2,Q3,Q4,Q5,Q6,Q7,Q8]
    rw[if_pos q]
    exact aJ.next hw j1 j2 j3 (aJ.br wG hH i2)
  . rw[DF q]at g137
    simp only[RT,Q0,Q1,Q2,Q3,Q4,Q5,Q6,Q7,Q8,g137]
    rw[if_neg q]
    exact aJ.next hw j1 j2 j3 (.of0 j4 hH)
end
end Go.Sv.Tryz
namespace Go.Sv
open Go
theorem Bt2{P:Program}{H:Hints}{f:FuncId}{nt:Nat}{a b c:Kt}{k2:List Kt}{x:Ex}{e:Env}{A:AS}{Q:Ex->Env->AS->Prop}(R:Ex->Env->AS->Prop)(h:Run P H f nt [a,b,c] x e A R)(hk:∀x e A,R x e A->Run P H f nt k2 x e A Q):Run P H f nt (a::b::c::k2) x e A Q:=Ah9 (k1:=[a,b,c]) h hk
end Go.Sv
namespace Go.Sv.Tryz
open Go Go.Proofs
theorem AT9{r:Rd}{k:Nat}{id:Bts}(hk:k<12)(h1:r.sure k 1=some id)(h2:id∈r.known)(hb:∀j:Nat,j<k->∀id,r.sure j 1=some id->¬id∈r.known):r.agreed=some (k,id):=by
 unfold Rd.agreed
 have key:∀m,m<=12->k<m->(List.range m).findSome? (fun(k:Nat)=>match r.sure (k:Int) 1 with
  |some id=>if id∈r.known then some (k,id)else none
  |none=>none)=some (k,id):=by
  intro m
  induction m with
  |zero=>intro _ q;omega
  |succ m ih =>
   intro hm hkm
   rw[List.range_succ,List.findSome?_append]
   rcases Nat.lt_or_ge k m with q |q
   . rw[ih (by omega) q];rfl
   . have e:k=m:=by omega
     subst e
     have e0:(List.range k).findSome? (fun(k:Nat)=>match r.sure (k:Int) 1 with
      |some id=>if id∈r.known then some (k,id)else none
      |none=>none)=none:=by
      rw[List.findSome?_eq_none_iff]
      intro j hj
      have hj:=List.mem_range.1 hj
      cases q:r.sure (j:Int) 1 with
      |none=>rfl
      |some y=>simp only[];rw[if_neg (hb j hj y q)]
     rw[e0]
     simp only[List.findSome?_cons,h1,if_pos h2];rfl
 exact key 12 (by omega) hk
theorem AU0{r:Rd}(hb:∀j:Nat,j<12->∀id,r.sure j 1=some id->¬id∈r.known):r.agreed=none:=by
 unfold Rd.agreed
 rw[List.findSome?_eq_none_iff]
 intro j hj
 have hj:=List.mem_range.1 hj
 cases q:r.sure (j:Int) 1 with
 |none=>rfl
 |some y=>simp only[];rw[if_neg (hb j hj y q)]
section
variable {r:Rd} (h0:¬r.now<0) (h3:¬r.step=3)
include h0 h3
theorem AE8{k:Nat}{id:Bts}(h:r.agreed=some (k,id)):r.bP=(({ r with step:=3 }:Rd).do_ ⟨4,k,0,0,id⟩,true):=by
 unfold Rd.bP;rw[if_neg (by rintro(z |z);exact h0 z;exact h3 z),h]
theorem AK7{k:Nat}(h:r.agreed=none)(h':cU r.n r.v r.now=some k):r.bP=(r.begin k,true):=by
 unfold Rd.bP;rw[if_neg (by rintro(z |z);exact h0 z;exact h3 z),h,h']
def dT(r:Rd):Prop:=r.step=0/\(r.offers r.now.toNat).there=true/\(r.offers r.now.toNat).id∈r.known
theorem AU1{id:Bts}(h:r.agreed=none)(h':cU r.n r.v r.now=none)(c:dT r)(hc:r.choice (r.offers r.now.toNat)=some id):r.bP=(r.vote 0 id,true):=by
 unfold Rd.bP;rw[if_neg (by rintro(z |z);exact h0 z;exact h3 z),h,h'];simp only[];unfold dT at c;rw[if_pos c,hc]
theorem AU2(h:r.agreed=none)(h':cU r.n r.v r.now=none)(c:dT r)(hc:r.choice (r.offers r.now.toNat)=none):r.bP=r.rest:=by
 unfold Rd.bP;rw[if_neg (by rintro(z |z);exact h0 z;exact h3 z),h,h'];simp only[];unfold dT at c;rw[if_pos c,hc]
theorem Aw2(h:r.agreed=none)(h':cU r.n r.v r.now=none)(c:¬dT r):r.bP=r.rest:=by
 unfold Rd.bP;rw[if_neg (by rintro(z |z);exact h0 z;exact h3 z),h,h'];simp only[];unfold dT at c;rw[if_neg c]
end
section
variable {A A' B:AS} {rp cp:Nat} {r r':Rd} {vb:Nat->Nat} {fk fa fk' fa':Option Nat} {kv av:V}
theorem B17{A:AS}{o:Ofr}(h:o.id.length=32):∃A',ag TP 94 (.ptr A.blk.length 0) (.agg (cR o)) (A.push ⟨cR jH,.var⟩)=some A'/\Fr S0 A A'/\A'.blk[A.blk.length]?=some ⟨cR o,.var⟩:=by
 obtain⟨A2,s1,s2,s3,s4⟩:=Ag5 (P:=TP) A (z:=cR jH) (t:=94) (x:=.agg (cR o)) (cs:=cR o) rfl (by rw[Ae1 h];exact BW7) (by rw[Ae1 h];rfl) (AN4 o)
 exact⟨A2,s1,s2,s3⟩
theorem B18:(aC TP 94).bind V.cells=some (cR jH):=by kernel_rfl
theorem BY0{A:AS}{b:Nat}{k:BK}{o:Ofr}(hb:A.blk[b]?=some ⟨cR o,k⟩)(h:o.id.length=32):aa TP 4 (.ptr b 0) A=some (.bool o.there)/\aa TP 3 (.ptr b 1) A=some (.int .i64 o.valid)/\aa TP 30 (.ptr b 2) A=some (.agg (bc o.id)):=
 ⟨At.cC hb (o:=0) ⟨[],.int .i64 o.valid::bc o.id,rfl,rfl⟩ ag4,At.cC hb (o:=1) ⟨[.bool o.there],bc o.id,rfl,rfl⟩ ag3,At.load hb (o:=2) ⟨[.bool o.there,.int .i64 o.valid],[],by simp[cR],rfl⟩ Av4 Ap3 (by rw[Aa7,h])⟩
theorem Cu8(b:Nat):ae TP 94 (.ptr b 0) 0=some (.ptr b 0)/\ae TP 94 (.ptr b 0) 1=some (.ptr b 1)/\ae TP 94 (.ptr b 0) 2=some (.ptr b 2):=⟨by kernel_rfl,by kernel_rfl,by kernel_rfl⟩
set_option maxRecDepth 10000 in
set_option maxHeartbeats 16000000 in
theorem Bh9(hw:WF A)(h:a4 A rp r cp vb fk fa)(hr:Rng r)(hl:r.al.length<=9000000):∃w A',EvF TP HH 90 [.ptr rp 0] A w A'/\aJ A rp cp vb fk fa A' r.bP.1/\w=.bool r.bP.2:=by
 refine Aa4 rfl Tryz.func90 (by unfold Tryz.f90;rfl) Tryz.ntmps90 (by unfold Tryz.f90;rfl) (by simp) ?_
 simp only[RT,Q0,Q1,Q2,Q3,Q4,Q5,Q6,Q7,Q8]
 have hfa:=AB9 rp
 have hsm:=h.cnt.small
 have mR:=hr.now
 obtain⟨kv,av,b1,b2,b3⟩:=h.box
 have ld:=Ap1 b1 h.ok
 by_cases q0:r.now<0
 . have e:r.bP=(r,false):=by unfold Rd.bP;rw[if_pos (.inl q0)]
   simp only[RT,Q0,Q1,Q2,Q3,Q4,Q5,Q6,Q7,Q8,hfa,ld,DT q0]
   rw[e];exact⟨.da h,rfl⟩
 by_cases q3:r.step=3
 . have e:r.bP=(r,false):=by unfold Rd.bP;rw[if_pos (.inr q3)]
   simp only[RT,Q0,Q1,Q2,Q3,Q4,Q5,Q6,Q7,Q8,hfa,ld,DF q0,DT q3]
   rw[e];exact⟨.da h,rfl⟩
 simp only[RT,Q0,Q1,Q2,Q3,Q4,Q5,Q6,Q7,Q8,hfa,ld,DF q0,DF q3]
 refine Aa6 (fun z e B=>Fr S0 A B/\e.get 0=.ptr rp 0/\∃k:Nat,z=12-k/\k<=12/\e.get 24=.int .i64 k/\∀j:Nat,j<k->∀id,r.sure j 1=some id->¬id∈r.known)
  (fun z e B=>(Is z (.exit 0)/\Fr S0 A B/\e.get 0=.ptr rp 0/\r.agreed=none)∨(Is z .ret/\e.get 2=.bool r.bP.2/\aJ A rp cp vb fk fa B r.bP.1))
  ⟨_,.refl _ _,rfl,0,rfl,by omega,rfl,fun j hj=>by omega⟩ ?_ ?_
 . rintro z e B ⟨hB,g0,k,rfl,hk,g24,hno⟩
   simp only[RT,Q0,Q1,Q2,Q3,Q4,Q5,Q6,Q7,Q8,g24]
   refine Aa8 (fun g=>?_) (fun g=>?_)
   rotate_left
   . have:k=12:=by omega
     subst this
     simp only[RT,Q0,Q1,Q2,Q3,Q4,Q5,Q6,Q7,Q8]
     exact .inl ⟨rfl,hB,g0,AU0 hno⟩
   have hBr:=h.fr0 hB
   have wB:=hB.wf hw
   obtain⟨_,C,k1,k2,x,hx,rfl,hsx⟩:=AE7 wB hBr (k:Int) 1
   simp only[RT,Q0,Q1,Q2,Q3,Q4,Q5,Q6,Q7,Q8,g0,g24]
   refine Aa0 k1 ?_
   obtain⟨D,t1,t2,t3⟩:=AN5 (A:=C) hx
   have hD:=(hB.ab k2).ab t2
   simp only[RT,Q0,Q1,Q2,Q3,Q4,Q5,Q6,Q7,Q8,A59,t1]
   have nxt:(∀id,r.sure k 1=some id->¬id∈r.known)->∀j:Nat,j<k+1->∀id,r.sure j 1=some id->¬id∈r.known:=fun q j hj=>by
    rcases Nat.lt_or_ge j k with z |z
    . exact hno j z
    . have:j=k:=by omega
      subst this;exact q
   cases hs:r.sure (k:Int) 1 with
   |none =>
    simp only[RT,Q0,Q1,Q2,Q3,Q4,Q5,Q6,Q7,Q8,Option.isSome_none,g24]
    exact⟨12-(k+1),by omega,hD,g0,k+1,rfl,by omega,by rw[Ac2 (by omega)],nxt fun id q=>by rw[hs]at q;cases q⟩
   |some id =>
    obtain rfl:=hsx id hs
    have hDr:=h.fr0 hD
    obtain⟨_,E,m1,m2,rfl⟩:=Aw1 (hD.wf hw) hDr hx (by have:=hr.known;omega)
    simp only[RT,Q0,Q1,Q2,Q3,Q4,Q5,Q6,Q7,Q8,Option.isSome_some,g0,Ai8 t3 hx]
    refine Aa0 m1 ?_
    have hE:=hD.ab m2
    by_cases qk:x∈r.known
    rotate_left
    . simp only[RT,Q0,Q1,Q2,Q3,Q4,Q5,Q6,Q7,Q8,DF qk,g24]
      exact⟨12-(k+1),by omega,hE,g0,k+1,rfl,by omega,by rw[Ac2 (by omega)],nxt fun id q=>by rw[hs]at q;cases q;exact qk⟩
    have hag:=AT9 (show k<12 by omega) hs qk hno
    have hEr:=h.fr0 hE
    have wE:=hE.wf hw
    have bE:=hE.af b1
    obtain⟨G,s1,s2,s3⟩:=(AC0 bE hEr.ok 3).2.1
    have hG:a4 G rp { r with step:=3 } cp vb fk fa:=hEr.upd bE (b2.fr0 hE) (b3.fr0 hE) s2 s3 rfl rfl rfl rfl { h.ok with }
    have xr:C.blk.length≠rp:=by have:=Ab3 b1;have:=hB.len;have:=k2.len;omega
    have gG:=s2.aq (m2.af t3) xr
    obtain⟨w,I,i1,i2⟩:=AO3 (s2.wf wE) hG (a:=⟨4,k,0,0,x⟩) hx (by show r.al.length<=_;omega)
    simp only[RT,Q0,Q1,Q2,Q3,Q4,Q5,Q6,Q7,Q8,DT qk,g0,hfa,s1,Ai8 gG hx,Ch1 hx]
    refine Aa0 i1 ?_
    simp only[RT,Q0,Q1,Q2,Q3,Q4,Q5,Q6,Q7,Q8]
    rw[AE8 q0 q3 hag]
    exact .inr ⟨rfl,rfl,aJ.br hw hE (aJ.next wE (s2.mono fun _ q=>.inl q) (.inl rfl) (.inl rfl) i2)⟩
 rintro z e B hz (⟨rfl,hB,g0,hag⟩ |⟨rfl,g2,hst⟩)
 rotate_left
 . simp only[RT,Q0,Q1,Q2,Q3,Q4,Q5,Q6,Q7,Q8,g2]
   exact hst
 have hBr:=h.fr0 hB
 have wB:=hB.wf hw
 have bB:=hB.af b1
 have ldB:=Ap1 bB hBr.ok
 simp only[RT,Q0,Q1,Q2,Q3,Q4,Q5,Q6,Q7,Q8]
 rw[BB2,Aa2 (by rfl)]
 obtain⟨_,_,k1,hA,rfl⟩:=Ba8 (now:=r.now) hBr.cnt mR.1
 rw[hA]at k1
 simp only[RT,Q0,Q1,Q2,Q3,Q4,Q5,Q6,Q7,Q8,g0,hfa,ldB]
 refine Aa0 k1 ?_
 cases qa:cU r.n r.v r.now with
 |some k =>
  obtain⟨w,I,i1,i2⟩:=Ay8 wB hBr hr (R:=(k:Int)) (by omega) (by have:=(AD5 qa).2;omega) (by omega)
  simp only[RT,Q0,Q1,Q2,Q3,Q4,Q5,Q6,Q7,Q8,Option.isSome_some,Option.getD_some,g0]
  refine Aa0 i1 ?_
  simp only[RT,Q0,Q1,Q2,Q3,Q4,Q5,Q6,Q7,Q8]
  rw[AK7 q0 q3 hag qa]
  exact⟨aJ.br hw hB i2,rfl⟩
 |none =>
 obtain⟨i,hi⟩:=Int.eq_ofNat_of_zero_le (show 0<=r.now by omega)
 have dW:i<12:=by omega
 have hin:r.now.toNat=i:=by rw[hi];rfl
 obtain⟨o,ho⟩:∃o,o=r.offers i:=⟨_,rfl⟩
 have jO:dT r↔(r.step=0/\o.there=true/\o.id∈r.known):=by unfold dT;rw[hin,<- ho]
 have hol:o.id.length=32:=by rw[ho];exact h.ok.offers i
 have hov:0<=o.valid/\o.valid<=1000:=by rw[ho];exact hr.offers i
 have qR:=(Cf4 bB hBr.ok dW).1
 rw[<- ho]at qR
 have ldB3:aa TP 3 (.ptr rp 3) B=some (.int .i64 (i:Int)):=by rw[ldB.2.2.2.1,hi]
 obtain⟨C,t1,t2,t3⟩:=B17 (A:=B) hol
 obtain⟨ob,hob⟩:∃b,b=B.blk.length:=⟨_,rfl⟩
 have hC:=hB.ab t2
 have hCr:=h.fr0 hC
 have wC:=hC.wf hw
 have bC:=hC.af b1
 have ldC:=Ap1 bC hCr.ok
 have ldo:=BY0 t3 hol
 rw[<- hob]at ldo t3
 have fo:=Cu8 ob
 simp only[RT,Q0,Q1,Q2,Q3,Q4,Q5,Q6,Q7,Q8,Option.isSome_none,Option.getD_none]
 rw[BB3,Aa2 (by rfl)]
 simp only[RT,Q0,Q1,Q2,Q3,Q4,Q5,Q6,Q7,Q8,g0,hfa,ldB3,Bf3 dW,qR,B18,t1]
 rw[<- hob]
 simp only[RT,Q0,Q1,Q2,Q3,Q4,Q5,Q6,Q7,Q8,g0,hfa,ldC]
 have restL:∀{D:AS},Fr S0 A D->∃w A',EvF TP HH 104 [.ptr rp 0] D w A'/\aJ A rp cp vb fk fa A' r.rest.1/\w=.bool r.rest.2:=by
  intro D hD
  obtain⟨w,A',k1,k2,k3⟩:=Bh8 (hD.wf hw) (h.fr0 hD) hr (by omega) (by omega)
  exact⟨w,A',k1,aJ.br hw hD k2,k3⟩
 by_cases c1:r.step=0
 rotate_left
 . have erule:=Aw2 q0 q3 hag qa (fun z=>c1 (jO.1 z).1)
   obtain⟨_,A',i1,i2,rfl⟩:=restL hC
   simp only[RT,Q0,Q1,Q2,Q3,Q4,Q5,Q6,Q7,Q8,DF c1,g0]
   refine Aa0 i1 ?_
   simp only[RT,Q0,Q1,Q2,Q3,Q4,Q5,Q6,Q7,Q8]
   rw[erule];exact⟨i2,rfl⟩
 cases c2:o.there with
 |false =>
  have erule:=Aw2 q0 q3 hag qa (fun z=>by have:=(jO.1 z).2.1;rw[c2]at this;simp at this)
  obtain⟨_,A',i1,i2,rfl⟩:=restL hC
  rw[c2]at ldo
  simp only[RT,Q0,Q1,Q2,Q3,Q4,Q5,Q6,Q7,Q8,DT c1,fo,ldo,g0]
  refine Aa0 i1 ?_
  simp only[RT,Q0,Q1,Q2,Q3,Q4,Q5,Q6,Q7,Q8]
  rw[erule];exact⟨i2,rfl⟩
 |true =>
 rw[c2]at ldo
 obtain⟨_,D,m1,m2,rfl⟩:=Aw1 wC hCr hol (by have:=hr.known;omega)
 have hD:=hC.ab m2
 simp only[RT,Q0,Q1,Q2,Q3,Q4,Q5,Q6,Q7,Q8,DT c1,fo,ldo,g0]
 refine Aa0 m1 ?_
 by_cases c3:o.id∈r.known
 rotate_left
 . have erule:=Aw2 q0 q3 hag qa (fun z=>c3 (jO.1 z).2.2)
   obtain⟨_,A',i1,i2,rfl⟩:=restL hD
   simp only[RT,Q0,Q1,Q2,Q3,Q4,Q5,Q6,Q7,Q8,DF c3,g0]
   refine Aa0 i1 ?_
   simp only[RT,Q0,Q1,Q2,Q3,Q4,Q5,Q6,Q7,Q8]
   rw[erule];exact⟨i2,rfl⟩
 have pf:=jO.2 ⟨c1,c2,c3⟩
 obtain⟨_,E,n1,rfl,n2⟩:=Ap4 (A:=D)
 simp only[RT,Q0,Q1,Q2,Q3,Q4,Q5,Q6,Q7,Q8,DT c3]
 refine Aa0 n1 ?_
 obtain⟨G,u1,u2,u3⟩:=AN5 (A:=E) Ad3
 obtain⟨nb,hnb⟩:∃b,b=E.blk.length:=⟨_,rfl⟩
 have hG:=(hD.ab n2).ab u2
 have hGr:=h.fr0 hG
 have oG:=u2.af (n2.af (m2.af t3))
 have ldoG:=BY0 oG hol
 have wov:IntKind.i64.wrap (o.valid-1)=o.valid-1:=Ac6 (by omega) (by omega)
 simp only[RT,Q0,Q1,Q2,Q3,Q4,Q5,Q6,Q7,Q8,A59,u1]
 rw[<- hnb]at u3 ⊢
 simp only[RT,Q0,Q1,Q2,Q3,Q4,Q5,Q6,Q7,Q8,g0,fo,ldoG,wov]
 obtain⟨_,I,j1,j2,x,hx,rfl,hsx⟩:=AE7 (hG.wf hw) hGr (o.valid-1) 0
 refine Aa0 j1 ?_
 obtain⟨J,v1,v2,v3⟩:=AN5 (A:=I) hx
 have hJ:=(hG.ab j2).ab v2
 have hJr:=h.fr0 hJ
 have wJ:=hJ.wf hw
 have bJ:=hJ.af b1
 have ldJ:=Ap1 bJ hJr.ok
 have oJ:=v2.af (j2.af oG)
 have ldoJ:=BY0 oJ hol
 have nJ:=v2.af (j2.af u3)
 have len1:=hB.len
 have len2:=(n2.len)
 have len3:=u2.len
 have eW:=j2.len
 simp only[RT,Q0,Q1,Q2,Q3,Q4,Q5,Q6,Q7,Q8,A59,v1]
 rw[BB4,Aa2 (by rfl)]
 have hch:r.offers r.now.toNat=o:=by rw[hin,ho]
 have fin:∀{K:AS} {y:Bts},Fr S0 A K->r.choice o=some y->K.blk[nb]?=some ⟨bc y,.var⟩->y.length=32->∃w A',EvF TP HH 84 [.ptr rp 0,.int .i64 0,.agg (bc y)] K w A'/\aa TP 30 (.ptr nb 0) K=some (.agg (bc y))/\aJ A rp cp vb fk fa A' r.bP.1/\r.bP.2=true:=by
  intro K y hK hy gy yl
  have er:=AU1 q0 q3 hag qa pf (by rw[hch];exact hy)
  obtain⟨w,A',k1,k2⟩:=Ar0 (k:=0) (hK.wf hw) (h.fr0 hK) (by omega) yl (by omega)
  exact⟨w,A',k1,Ai8 gy yl,by rw[er];exact aJ.br hw hK k2,by rw[er]⟩
 have wait:r.choice o=none->r.bP=r.rest:=fun hy=>AU2 q0 q3 hag qa pf (by rw[hch];exact hy)
 refine Bt2 (fun z e K=>(Is z .normal/\e.get 0=.ptr rp 0/\e.get 9=.ptr nb 0/\Fr S0 A K/\∃y,y.length=32/\K.blk[nb]?=some ⟨bc y,.var⟩/\r.choice o=some y)∨(Is z .ret/\r.choice o=none/\e.get 2=.bool r.rest.2/\aJ A rp cp vb fk fa K r.rest.1)) ?_ ?_
 rotate_left
 . clear g0
   rintro z e K (⟨rfl,g0,g9,hK,y,yl,gy,hy⟩ |⟨rfl,hy,g2,hst⟩)
   . obtain⟨w,A',k1,k2,k3,k4⟩:=fin hK hy gy yl
     simp only[RT,Q0,Q1,Q2,Q3,Q4,Q5,Q6,Q7,Q8,g0,g9,k2]
     refine Aa0 k1 ?_
     simp only[RT,Q0,Q1,Q2,Q3,Q4,Q5,Q6,Q7,Q8]
     exact⟨k3,by rw[k4]⟩
   . have er:=wait hy
     rw[er]
     simp only[RT,Q0,Q1,Q2,Q3,Q4,Q5,Q6,Q7,Q8,g2]
     exact hst
 have fo1:=fo
 obtain⟨K,z1,z2,z3⟩:=AJ0 nJ Ad3 hol
 have hK:Fr S0 A K:=hJ.ar z2 (by have l1:=hC.len;have l2:=m2.len;have l3:=n2.len;rw[hnb];omega)
 have pl22:=AS3
 by_cases d0:o.valid=0
 . have dgt:¬o.valid>0:=by omega
   by_cases d1:r.locked=0
   . have hc:r.choice o=some o.id:=by unfold Rd.choice;rw[if_pos ⟨d0,.inl d1⟩]
     simp only[RT,Q0,Q1,Q2,Q3,Q4,Q5,Q6,Q7,Q8,fo,ldoJ,DT d0,g0,hfa,ldJ,DT d1,z1]
     exact .inl ⟨rfl,hK,_,hol,z3,hc⟩
   by_cases d2:r.lock=o.id
   . have hc:r.choice o=some o.id:=by unfold Rd.choice;rw[if_pos ⟨d0,.inr d2⟩]
     simp only[RT,Q0,Q1,Q2,Q3,Q4,Q5,Q6,Q7,Q8,fo,ldoJ,DT d0,g0,hfa,ldJ,DF d1,eqZ h.ok.lock hol,DT d2,z1]
     exact .inl ⟨rfl,hK,_,hol,z3,hc⟩
   have hc:r.choice o=some n32:=by
    unfold Rd.choice
    rw[if_neg (fun z=>z.2.elim d1 d2),if_neg (fun z=>dgt z.1)]
   simp only[RT,Q0,Q1,Q2,Q3,Q4,Q5,Q6,Q7,Q8,fo,ldoJ,DT d0,g0,hfa,ldJ,DF d1,eqZ h.ok.lock hol,DF d2]
   rw[AS3,Aa2 (by rfl)]
   simp only[RT,Q0,Q1,Q2,Q3,Q4,Q5,Q6,Q7,Q8,fo,ldoJ,DF dgt]
   rw[AS4,Aa2 (by rfl)]
   simp only[RT,Q0,Q1,Q2,Q3,Q4,Q5,Q6,Q7,Q8,fo,ldoJ,DF dgt]
   exact .inl ⟨rfl,g0,hJ,_,Ad3,nJ,hc⟩
 have dgt:o.valid>0:=by omega
 simp only[RT,Q0,Q1,Q2,Q3,Q4,Q5,Q6,Q7,Q8,fo,ldoJ,DF d0]
 rw[AS3,Aa2 (by rfl)]
 by_cases d1:o.valid<=r.now
 rotate_left
 . have hc:r.choice o=some n32:=by
    unfold Rd.choice
    rw[if_neg (fun z=>d0 z.1),if_neg (fun z=>d1 z.2)]
   simp only[RT,Q0,Q1,Q2,Q3,Q4,Q5,Q6,Q7,Q8,fo,ldoJ,DT dgt,g0,hfa,ldJ,DF d1]
   rw[AS4,Aa2 (by rfl)]
   simp only[RT,Q0,Q1,Q2,Q3,Q4,Q5,Q6,Q7,Q8,fo,ldoJ,DT dgt,g0,hfa,ldJ,DF d1]
   exact .inl ⟨rfl,hJ,_,Ad3,nJ,hc⟩
 obtain⟨_,A',i1,i2,rfl⟩:=restL hJ
 by_cases d2:r.sure (o.valid-1) 0=some o.id
 rotate_left
 . have hc:r.choice o=none:=by
    unfold Rd.choice
    rw[if_neg (fun z=>d0 z.1),if_pos ⟨dgt,d1⟩,if_pos d2]
   cases hs:r.sure (o.valid-1) 0 with
   |none =>
    simp only[RT,Q0,Q1,Q2,Q3,Q4,Q5,Q6,Q7,Q8,fo,ldoJ,DT dgt,g0,hfa,ldJ,DT d1,Option.isSome_none]
    refine Aa0 i1 ?_
    simp only[RT,Q0,Q1,Q2,Q3,Q4,Q5,Q6,Q7,Q8]
    exact .inr ⟨rfl,hc,i2⟩
   |some id =>
    have hxi:=hsx id hs
    have hxo:¬x=o.id:=fun q=>d2 (by rw[hs,<- hxi,q])
    simp only[RT,Q0,Q1,Q2,Q3,Q4,Q5,Q6,Q7,Q8,fo,ldoJ,DT dgt,g0,hfa,ldJ,DT d1,Option.isSome_some,Ai8 v3 hx,eqZ hx hol,DF hxo]
    refine Aa0 i1 ?_
    simp only[RT,Q0,Q1,Q2,Q3,Q4,Q5,Q6,Q7,Q8]
    exact .inr ⟨rfl,hc,i2⟩
 have hxo:x=o.id:=hsx _ d2
 simp only[RT,Q0,Q1,Q2,Q3,Q4,Q5,Q6,Q7,Q8,fo,ldoJ,DT dgt,g0,hfa,ldJ,DT d1,d2,Option.isSome_some,Ai8 v3 hx,eqZ hx hol,DT hxo]
 rw[AS4,Aa2 (by rfl)]
 by_cases d3:r.locked<=o.valid
 . have hc:r.choice o=some o.id:=by
    unfold Rd.choice
    rw[if_neg (fun z=>d0 z.1),if_pos ⟨dgt,d1⟩,if_neg (fun z=>z d2),if_pos (.inl d3)]
   simp only[RT,Q0,Q1,Q2,Q3,Q4,Q5,Q6,Q7,Q8,fo,ldoJ,DT dgt,g0,hfa,ldJ,DT d1,DT d3,z1]
   exact .inl ⟨rfl,hK,_,hol,z3,hc⟩
 by_cases d4:r.lock=o.id
 . have hc:r.choice o=some o.id:=by
    unfold Rd.choice
    rw[if_neg (fun z=>d0 z.1),if_pos ⟨dgt,d1⟩,if_neg (fun z=>z d2),if_pos (.inr d4)]
   simp only[RT,Q0,Q1,Q2,Q3,Q4,Q5,Q6,Q7,Q8,fo,ldoJ,DT dgt,g0,hfa,ldJ,DT d1,DF d3,eqZ h.ok.lock hol,DT d4,z1]
   exact .inl ⟨rfl,hK,_,hol,z3,hc⟩
 have hc:r.choice o=some n32:=by
  unfold Rd.choice
  rw[if_neg (fun z=>d0 z.1),if_pos ⟨dgt,d1⟩,if_neg (fun z=>z d2),if_neg (fun z=>z.elim d3 d4)]
 simp only[RT,Q0,Q1,Q2,Q3,Q4,Q5,Q6,Q7,Q8,fo,ldoJ,DT dgt,g0,hfa,ldJ,DT d1,DF d3,eqZ h.ok.lock hol,DF d4]
 exact .inl ⟨rfl,hJ,_,Ad3,nJ,hc⟩
end
end Go.Sv.Tryz
namespace Go.Sv.Tryz
open Go Go.Proofs
section
variable {r:Rd}
theorem Rng.timer(h:Rng r)(k:Nat):Rng (r.timer k)/\(r.timer k).al.length<=r.al.length+1:=by
 unfold Rd.timer;split
 . exact⟨h,by omega⟩
 . exact⟨{ h with },by simp[Rd.do_]⟩
theorem Rng.vote(h:Rng r){k:Nat}(hk:k<2)(id:Bts):Rng (r.vote k id)/\(r.vote k id).al.length<=r.al.length+1:=by
 unfold Rd.vote;simp only[];split
 . exact⟨{ h with step:=⟨by show(0:Int)<=1+k;omega,by show(1:Int)+k<=3;omega⟩ },by simp[Rd.do_]⟩
 . exact⟨{ h with step:=⟨by show(0:Int)<=1+k;omega,by show(1:Int)+k<=3;omega⟩ },by simp⟩
theorem An2{f:Nat->Ofr}{i:Nat}{o:Ofr}(h:∀j,0<=(f j).valid/\(f j).valid<=1000)(ho:0<=o.valid/\o.valid<=1000)(j:Nat):0<=(fM f i o j).valid/\(fM f i o j).valid<=1000:=by
 unfold fM;split
 . exact ho
 . exact h j
theorem Rng.begin(h:Rng r){R:Int}(hR:0<=R):Rng (r.begin R)/\(r.begin R).al.length<=r.al.length+1:=by
 unfold Rd.begin;split
 . exact⟨{ h with step:=⟨by show(0:Int)<=3;omega,by show(3:Int)<=3;omega⟩ },by simp⟩
 . have h1:Rng { r with now:=R,step:=0 }:={ h with now:=⟨by show -1<=R;omega,by show R<12;omega⟩,step:=⟨by show(0:Int)<=0;omega,by show(0:Int)<=3;omega⟩ }
   simp only[]
   generalize (if r.valid>0 then r.a7 else r.fresh)=id
   split
   . exact h1.timer 0
   split
   . exact⟨h1,by simp⟩
   split
   . exact h1.timer 0
   . exact⟨{ h1 with offers:=An2 h.offers h.valid },by simp[Rd.do_]⟩
theorem Rng.rest(h:Rng r):Rng r.rest.1/\r.rest.1.al.length<=r.al.length+2:=by
 by_cases q:∃id,gI r id
 . obtain⟨id,q⟩:=q
   rw[AO7 q]
   have hn:=h.now
   simp only[]
   split
   . have h1:Rng { r with valid:=r.now+1,a7:=id,locked:=r.now+1,lock:=id }:={ h with valid:=⟨by show 0<=r.now+1;omega,by show r.now+1<=1000;omega⟩,locked:=⟨by show 0<=r.now+1;omega,by show r.now+1<=1000;omega⟩ }
     obtain⟨k1,k2⟩:=h1.vote (k:=1) (by omega) id
     exact⟨k1,by have k2:_<=r.al.length+1:=k2;omega⟩
   . exact⟨{ h with valid:=⟨by show 0<=r.now+1;omega,by show r.now+1<=1000;omega⟩ },by simp⟩
 . rw[A03 fun id w=>q ⟨id,w⟩]
   unfold mA
   split
   . obtain⟨k1,k2⟩:=h.vote (k:=1) (by omega) n32
     exact⟨k1,Nat.le_trans k2 (by omega)⟩
   . simp only[]
     have h1:Rng (if r.step=1/\bu r.n<=allI r.n r.v r.now 0 then r.timer 1 else r)/\(if r.step=1/\bu r.n<=allI r.n r.v r.now 0 then r.timer 1 else r).al.length<=r.al.length+1:=by
      split
      . exact h.timer 1
      . exact⟨h,by omega⟩
     split
     . obtain⟨k1,k2⟩:=h1.1.timer 2
       exact⟨k1,Nat.le_trans k2 (by have:=h1.2;omega)⟩
     . exact⟨h1.1,Nat.le_trans h1.2 (by omega)⟩
theorem Rng.bP(h:Rng r):Rng r.bP.1/\r.bP.1.al.length<=r.al.length+2:=by
 unfold Rd.bP;split
 . exact⟨h,by simp⟩
 split
 . exact⟨{ h with step:=⟨by show(0:Int)<=3;omega,by show(3:Int)<=3;omega⟩ },by simp[Rd.do_]⟩
 split
 . obtain⟨k1,k2⟩:=h.begin (R:=(_:Nat)) (Int.natCast_nonneg _)
   exact⟨k1,Nat.le_trans k2 (by omega)⟩
 split
 . split
   . obtain⟨k1,k2⟩:=h.vote (k:=0) (by omega) _
     exact⟨k1,Nat.le_trans k2 (by omega)⟩
   . exact h.rest
 . exact h.rest
theorem Rng.rules:∀{k:Nat} {r:Rd},Rng r->Rng (Rd.rules k r)
 | 0,r,h=>h
 |k+1,r,h=>by
  unfold Rd.rules;split
  . exact Rng.rules h.bP.1
  . exact h.bP.1
theorem Rng.settle(h:Rng r):Rng r.settle.1:=by
 have:=h.rules (k:=1000)
 unfold Rd.settle
 exact { this with }
end
section
variable {A A' B:AS} {rp cp:Nat} {r r':Rd} {vb:Nat->Nat} {fk fa fk' fa':Option Nat} {kv av:V}
def fx(A:AS)(rp cp:Nat)(vb:Nat->Nat)(fk fa:Option Nat)(A':AS)(x:Rd×List Act)(w:V):Prop :=
 ∃fk' fo,Fr (rdS A rp vb fk fa) A A'/\Gr A fk fk'/\Gr A fa fo/\a4 A' rp x.1 cp vb fk' none/\Lst dp Hp.emp A' w x.2 fo/\(∀f,fo=some f->fk'≠some f)/\∀j,j<24->fo≠some (vb j)
theorem fx.next{x:Rd×List Act}{w:V}(hw:WF A)(hf:Fr (rdS A rp vb fk fa) A B)(g1:Gr A fk fk')(g2:Gr A fa fa')(k:fx B rp cp vb fk' fa' A' x w):fx A rp cp vb fk fa A' x w:=by
 obtain⟨fk2,fo,k1,k2,k3,k4,k5,k6,k7⟩:=k
 exact⟨fk2,fo,hf.trans k1 fun x q=>AO2 hf g1 g2 hw (hf.wf hw) q,g1.trans k2 hf.len,g2.trans k3 hf.len,k4,k5,k6,k7⟩
theorem fx.br{x:Rd×List Act}{w:V}(hw:WF A)(hf:Fr S0 A B)(k:fx B rp cp vb fk fa A' x w):fx A rp cp vb fk fa A' x w:=k.next hw (hf.mono fun _ q=>q.elim) (.inl rfl) (.inl rfl)
set_option maxRecDepth 10000 in
set_option maxHeartbeats 16000000 in
theorem Af6(hw:WF A)(h:a4 A rp r cp vb fk fa)(hr:Rng r)(hl:r.al.length<=1000000):∃w A',EvF TP HH 67 [.ptr rp 0] A w A'/\fx A rp cp vb fk fa A' r.settle w:=by
 refine Aa4 rfl Tryz.func67 (by unfold Tryz.f67;rfl) Tryz.ntmps67 (by unfold Tryz.f67;rfl) (by simp) ?_
 simp only[RT,Q0,Q1,Q2,Q3,Q4,Q5,Q6,Q7,Q8]
 have hfa:=AB9 rp
 refine Aa6 (fun z e B=>e.get 0=.ptr rp 0/\∃(i:Nat) (ri:Rd),z=1000-i/\i<=1000/\e.get 3=.int .i64 i/\aJ A rp cp vb fk fa B ri/\Rng ri/\ri.al.length<=r.al.length+2*i/\Rd.rules 1000 r=Rd.rules (1000-i) ri)
  (fun z e B=>Is z (.exit 0)/\e.get 0=.ptr rp 0/\aJ A rp cp vb fk fa B (Rd.rules 1000 r))
  ⟨_,rfl,0,r,rfl,by omega,rfl,.da h,hr,by omega,rfl⟩ ?_ ?_
 . rintro z e B ⟨g0,i,ri,rfl,hi,g3,hst,hri,hla,hru⟩
   obtain⟨fk1,fa1,j1,j2,j3,j4⟩:=hst
   simp only[RT,Q0,Q1,Q2,Q3,Q4,Q5,Q6,Q7,Q8,g3]
   by_cases q:i<1000
   rotate_left
   . have:i=1000:=by omega
     subst this
     simp only[RT,Q0,Q1,Q2,Q3,Q4,Q5,Q6,Q7,Q8,DF (show ¬(((1000:Nat):Int)<1000) by omega)]
     rw[hru]
     exact⟨rfl,g0,fk1,fa1,j1,j2,j3,j4⟩
   have wB:=j1.wf hw
   obtain⟨_,C,k1,k2,rfl⟩:=Bh9 wB j4 hri (by omega)
   simp only[RT,Q0,Q1,Q2,Q3,Q4,Q5,Q6,Q7,Q8,DT (show(i:Int)<1000 by omega),g0]
   refine Aa0 k1 ?_
   have qS:=aJ.next hw j1 j2 j3 k2
   obtain⟨d,hd⟩:∃d,1000-i=d+1:=⟨999-i,by omega⟩
   have e1:Rd.rules (1000-i) ri=if ri.bP.2=true then Rd.rules (1000-(i+1)) ri.bP.1 else ri.bP.1:=by
    rw[hd,show 1000-(i+1)=d by omega];rfl
   rw[e1]at hru
   obtain⟨y1,y2⟩:=hri.bP
   cases qb:ri.bP.2 with
   |true =>
    rw[if_pos qb]at hru
    simp only[RT,Q0,Q1,Q2,Q3,Q4,Q5,Q6,Q7,Q8,g3]
    exact⟨1000-(i+1),by omega,g0,i+1,ri.bP.1,rfl,by omega,by rw[Ac2 (by omega)],qS,y1,by omega,hru⟩
   |false =>
    rw[if_neg (by rw[qb];simp)]at hru
    simp only[RT,Q0,Q1,Q2,Q3,Q4,Q5,Q6,Q7,Q8]
    rw[hru]
    exact⟨rfl,g0,qS⟩
 . rintro z e B hz ⟨rfl,g0,fk1,fa1,j1,j2,j3,j4⟩
   obtain⟨kv,av,b1,b2,b3⟩:=j4.box
   have ld:=Ap1 b1 j4.ok
   obtain⟨C,s1,s2,s3⟩:=Cu2 b1 j4.ok (w:=.ah) rfl []
   simp only[RT,Q0,Q1,Q2,Q3,Q4,Q5,Q6,Q7,Q8,g0,hfa,ld,s1]
   have hC:a4 C rp { Rd.rules 1000 r with al:=[] } cp vb fk1 none:=by
    refine { box:=⟨kv,.ah,s3,b2.fr s2 (.box b1),.nil⟩,cnt:=?_,ok:={ j4.ok with },rc:=j4.rc,ne1:=fun f _ q=>(by cases q),ne2:=fun j hj=>⟨(j4.ne2 j hj).1,fun q=>by cases q⟩ }
    exact j4.cnt.fr s2 (fun q=>j4.rc (by injection q with q;exact q.symm)) fun j hj=>⟨fun q=>j4.cnt.ju hj b1 (by injection q),fun q=>by cases q⟩
   exact⟨fk1,fa1,j1.trans s2 fun z q=>.inl (.inl q),j2,j3,hC,b3.fr s2 (.box b1),fun f q z=>j4.ne1 f z q,fun j hj=>(j4.ne2 j hj).2⟩
end
end Go.Sv.Tryz
namespace Go.Sv.Tryz
open Go Go.Proofs
section
variable {X:Nat->Prop} {N:Nat} {A B:AS} {r r':Rd} {ov kv vv tv av w:V} {b:Nat}
theorem B19(g:Nat->V)(a b:Int):au TP 152 [(0,.int .i64 a),(1,.int .i64 b),(2,.agg ((List.range 32).map g))]=some (.agg (.int .i64 a::.int .i64 b::(List.range 32).map g)):=by kernel_rfl
theorem Bt3{x:Bts}(h:x.length=32)(a b:Int):au TP 152 [(0,.int .i64 a),(1,.int .i64 b),(2,.agg (bc x))]=some (.agg (roC (a,b,x))):=by
 obtain⟨g,hg⟩:=Ac3 (l:=bc x) (n:=32) (by rw[Aa7,h])
 unfold roC;simp only[];rw[hg];exact B19 g a b
set_option maxRecDepth 10000 in
set_option maxHeartbeats 16000000 in
theorem Bi0{R:Int}(hw:WF A)(h:RRs X N A r w)(hr:Rng r)(hR:0<=R)(hl:r.al.length<=100000):∃u A',EvF TP HH 72 [w,.int .i64 R] A u A'/\Fr S0 A A'/\RRs X N A' (r.begin R) u:=by
 refine Aa4 rfl Tryz.func72 (by unfold Tryz.f72;rfl) Tryz.ntmps72 (by unfold Tryz.f72;rfl) (by simp) ?_
 obtain⟨cs,rfl,A1,e1,f1,hB1⟩:=h.new
 obtain⟨b2,hb2⟩:∃b,b=A.blk.length:=⟨_,rfl⟩
 rw[<- hb2]at hB1
 obtain⟨A2,e2,f2,r2,n2⟩:=Aa3 A1 rrZ.cs
 obtain⟨b4,hb4⟩:∃b,b=A1.blk.length:=⟨_,rfl⟩
 rw[<- hb4]at r2
 have hlt:b2<b4:=by
  obtain⟨cs,q⟩:=hB1.box
  have:=Ab3 q
  omega
 have f12:Fr S0 A A2:=f1.ab f2
 have w2:=f12.wf hw
 have hB2:=hB1.fr0 f2
 have fa:=AJ1 b2
 have fin:∀{B:AS} {r':Rd},Fr (·=.row b2) A2 B->Bx X N B b2 r'->∃w C,aa TP 36 (.ptr b2 0) B=some w/\ag TP 36 (.ptr b4 0) w B=some C/\aa TP 36 (.ptr b4 0) C=some w/\Fr S0 A C/\RRs X N C r' w:=fun {B r'} hf hb=>by
  obtain⟨w,C,y1,y2,y3,y4,y5⟩:=hb.fin (hf.wf w2) (hf.aq r2 (by omega))
  exact⟨w,C,y1,y2,y3,(f12.ar hf (by omega)).ar y4 (by omega),y5⟩
 unfold Rd.begin
 simp only[RT,Q0,Q1,Q2,Q3,Q4,Q5,Q6,Q7,Q8,<- e1,<- hb2]
 simp only[RT,Q0,Q1,Q2,Q3,Q4,Q5,Q6,Q7,Q8,AI9,<- hb4,<- e2]
 by_cases q12:12<=R
 . obtain⟨B,s1,s2,s3⟩:=hB2.mP w2 3
   obtain⟨u,C,y1,y2,y3,y4,y5⟩:=fin s2 s3
   simp only[RT,Q0,Q1,Q2,Q3,Q4,Q5,Q6,Q7,Q8,DT (show R>=12 from q12),fa,s1,y1,y2,y3]
   rw[if_pos q12]
   exact⟨y4,y5⟩
 rw[if_neg q12]
 obtain⟨B3,s1,s2,s3⟩:=hB2.qP w2 R
 have w3:=s2.wf w2
 obtain⟨B4,t1,t2,t3⟩:=s3.mP w3 0
 have w4:=t2.wf w3
 have f24:Fr (·=.row b2) A2 B4:=s2.trans t2 fun z q=>.inl q
 obtain⟨r1,hr1⟩:∃r1:Rd,r1={ r with now:=R,step:=0 }:=⟨_,rfl⟩
 have en:r1.n=r.n/\r1.me=r.me/\r1.ai=r.ai/\r1.valid=r.valid/\r1.known=r.known/\r1.al=r.al/\r1.a7=r.a7/\r1.fresh=r.fresh/\r1.offers=r.offers/\r1.now=R/\r1.step=0:=by rw[hr1];exact⟨rfl,rfl,rfl,rfl,rfl,rfl,rfl,rfl,rfl,rfl,rfl⟩
 have t3:Bx X N B4 b2 r1:=by rw[hr1];exact t3
 rw[<- hr1]
 obtain⟨u4,o1,o2⟩:=t3.out
 obtain⟨ov,kv,vv,tv,av,hb,hI⟩:=t3
 have t3:Bx X N B4 b2 r1:=⟨_,_,_,_,_,hb,hI⟩
 have ld:=AA8 hb hI
 have li:=Cf7 hb hI
 rw[en.1,en.2.1,en.2.2.1,en.2.2.2.1]at ld
 have hn7:r.n<=7:=by have:=hI.n;rw[en.1]at this;unfold okN at this;omega
 have r4:=f24.aq r2 (by omega)
 have tE:b4<B4.blk.length:=Ab3 r4
 have tm:∀{C:AS},Fr S0 B4 C->∃u w' D E,aa TP 36 (.ptr b2 0) C=some u/\EvF TP HH 95 [u,.int .i64 0] C w' D/\ag TP 36 (.ptr b4 0) w' D=some E/\aa TP 36 (.ptr b4 0) E=some w'/\Fr S0 A E/\RRs X N E (r1.timer 0) w':=fun {C} hf=>by
  obtain⟨u,p1,p2⟩:=(t3.fr0 hf).out
  obtain⟨w',D,k1,k2,k3⟩:=Bh5 (k:=0) (hf.wf w4) p2 (by omega) (by rw[en.2.2.2.2.2.2.2.2.2.1];omega) (by rw[en.2.2.2.2.2.2.2.2.2.1];omega) (by rw[en.2.2.2.2.2.1];exact hl)
  obtain⟨E,x1,x2,x3,x4⟩:=k3.fin (k2.wf (hf.wf w4)) (k2.af (hf.af r4))
  exact⟨u,w',D,E,p1,k1,x1,x2,(((f12.ar f24 (by omega)).ab hf).ab k2).ar x3 (by omega),x4⟩
 obtain⟨_,_,p1,hA,rfl⟩:=Am6 B4 (n:=r.n) (h:=r.ai) (k:=R) (by omega) (by omega)
 rw[hA]at p1
 simp only[RT,Q0,Q1,Q2,Q3,Q4,Q5,Q6,Q7,Q8,DF (show ¬R>=12 from q12),fa,s1,t1]
 simp only[RT,Q0,Q1,Q2,Q3,Q4,Q5,Q6,Q7,Q8,BV6,fa,ld,Aa1]
 refine Aa0 p1 ?_
 simp only[RT,Q0,Q1,Q2,Q3,Q4,Q5,Q6,Q7,Q8,Aa1]
 refine⟨Aa5 (ha:=rfl) rfl ld.2.1 rfl Aa1,?_⟩
 by_cases qp:aP r.n r.ai R=r.me
 rotate_left
 . obtain⟨u,w',D,E,x1,x2,x3,x4,x5,x6⟩:=tm (.refl _ _)
   simp only[RT,Q0,Q1,Q2,Q3,Q4,Q5,Q6,Q7,Q8,DT (show ¬(aP (r.n:Int) r.ai R=(r.me:Int))from qp),Aa1,x1]
   refine Aa0 x2 ?_
   simp only[RT,Q0,Q1,Q2,Q3,Q4,Q5,Q6,Q7,Q8,x3,x4]
   rw[if_pos qp]
   exact⟨x5,x6⟩
 simp only[RT,Q0,Q1,Q2,Q3,Q4,Q5,Q6,Q7,Q8,DF (show ¬ ¬(aP (r.n:Int) r.ai R=(r.me:Int))from fun q=>q qp),Aa1,fa,li,Av8]
 obtain⟨A5,e5,f5,r5,n5⟩:=Aa3 B4 (bc bF)
 obtain⟨b5,hb5⟩:∃b,b=B4.blk.length:=⟨_,rfl⟩
 rw[<- hb5]at r5
 obtain⟨A6,v1,v2,v3⟩:=AA5 r5 (by simp[bF]) hI.fr
 have f46:Fr S0 B4 A6:=f5.ar v2 (by omega)
 have ld6:=AA8 (f46.af hb) (hI.fr0 f46)
 have li6:=Cf7 (f46.af hb) (hI.fr0 f46)
 rw[en.2.2.2.1]at ld6
 obtain⟨id,hid⟩:∃id,id=if r.valid>0 then r.a7 else r.fresh:=⟨_,rfl⟩
 have dt:id.length=32:=by rw[hid,<- en.2.2.2.2.2.2.1,<- en.2.2.2.2.2.2.2.1];split;exact hI.be;exact hI.fr
 rw[if_neg (show ¬aP r.n r.ai R≠r.me from fun q=>q qp),<- hid]
 simp only[RT,Q0,Q1,Q2,Q3,Q4,Q5,Q6,Q7,Q8,<- hb5,<- e5,v1,fa,ld6]
 refine Ah4 (fun z e B=>Is z .normal/\e.get 2=.ptr b2 0/\e.get 1=.int .i64 R/\e.get 4=.ptr b4 0/\e.get 5=.ptr b5 0/\Fr S0 B4 B/\B.blk[b5]?=some ⟨bc id,.var⟩) ?_ ?_
 . refine Aa8 (fun q=>?_) (fun q=>?_)
   . rw[if_pos q]at hid
     obtain⟨A7,y1,y2,y3⟩:=AA5 v3 (by simp[hI.fr]) hI.be
     simp only[RT,Q0,Q1,Q2,Q3,Q4,Q5,Q6,Q7,Q8,fa,li6,y1]
     exact⟨rfl,f46.ar y2 (by omega),by rw[hid,<- en.2.2.2.2.2.2.1];exact y3⟩
   . rw[if_neg q]at hid
     simp only[RT,Q0,Q1,Q2,Q3,Q4,Q5,Q6,Q7,Q8]
     exact⟨rfl,f46,by rw[hid,<- en.2.2.2.2.2.2.2.1];exact v3⟩
 rintro z e B ⟨rfl,g2,g1,g4,g5,hB,gB⟩
 have hBb:=hB.af hb
 have hIB:=hI.fr0 hB
 have wB:=hB.wf w4
 have ldB:=AA8 hBb hIB
 rw[en.2.2.2.1]at ldB
 obtain⟨l,hS,hO⟩:=hIB.ov
 rw[en.2.2.2.2.2.2.2.2.1]at hO
 have hol:=hO.len
 obtain⟨_,_,m1,hE,rfl⟩:=Ak3 (R:=R) (Ab5 X B) hS (by omega)
 rw[hE]at m1
 simp only[RT,Q0,Q1,Q2,Q3,Q4,Q5,Q6,Q7,Q8,g2,g1,fa,ldB]
 refine Aa0 m1 ?_
 rcases hO.find hR with⟨hth,hpl⟩ |⟨hth,j,p,hpl,hjp,hfp,hpz⟩
 rotate_left
 . have hj:=(LG.1 hjp).1
   obtain⟨u,E,y1,y2,y3,y4,y5⟩:=(t3.fr0 hB).fin wB (hB.af r4)
   simp only[RT,Q0,Q1,Q2,Q3,Q4,Q5,Q6,Q7,Q8,hpl,DT (show(j:Int)>=0 by omega),g2,y1,g4,y2,y3]
   rw[if_pos hth]
   exact⟨((f12.ar f24 (by omega)).ab hB).ar y4 (by omega),y5⟩
 rw[if_neg (by rw[hth];simp)]
 simp only[RT,Q0,Q1,Q2,Q3,Q4,Q5,Q6,Q7,Q8,hpl,DF (show ¬(-1:Int)>=0 by omega),g5,ldI gB dt,Ad8,eqZ dt Aa9]
 by_cases qz:id=z32
 . obtain⟨u,w',D,E,x1,x2,x3,x4,x5,x6⟩:=tm hB
   simp only[RT,Q0,Q1,Q2,Q3,Q4,Q5,Q6,Q7,Q8,DT qz,g2,x1]
   refine Aa0 x2 ?_
   simp only[RT,Q0,Q1,Q2,Q3,Q4,Q5,Q6,Q7,Q8,g4,x3,x4]
   rw[if_pos (.inl qz)]
   exact⟨x5,x6⟩
 have last:∀{C:AS},Fr S0 B C->∃v1 C1 C2 u2 u3 C3 C4,aa TP 31 (.ptr b2 103) C=some ov/\aa TP 3 (.ptr b2 6) C=some (.int .i64 r.valid)/\aa TP 30 (.ptr b5 0) C=some (.agg (bc id))/\EvF TP HH 79 [ov,.agg (roC (R,r.valid,id))] C v1 C1/\ag TP 31 (.ptr b2 103) v1 C1=some C2/\aa TP 36 (.ptr b2 0) C2=some u2/\aa TP 3 (.ptr b2 6) C2=some (.int .i64 r.valid)/\aa TP 30 (.ptr b5 0) C2=some (.agg (bc id))/\EvF TP HH 96 [u2,.agg (aX ⟨1,R,0,r.valid,id⟩)] C2 u3 C3/\ag TP 36 (.ptr b4 0) u3 C3=some C4/\aa TP 36 (.ptr b4 0) C4=some u3/\Fr S0 A C4/\RRs X N C4 (({ r1 with offers:=fM r1.offers R.toNat ⟨true,r.valid,id⟩ }:Rd).do_ ⟨1,R,0,r.valid,id⟩) u3:=by
  intro C hC
  have hIC:=hIB.fr0 hC
  have hBC:=hC.af hBb
  have ldC:=AA8 hBC hIC
  rw[en.2.2.2.1]at ldC
  have wC:=hC.wf wB
  have gC:=hC.af gB
  obtain⟨v1,C1,k1,k2,k3⟩:=Au2 (p:=(R,r.valid,id)) wC (Ab5 X C) dt (hS.mono (Ac8 hC)) (by omega)
  have wC1:=k2.wf wC
  have hO2:=hO.put (v:=r.valid) hR (by omega) hth qz
  obtain⟨C2,q1,q2,q3⟩:=((t3.fr0 hB).fr0 hC).nA wC k2 k3 hO2
  have wC2:=q2.wf wC1
  obtain⟨u2,z1,z2⟩:=q3.out
  obtain⟨ov2,kv2,vv2,tv2,av2,oC,hI2⟩:=q3
  have ld2:=AA8 oC hI2
  have g5C:=q2.aq (k2.af gC) (by omega)
  obtain⟨u3,C3,j1,j2,j3⟩:=rDo wC2 z2 (a:=⟨1,R,0,r.valid,id⟩) dt (by show r1.al.length<=_;rw[en.2.2.2.2.2.1];exact hl)
  have r4C:=j2.af (q2.aq (k2.af (hC.af (hB.af r4))) (by omega))
  obtain⟨C4,y1,y2,y3,y4⟩:=j3.fin (j2.wf wC2) r4C
  refine⟨v1,C1,C2,u2,u3,C3,C4,ldC.2.2.2.2.2.2.2.1,ldC.2.2.2.2.2.2.1,ldI gC dt,k1,q1,z1,?_,ldI g5C dt,j1,y1,y2,?_,?_⟩
  . rw[ld2.2.2.2.2.2.2.1];show some (V.int .i64 r1.valid)=_;rw[en.2.2.2.1]
  . exact(((((f12.ar f24 (by omega)).ab (hB.ab hC)).ab k2).ar q2 (by omega)).ab j2).ar y3 (by omega)
  . rw[en.2.2.2.2.2.2.2.2.1];exact y4
 by_cases qv:r.valid>0
 rotate_left
 . obtain⟨v1,C1,C2,u2,u3,C3,C4,x1,x2,x3,x4,x5,x6,x7,x8,x9,x10,x11,x12,x13⟩:=last (.refl _ _)
   simp only[RT,Q0,Q1,Q2,Q3,Q4,Q5,Q6,Q7,Q8,DF qz,DF qv,g2,fa,ldB,g1,g5,x2,x3,Bt3 dt]
   refine Aa0 x4 ?_
   simp only[RT,Q0,Q1,Q2,Q3,Q4,Q5,Q6,Q7,Q8,g2,fa,x5,x6,g1,x7,g5,x8,Bh6 dt]
   refine Aa0 x9 ?_
   simp only[RT,Q0,Q1,Q2,Q3,Q4,Q5,Q6,Q7,Q8,g4,x10,x11]
   rw[if_neg (by rintro(z |z);exact qz z;exact qv z.1)]
   rw[hr1]at x13
   exact⟨x12,x13⟩
 obtain⟨_,C,m2,m3,rfl⟩:=Ar1 (id:=id) (Ab5 X B) hIB.kv (by rw[en.2.2.2.2.1];exact hr.known) dt
 rw[en.2.2.2.2.1]at m2
 simp only[RT,Q0,Q1,Q2,Q3,Q4,Q5,Q6,Q7,Q8,DF qz,DT qv,g2,fa,ldB,g5,ldI gB dt]
 refine Aa0 m2 ?_
 by_cases qk:id∈r.known
 . obtain⟨v1,C1,C2,u2,u3,C3,C4,x1,x2,x3,x4,x5,x6,x7,x8,x9,x10,x11,x12,x13⟩:=last m3
   simp only[RT,Q0,Q1,Q2,Q3,Q4,Q5,Q6,Q7,Q8,DT qk,Af4,g2,fa,x1,g1,g5,x2,x3,Bt3 dt]
   refine Aa0 x4 ?_
   simp only[RT,Q0,Q1,Q2,Q3,Q4,Q5,Q6,Q7,Q8,g2,fa,x5,x6,g1,x7,g5,x8,Bh6 dt]
   refine Aa0 x9 ?_
   simp only[RT,Q0,Q1,Q2,Q3,Q4,Q5,Q6,Q7,Q8,g4,x10,x11]
   rw[if_neg (by rintro(z |z);exact qz z;exact z.2 qk)]
   rw[hr1]at x13
   exact⟨x12,x13⟩
 . obtain⟨u,w',D,E,x1,x2,x3,x4,x5,x6⟩:=tm (hB.ab m3)
   simp only[RT,Q0,Q1,Q2,Q3,Q4,Q5,Q6,Q7,Q8,DF qk,Af4,g2,x1]
   refine Aa0 x2 ?_
   simp only[RT,Q0,Q1,Q2,Q3,Q4,Q5,Q6,Q7,Q8,g4,x3,x4]
   rw[if_pos (.inr ⟨qv,qk⟩)]
   exact⟨x5,x6⟩
end
end Go.Sv.Tryz
namespace Go.Sv
theorem A04{r:Rd}{o:Ofr}(h:o.id≠z32):(r.choice o=none/\(r.choice o).getD z32=z32)∨∃id,r.choice o=some id/\(r.choice o).getD z32=id/\id≠z32:=by
 unfold Rd.choice
 have:=BE8
 split
 . exact .inr ⟨_,rfl,rfl,h⟩
 split
 . split
   . exact .inl ⟨rfl,rfl⟩
   split
   . exact .inr ⟨_,rfl,rfl,h⟩
   . exact .inr ⟨_,rfl,rfl,fun z=>this z.symm⟩
 . exact .inr ⟨_,rfl,rfl,fun z=>this z.symm⟩
end Go.Sv
namespace Go.Sv.Tryz
open Go Go.Proofs
section
variable {X:Nat->Prop} {N:Nat} {A B:AS} {r r':Rd} {ov kv vv tv av w:V} {b:Nat}
instance (r:Rd):Decidable (dT r):=by unfold dT;infer_instance
theorem B20{b o:Nat}{p:ROf}(h:jh A b o (roC p))(hp:p.2.2.length=32):aa TP 152 (.ptr b o) A=some (.agg (roC p)):=h.kS (j:=0) (.all _) BE3 A54 (Ay6 hp)
def RlD(X:Nat->Prop)(N:Nat)(A:AS)(b2:Nat)(r:Rd)(z:Ex)(e:Env)(B:AS):Prop:=Is z .ret/\e.get 2=.ptr b2 0/\e.get 3=.bool r.bP.2/\∃u,aa TP 36 (.ptr b2 0) B=some u/\Fr S0 A B/\RRs X N B r.bP.1 u
theorem Bi1{o:ROf}(h:o.2.2.length=32):(kr r o).length=32:=by
 unfold kr Rd.choice
 split
 . exact h
 split
 . split
   . rfl
   split
   . exact h
   . rfl
 . rfl
set_option maxRecDepth 10000 in
set_option maxHeartbeats 32000000 in
theorem Ci9(hw:WF A)(h:RRs X N A r w)(hr:Rng r)(hl:r.al.length<=90000):∃u A',EvF TP HH 94 [w] A u A'/\Fr S0 A A'/\∃u1,u=.tup [u1,.bool r.bP.2]/\RRs X N A' r.bP.1 u1:=by
 refine Aa4 rfl Tryz.func94 (by unfold Tryz.f94;rfl) Tryz.ntmps94 (by unfold Tryz.f94;rfl) (by simp) ?_
 obtain⟨cs,rfl,A1,e1,f1,hB1⟩:=h.new
 obtain⟨b1,hb1⟩:∃b,b=A.blk.length:=⟨_,rfl⟩
 rw[<- hb1]at hB1
 obtain⟨A2,e2,f2,r2,n2⟩:=Aa3 A1 rrZ.cs
 obtain⟨b2,hb2⟩:∃b,b=A1.blk.length:=⟨_,rfl⟩
 rw[<- hb2]at r2
 have hlt:b1<b2:=by
  obtain⟨cs,q⟩:=hB1.box
  have:=Ab3 q
  omega
 have f12:Fr S0 A A2:=f1.ab f2
 have w2:=f12.wf hw
 have hB2:=hB1.fr0 f2
 have fa:=AJ1 b1
 obtain⟨ov,kv,vv,tv,av,hb,hI⟩:=hB2
 have hB2:Bx X N A2 b1 r:=⟨_,_,_,_,_,hb,hI⟩
 have ld:=fun {B:AS} (hf:Fr S0 A2 B)=>AA8 (hf.af hb) (hI.fr0 hf)
 have hn:=hI.n
 have hn7:r.n<=7:=by have:=hI.n;unfold okN at this;omega
 have tF:=Ab3 r2
 have mR:=hr.now
 have fin:∀{C:AS} {r':Rd},Fr S0 A C->C.blk[b2]?=some ⟨rrZ.cs,.var⟩->Bx X N C b1 r'->∃w D,aa TP 36 (.ptr b1 0) C=some w/\ag TP 36 (.ptr b2 0) w C=some D/\aa TP 36 (.ptr b2 0) D=some w/\Fr S0 A D/\RRs X N D r' w:=fun {C r'} hf hz hx=>by
  obtain⟨w,D,y1,y2,y3,y4,y5⟩:=hx.fin (hf.wf hw) hz
  exact⟨w,D,y1,y2,y3,hf.ar y4 (by omega),y5⟩
 have finw:∀{C:AS} {r':Rd} {w:V},Fr S0 A C->C.blk[b2]?=some ⟨rrZ.cs,.var⟩->RRs X N C r' w->∃D,ag TP 36 (.ptr b2 0) w C=some D/\aa TP 36 (.ptr b2 0) D=some w/\Fr S0 A D/\RRs X N D r' w:=fun {C r' w} hf hz hx=>by
  obtain⟨D,y2,y3,y4,y5⟩:=hx.fin (hf.wf hw) hz
  exact⟨D,y2,y3,hf.ar y4 (by omega),y5⟩
 have ld2:=ld (.refl _ _)
 simp only[RT,Q0,Q1,Q2,Q3,Q4,Q5,Q6,Q7,Q8,<- e1,<- hb1]
 simp only[RT,Q0,Q1,Q2,Q3,Q4,Q5,Q6,Q7,Q8,AI9,<- hb2,<- e2]
 by_cases q0:r.now<0
 . have e:r.bP=(r,false):=by unfold Rd.bP;rw[if_pos (.inl q0)]
   obtain⟨u,D,y1,y2,y3,y4,y5⟩:=fin f12 r2 hB2
   simp only[RT,Q0,Q1,Q2,Q3,Q4,Q5,Q6,Q7,Q8,fa,ld2,DT q0,y1,y2,y3]
   rw[e];exact⟨y4,_,rfl,y5⟩
 by_cases q3:r.step=3
 . have e:r.bP=(r,false):=by unfold Rd.bP;rw[if_pos (.inr q3)]
   obtain⟨u,D,y1,y2,y3,y4,y5⟩:=fin f12 r2 hB2
   simp only[RT,Q0,Q1,Q2,Q3,Q4,Q5,Q6,Q7,Q8,fa,ld2,DF q0,DT q3,y1,y2,y3]
   rw[e];exact⟨y4,_,rfl,y5⟩
 simp only[RT,Q0,Q1,Q2,Q3,Q4,Q5,Q6,Q7,Q8,fa,ld2,DF q0,DF q3]
 refine Aa6 (fun z e B=>Fr S0 A2 B/\e.get 1=.ptr b1 0/\e.get 2=.ptr b2 0/\∃k:Nat,z=12-k/\k<=12/\e.get 4=.int .i64 k/\∀j:Nat,j<k->∀id,r.sure j 1=some id->¬id∈r.known)
  (fun z e B=>(Is z (.exit 0)/\Fr S0 A2 B/\e.get 1=.ptr b1 0/\e.get 2=.ptr b2 0/\r.agreed=none)∨RlD X N A b2 r z e B)
  ⟨_,.refl _ _,rfl,rfl,0,rfl,by omega,rfl,fun j hj=>by omega⟩ ?_ ?_
 . rintro z e B ⟨hB,g1,g2,k,rfl,hk,g4,hno⟩
   simp only[RT,Q0,Q1,Q2,Q3,Q4,Q5,Q6,Q7,Q8,g4]
   refine Aa8 (fun g=>?_) (fun g=>?_)
   rotate_left
   . have:k=12:=by omega
     subst this
     simp only[RT,Q0,Q1,Q2,Q3,Q4,Q5,Q6,Q7,Q8]
     exact .inl ⟨rfl,hB,g1,g2,AU0 hno⟩
   have wB:=hB.wf w2
   have hBB:=hB2.fr0 hB
   obtain⟨u,o1,o2⟩:=hBB.out
   obtain⟨_,C,k1,k2,x,hx,rfl,hsx⟩:=BJ2 wB o2 (R:=(k:Int)) (K:=1)
   obtain⟨D0,e5,f5,r5,n5⟩:=Aa3 C (bc bF)
   obtain⟨b5,hb5⟩:∃b,b=C.blk.length:=⟨_,rfl⟩
   rw[<- hb5]at r5
   obtain⟨D,t1,t2,t3⟩:=AA5 r5 (by simp[bF]) hx
   have hwi:IntKind.i64.wrap ((k:Int)+1)=((k+1:Nat):Int):=by rw[Ac2 (by omega)]
   simp only[RT,Q0,Q1,Q2,Q3,Q4,Q5,Q6,Q7,Q8,g1,g4,o1]
   refine Aa0 k1 ?_
   simp only[RT,Q0,Q1,Q2,Q3,Q4,Q5,Q6,Q7,Q8,Av8]
   simp only[RT,Q0,Q1,Q2,Q3,Q4,Q5,Q6,Q7,Q8,<- hb5,<- e5,t1]
   have hD:Fr S0 A2 D:=((hB.ab k2).ab f5).ar t2 (by have:=hB.len;have:=k2.len;omega)
   have nxt:(∀id,r.sure k 1=some id->¬id∈r.known)->∀j:Nat,j<k+1->∀id,r.sure j 1=some id->¬id∈r.known:=fun q j hj=>by
    rcases Nat.lt_or_ge j k with z |z
    . exact hno j z
    . have:j=k:=by omega
      subst this;exact q
   have ldD:=ld hD
   cases hs:r.sure (k:Int) 1 with
   |none =>
    simp only[RT,Q0,Q1,Q2,Q3,Q4,Q5,Q6,Q7,Q8,Option.isSome_none,g4,hwi]
    refine⟨12-(k+1),by omega,hD,?_⟩
    exact⟨g1,g2,k+1,rfl,by omega,rfl,nxt fun id q=>by rw[hs]at q;cases q⟩
   |some id =>
    obtain rfl:=hsx id hs
    obtain⟨_,E,m1,m2,rfl⟩:=Ar1 (id:=x) (Ab5 X D) (hI.fr0 hD).kv hr.known hx
    simp only[RT,Q0,Q1,Q2,Q3,Q4,Q5,Q6,Q7,Q8,Option.isSome_some,g1,fa,ldD,ldI t3 hx]
    refine Aa0 m1 ?_
    have hE:=hD.ab m2
    by_cases qk:x∈r.known
    rotate_left
    . simp only[RT,Q0,Q1,Q2,Q3,Q4,Q5,Q6,Q7,Q8,DF qk,g4,hwi]
      refine⟨12-(k+1),by omega,hE,?_⟩
      exact⟨g1,g2,k+1,rfl,by omega,rfl,nxt fun id q=>by rw[hs]at q;cases q;exact qk⟩
    have hag:=AT9 (show k<12 by omega) hs qk hno
    have hru:=AE8 q0 q3 hag
    have wE:=hE.wf w2
    obtain⟨G,s1,s2,s3⟩:=(hB2.fr0 hE).mP wE 3
    obtain⟨u3,p1,p2⟩:=s3.out
    have wG:=s2.wf wE
    have tG:=s2.aq (m2.af t3) (by have:=hB.len;have:=k2.len;omega)
    obtain⟨u4,I,j1,j2,j3⟩:=rDo wG p2 (a:=⟨4,k,0,0,x⟩) hx (by show r.al.length<=_;omega)
    obtain⟨J,y1,y2,y3,y4⟩:=finw (((f12.ab hE).ar s2 (by omega)).ab j2) (j2.af (s2.aq (hE.af r2) (by omega))) j3
    simp only[RT,Q0,Q1,Q2,Q3,Q4,Q5,Q6,Q7,Q8,DT qk,g1,fa,s1,p1,g4,ldI tG hx,B16 hx]
    refine Aa0 j1 ?_
    simp only[RT,Q0,Q1,Q2,Q3,Q4,Q5,Q6,Q7,Q8,g2,y1]
    refine .inr ⟨rfl,g2,?_⟩
    rw[hru]
    exact⟨rfl,_,y2,y3,y4⟩
 rintro z e B hz (⟨rfl,hB,g1,g2,hag⟩ |⟨rfl,g2,g3,u,y1,y2,y3⟩)
 rotate_left
 . simp only[RT,Q0,Q1,Q2,Q3,Q4,Q5,Q6,Q7,Q8,g2,g3,y1]
   exact⟨y2,_,rfl,y3⟩
 have wB:=hB.wf w2
 have ldB:=ld hB
 obtain⟨l,hS,hV⟩:=hI.vv
 have hll:=hV.len hn7
 obtain⟨_,C,k1,k2,rfl⟩:=A01 (now:=r.now) hn (Ab5 X B) (hS.mono (Ac8 hB)) (by omega) hV.vl
 have hC:=hB.ab k2
 have wC:=hC.wf w2
 simp only[RT,Q0,Q1,Q2,Q3,Q4,Q5,Q6,Q7,Q8,g1,fa,ldB]
 refine Aa0 k1 ?_
 cases hah:cU r.n r.v r.now with
 |some k =>
  obtain⟨u1,o1,o2⟩:=(hB2.fr0 hC).out
  obtain⟨u2,D,m1,m2,m3⟩:=Bi0 (R:=(k:Int)) wC o2 hr (by omega) (by omega)
  obtain⟨E,y1,y2,y3,y4⟩:=finw ((f12.ab hC).ab m2) (m2.af (hC.af r2)) m3
  simp only[RT,Q0,Q1,Q2,Q3,Q4,Q5,Q6,Q7,Q8,Option.isSome_some,Option.getD_some,g1,o1]
  refine Aa0 m1 ?_
  simp only[RT,Q0,Q1,Q2,Q3,Q4,Q5,Q6,Q7,Q8,g2,y1,y2]
  rw[AK7 q0 q3 hag hah]
  exact⟨y3,_,rfl,y4⟩
 |none =>
 have ldC:=ld hC
 obtain⟨lo,hSo,hO⟩:=hI.ov
 have hSoC:=hSo.mono (Ac8 hC)
 have hol:=hO.len
 have h0n:0<=r.now:=by omega
 obtain⟨_,_,m1,hE,rfl⟩:=Ak3 (R:=r.now) (Ab5 X C) hSoC (by omega)
 rw[hE]at m1
 simp only[RT,Q0,Q1,Q2,Q3,Q4,Q5,Q6,Q7,Q8,Option.isSome_none,g1,fa,ldC]
 refine Aa0 m1 ?_
 simp only[RT,Q0,Q1,Q2,Q3,Q4,Q5,Q6,Q7,Q8]
 refine Ag0 (fun z e D=>Is z .normal/\e.get 1=.ptr b1 0/\e.get 2=.ptr b2 0/\e.get 9=.int .i64 (plO (fw lo r.now))/\Fr S0 A2 D/\e.get 81=.bool (decide (dT r))) ?_ ?_
 . rw[BB5,Aa2 (by rfl)]
   by_cases c1:r.step=0
   rotate_left
   . simp only[RT,Q0,Q1,Q2,Q3,Q4,Q5,Q6,Q7,Q8,g1,fa,ldC,DF c1]
     refine⟨rfl,g2,hC,?_⟩
     rw[DF (fun z=>c1 z.1)]
   rcases hO.find h0n with⟨hth,hpl⟩ |⟨hth,j,p,hpl,hjp,hfp,hpz⟩
   . simp only[RT,Q0,Q1,Q2,Q3,Q4,Q5,Q6,Q7,Q8,g1,fa,ldC,DT c1,hpl,DF (show ¬(-1:Int)>=0 by omega)]
     refine⟨rfl,g2,hC,?_⟩
     rw[DF (fun z=>by have:=z.2.1;rw[hth]at this;cases this)]
   obtain⟨bo,oo,i1,i2,i3⟩:=Cf6 (Ab5 X C) hSoC hjp
   have fo:=Cf5 bo oo
   have lo':=Cu5 i2 i3
   obtain⟨_,D,x1,x2,rfl⟩:=Ar1 (id:=p.2.2) (Ab5 X C) (hI.fr0 hC).kv hr.known i3
   simp only[RT,Q0,Q1,Q2,Q3,Q4,Q5,Q6,Q7,Q8,g1,fa,ldC,DT c1,hpl,DT (show(j:Int)>=0 by omega),i1,fo,lo']
   refine Aa0 x1 ?_
   simp only[RT,Q0,Q1,Q2,Q3,Q4,Q5,Q6,Q7,Q8]
   refine⟨rfl,g1,g2,hC.ab x2,?_⟩
   congr 1
   rw[decide_eq_decide]
   unfold dT
   rw[hfp]
   exact⟨fun z=>⟨c1,rfl,z⟩,fun z=>z.2.2⟩
 clear g1 g2
 rintro z e D ⟨rfl,g1,g2,g9,hD,g81⟩
 have wD:=hD.wf w2
 simp only[RT,Q0,Q1,Q2,Q3,Q4,Q5,Q6,Q7,Q8,g81]
 refine Ah4 (fun z e E=>(Is z .normal/\e.get 1=.ptr b1 0/\e.get 2=.ptr b2 0/\Fr S0 A2 E/\r.bP=r.rest)∨RlD X N A b2 r z e E) ?_ ?_
 . refine Aa8 (fun c=>?_) (fun c=>?_)
   rotate_left
   . simp only[RT,Q0,Q1,Q2,Q3,Q4,Q5,Q6,Q7,Q8]
     exact .inl ⟨rfl,g1,g2,hD,Aw2 q0 q3 hag hah c⟩
   rcases hO.find h0n with⟨hth,hpl⟩ |⟨hth,j,p,hpl,hjp,hfp,hpz⟩
   . have:=c.2.1;rw[hth]at this;cases this
   obtain⟨bo,oo,i1,i2,i3⟩:=Cf6 (Ab5 X D) (hSo.mono (Ac8 hD)) hjp
   have lw:=B20 i2 i3
   have ldD:=ld hD
   obtain⟨u,o1,o2⟩:=(hB2.fr0 hD).out
   have hva:=hr.offers r.now.toNat
   rw[hfp]at hva
   obtain⟨E0,e5,f5,r5,n5⟩:=Aa3 D (bc bF)
   obtain⟨b10,nB⟩:∃b,b=D.blk.length:=⟨_,rfl⟩
   rw[<- nB]at r5
   obtain⟨_,E1,k3,k4,rfl⟩:=Bh7 (o:=p) (f5.wf wD) (o2.fr0 f5) i3 hva.1 hva.2
   have mS:=Bi1 (r:=r) i3
   have r5':=k4.af r5
   obtain⟨E,t1,t2,t3⟩:=AA5 r5' (by simp[bF]) mS
   have hE:Fr S0 A2 E:=((hD.ab f5).ab k4).ar t2 (by have:=hD.len;omega)
   have wE:=hE.wf w2
   obtain⟨u',p1,p2⟩:=(hB2.fr0 hE).out
   rw[hpl]at g9
   simp only[RT,Q0,Q1,Q2,Q3,Q4,Q5,Q6,Q7,Q8,BB6,g1,fa,ldD,o1,g9,i1,lw,Av8,Aa1]
   simp only[RT,Q0,Q1,Q2,Q3,Q4,Q5,Q6,Q7,Q8,<- nB,<- e5]
   refine Aa0 k3 ?_
   simp only[RT,Q0,Q1,Q2,Q3,Q4,Q5,Q6,Q7,Q8,t1,Aa1,ldI t3 mS,Ad8,eqZ mS Aa9]
   have hch:r.offers r.now.toNat=⟨true,p.2.1,p.2.2⟩:=hfp
   rcases A04 (r:=r) (o:=⟨true,p.2.1,p.2.2⟩) hpz with⟨y1,y2⟩ |⟨id,y1,y2,y3⟩
   . have y2:kr r p=z32:=y2
     simp only[RT,Q0,Q1,Q2,Q3,Q4,Q5,Q6,Q7,Q8,DT y2,Bool.not_true]
     exact .inl ⟨rfl,g1,g2,hE,AU2 q0 q3 hag hah c (by rw[hch];exact y1)⟩
   . have y2:kr r p=id:=y2
     rw[y2]at t3 mS ⊢
     obtain⟨u5,G,j1,j2,j3⟩:=Bt0 (k:=0) (id:=id) wE p2 (by omega) mS (by omega)
     obtain⟨H,x1,x2,x3,x4⟩:=finw ((f12.ab hE).ab j2) (j2.af (hE.af r2)) j3
     have j1:EvF TP HH 85 [u',.int .i64 0,.agg (bc id)] E u5 G:=j1
     simp only[RT,Q0,Q1,Q2,Q3,Q4,Q5,Q6,Q7,Q8,DF y3,Bool.not_false,g1,p1,ldI t3 mS]
     refine Aa0 j1 ?_
     simp only[RT,Q0,Q1,Q2,Q3,Q4,Q5,Q6,Q7,Q8,g2,x1]
     refine .inr ⟨rfl,g2,?_⟩
     rw[AU1 q0 q3 hag hah c (by rw[hch];exact y1)]
     exact⟨rfl,_,x2,x3,x4⟩
 clear g1 g2 g9 g81
 rintro z e E (⟨rfl,g1,g2,hE,hru⟩ |⟨rfl,g2,g3,u,y1,y2,y3⟩)
 rotate_left
 . simp only[RT,Q0,Q1,Q2,Q3,Q4,Q5,Q6,Q7,Q8,g2,g3,y1]
   exact⟨y2,_,rfl,y3⟩
 have wE:=hE.wf w2
 rw[hru]
 have ldE:=ld hE
 obtain⟨u,o1,o2⟩:=(hB2.fr0 hE).out
 obtain⟨_,E1,k3,k4,x,hx,rfl,hsx⟩:=BJ2 wE o2 (R:=r.now) (K:=0)
 obtain⟨E2,e5,f5,r5,n5⟩:=Aa3 E1 (bc bF)
 obtain⟨b11,ka⟩:∃b,b=E1.blk.length:=⟨_,rfl⟩
 rw[<- ka]at r5
 obtain⟨F,t1,t2,t3⟩:=AA5 r5 (by simp[bF]) hx
 have hF:Fr S0 A2 F:=((hE.ab k4).ab f5).ar t2 (by have:=hE.len;have:=k4.len;omega)
 have tH:b2<b11:=by have:=hE.len;have:=k4.len;omega
 have wF:=hF.wf w2
 have ldF:=ld hF
 have wn1:IntKind.i64.wrap (r.now+1)=r.now+1:=Ac6 (by omega) (by omega)
 simp only[RT,Q0,Q1,Q2,Q3,Q4,Q5,Q6,Q7,Q8,g1,fa,ldE,o1]
 refine Aa0 k3 ?_
 simp only[RT,Q0,Q1,Q2,Q3,Q4,Q5,Q6,Q7,Q8,Av8]
 simp only[RT,Q0,Q1,Q2,Q3,Q4,Q5,Q6,Q7,Q8,<- ka,<- e5,t1]
 refine AZ2 rfl rfl rfl rfl (fun z e G=>Is z .normal/\e.get 1=.ptr b1 0/\e.get 2=.ptr b2 0/\e.get 11=.ptr b11 0/\Fr S0 F G/\∃c:Bool,e.get 121=.bool c/\(c=true->gI r x)/\(c=false->∀id,¬gI r id)) ?_ ?_
 . cases hs:r.sure r.now 0 with
   |none =>
    simp only[RT,Q0,Q1,Q2,Q3,Q4,Q5,Q6,Q7,Q8,Option.isSome_none]
    exact⟨rfl,g1,g2,.refl _ _,false,rfl,(fun q=>by simp at q),fun _ id q=>by have:=q.1;rw[hs]at this;simp at this⟩
   |some id =>
    obtain rfl:=hsx id hs
    obtain⟨_,G,m1,m2,rfl⟩:=Ar1 (id:=x) (Ab5 X F) (hI.fr0 hF).kv hr.known hx
    have ldG:=ld (hF.ab m2)
    simp only[RT,Q0,Q1,Q2,Q3,Q4,Q5,Q6,Q7,Q8,Option.isSome_some,g1,fa,ldF,ldI t3 hx]
    refine Aa0 m1 ?_
    by_cases c1:x∈r.known
    rotate_left
    . simp only[RT,Q0,Q1,Q2,Q3,Q4,Q5,Q6,Q7,Q8,DF c1]
      exact⟨rfl,g1,g2,m2,false,rfl,(fun q=>by simp at q),fun _ id q=>by have:=q.1;rw[hs]at this;cases this;exact c1 q.2.1⟩
    by_cases c2:r.step>=1
    rotate_left
    . simp only[RT,Q0,Q1,Q2,Q3,Q4,Q5,Q6,Q7,Q8,DT c1,g1,fa,ldG,DF c2]
      exact⟨rfl,g2,m2,false,rfl,(fun q=>by simp at q),fun _ id q=>c2 q.2.2.1⟩
    simp only[RT,Q0,Q1,Q2,Q3,Q4,Q5,Q6,Q7,Q8,DT c1,g1,fa,ldG,DT c2,wn1]
    refine⟨rfl,g2,m2,decide (¬r.valid=r.now+1),rfl,fun q=>⟨hs,c1,c2,of_decide_eq_true q⟩,fun q id z=>of_decide_eq_false q z.2.2.2⟩
 clear g1 g2
 rintro z e G ⟨rfl,g1,g2,g11,hG0,c,g121,hc1,hc2⟩
 have hG:=hF.ab hG0
 have wG:=hG.wf w2
 have ldG:=ld hG
 have tG:=hG0.af t3
 have r2G:=hG.af r2
 have fG:=f12.ab hG
 cases c with
 |true =>
  have hns:=hc1 rfl
  rw[AO7 hns]
  obtain⟨H1,s1,s2,s3⟩:=(hB2.fr0 hG).pc wG (r.now+1)
  have wH1:=s2.wf wG
  have tH1:=s2.aq tG (by omega)
  obtain⟨H2,v1,v2,v3⟩:=s3.pe wH1 hx
  have wH2:=v2.wf wH1
  have tH2:=v2.aq tH1 (by omega)
  have fH2:Fr S0 A H2:=(fG.ar s2 (by omega)).ar v2 (by omega)
  have r2H2:=v2.aq (s2.aq r2G (by omega)) (by omega)
  obtain⟨ov2,kv2,vv2,tv2,av2,oC,hI2⟩:=v3
  have ldH:=AA8 oC hI2
  have v3:Bx X N H2 b1 _:=⟨_,_,_,_,_,oC,hI2⟩
  simp only[RT,Q0,Q1,Q2,Q3,Q4,Q5,Q6,Q7,Q8,g121,g1,fa,ldG,wn1,s1,g11,ldI tH1 hx,v1,ldH]
  by_cases q:r.step=1
  . obtain⟨H3,s4,s5,s6⟩:=v3.pa wH2 (r.now+1)
    have wH3:=s5.wf wH2
    have tH3:=s5.aq tH2 (by omega)
    obtain⟨H4,v4,v5,v6⟩:=s6.pd wH3 hx
    have wH4:=v5.wf wH3
    have tH4:=v5.aq tH3 (by omega)
    obtain⟨u5,z1,z2⟩:=v6.out
    obtain⟨u6,H5,j1,j2,j3⟩:=Bt0 (k:=1) (id:=x) wH4 z2 (by omega) hx (by show r.al.length<=_;omega)
    have j1:EvF TP HH 85 [u5,.int .i64 1,.agg (bc x)] H4 u6 H5:=j1
    obtain⟨H6,y1,y2,y3⟩:=(v6.fr0 j2).set (j2.wf wH4) j3
    obtain⟨u7,H7,x1,x2,x3,x4,x5⟩:=fin ((((fH2.ar s5 (by omega)).ar v5 (by omega)).ab j2).ar y2 (by omega)) (y2.aq (j2.af (v5.aq (s5.aq r2H2 (by omega)) (by omega))) (by omega)) y3
    simp only[RT,Q0,Q1,Q2,Q3,Q4,Q5,Q6,Q7,Q8,DT q,ldH,wn1,s4,g11,ldI tH3 hx,g1,fa,v4,z1,ldI tH4 hx]
    refine Aa0 j1 ?_
    simp only[RT,Q0,Q1,Q2,Q3,Q4,Q5,Q6,Q7,Q8,g1,y1,x1,g2,x2,x3]
    rw[if_pos q]
    exact⟨x4,_,rfl,x5⟩
  . obtain⟨u7,H7,x1,x2,x3,x4,x5⟩:=fin fH2 r2H2 v3
    simp only[RT,Q0,Q1,Q2,Q3,Q4,Q5,Q6,Q7,Q8,DF q,g1,x1,g2,x2,x3]
    rw[if_neg q]
    exact⟨x4,_,rfl,x5⟩
 |false =>
  rw[A03 (hc2 rfl)]
  unfold mA
  simp only[RT,Q0,Q1,Q2,Q3,Q4,Q5,Q6,Q7,Q8,g121]
  have lw:=fun {B:AS} (hf:Fr S0 A2 B)=>(Bb0 (hf.af hb) (hI.fr0 hf).ok).2.2.2.2.2.2.2.2.2.2.2.2
  have kR:bu r.n<=5:=by unfold bu;omega
  refine Ag0 (fun z e H=>Is z .normal/\e.get 1=.ptr b1 0/\e.get 2=.ptr b2 0/\Fr S0 G H/\e.get 154=.bool (decide (r.step=1/\bu r.n<=fq r.n r.v r.now 0 n32))) ?_ ?_
  . simp only[RT,Q0,Q1,Q2,Q3,Q4,Q5,Q6,Q7,Q8,BB7,g1,fa,ldG,Aa1]
    by_cases q:r.step=1
    rotate_left
    . simp only[RT,Q0,Q1,Q2,Q3,Q4,Q5,Q6,Q7,Q8,DF q,Aa1]
      refine⟨Ad0 rfl rfl rfl rfl <| Ad0 rfl rfl rfl rfl <| Ad0 rfl rfl rfl rfl Aa1,Ad0 rfl rfl rfl rfl Aa1,?_⟩
      exact⟨rfl,g1,g2,.refl _ _,by rw[DF (fun z=>q z.1)]⟩
    obtain⟨_,H1,m1,m2,rfl⟩:=Ai3 G
    have hH1:=hG.ab m2
    have ldH1:=ld hH1
    obtain⟨_,H2,p1,p2,rfl⟩:=AT5 (r:=r.now) (k:=0) (Ab5 X H1) (hS.mono (Ac8 hH1)) (by omega) Ad3
    have hH2:=hH1.ab p2
    obtain⟨_,H3,j1,j2,rfl⟩:=Ay7 (x:=rrS r ov kv vv tv av) (n:=r.n) H2 hI.ok hn rfl
    rw[hV.vl.for_ _ _ _ (fun z=>BE8 z.symm)]at p1
    have lwG:=lw hG
    simp only[RT,Q0,Q1,Q2,Q3,Q4,Q5,Q6,Q7,Q8,DT q,g1,fa,ldG,lwG,Aa1]
    refine Aa0 m1 ?_
    simp only[RT,Q0,Q1,Q2,Q3,Q4,Q5,Q6,Q7,Q8]
    refine⟨Ac4 rfl rfl rfl rfl rfl ldH1.2.2.2.2.2.2.2.2.2.1 rfl <| Ac4 rfl rfl rfl rfl rfl ldH1.2.2.2.1 rfl <| Ac4 rfl rfl rfl rfl rfl (by show aa _ _ (e.get 1) _=_;rw[g1];exact lw hH1) rfl Aa1,?_⟩
    refine Aa0 p1 ?_
    simp only[RT,Q0,Q1,Q2,Q3,Q4,Q5,Q6,Q7,Q8]
    refine⟨Ac4 rfl rfl rfl rfl rfl (by show aa _ _ (e.get 1) _=_;rw[g1];exact lw hH2) rfl Aa1,?_⟩
    refine Aa0 j1 ?_
    simp only[RT,Q0,Q1,Q2,Q3,Q4,Q5,Q6,Q7,Q8,Aa1]
    refine⟨rfl,g1,g2,(m2.ab p2).ab j2,?_⟩
    congr 1
    rw[decide_eq_decide]
    constructor
    . intro z;exact⟨q,by omega⟩
    . intro z;have:=z.2;omega
  clear g1 g2 g11 g121
  rintro z e H ⟨rfl,g1,g2,hH0,g154⟩
  have hH:=hG.ab hH0
  have wH:=hH.wf w2
  by_cases qv:r.step=1/\bu r.n<=fq r.n r.v r.now 0 n32
  . rw[if_pos qv]
    rw[DT qv]at g154
    obtain⟨_,H1,m1,m2,rfl⟩:=Ai3 H
    have hH1:=hH.ab m2
    obtain⟨u2,H2,j1,j2,j3⟩:=Bt0 (k:=1) (id:=n32) (hH1.wf w2) (⟨_,_,_,_,_,rfl,hI.fr0 hH1⟩:RRs X N H1 r _) (by omega) Ad3 (by omega)
    have j1:EvF TP HH 85 [.agg (rrS r ov kv vv tv av).cs,.int .i64 1,.agg (bc n32)] H1 u2 H2:=j1
    obtain⟨D2,y1,y2,y3,y4⟩:=finw ((f12.ab hH1).ab j2) (j2.af (hH1.af r2)) j3
    have lwH:=lw hH
    simp only[RT,Q0,Q1,Q2,Q3,Q4,Q5,Q6,Q7,Q8,g154,BB8,g1,lwH,Aa1]
    refine Aa0 m1 ?_
    simp only[RT,Q0,Q1,Q2,Q3,Q4,Q5,Q6,Q7,Q8]
    refine⟨Aa5 (ha:=rfl) rfl (by show aa _ _ (e.get 1) _=_;rw[g1];exact lw hH1) rfl Aa1,?_⟩
    refine Aa0 j1 ?_
    simp only[RT,Q0,Q1,Q2,Q3,Q4,Q5,Q6,Q7,Q8,g2,y1,Aa1,y2]
    exact⟨y3,_,rfl,y4⟩
  rw[if_neg qv]
  rw[DF qv]at g154
  simp only[RT,Q0,Q1,Q2,Q3,Q4,Q5,Q6,Q7,Q8,g154]
  have ldH:=ld hH
  have lwH:=lw hH
  refine Ag0 (fun z e I=>Is z .normal/\e.get 1=.ptr b1 0/\e.get 2=.ptr b2 0/\Fr S0 H I/\e.get 170=.bool (decide (r.step=1/\bu r.n<=allI r.n r.v r.now 0))) ?_ ?_
  . simp only[RT,Q0,Q1,Q2,Q3,Q4,Q5,Q6,Q7,Q8,BB9,g1,fa,ldH,Aa1]
    by_cases q:r.step=1
    rotate_left
    . simp only[RT,Q0,Q1,Q2,Q3,Q4,Q5,Q6,Q7,Q8,DF q,Aa1]
      refine⟨Ad0 rfl rfl rfl rfl Aa1,?_⟩
      exact⟨rfl,g1,g2,.refl _ _,by rw[DF (fun z=>q z.1)]⟩
    obtain⟨_,_,p1,hp1,rfl⟩:=AS8 (r:=r.now) (k:=0) (Ab5 X H) (hS.mono (Ac8 hH)) (by omega)
    rw[hp1]at p1
    obtain⟨_,H3,j1,j2,rfl⟩:=Ay7 (x:=rrS r ov kv vv tv av) (n:=r.n) H hI.ok hn rfl
    rw[hV.vl.kE]at p1
    simp only[RT,Q0,Q1,Q2,Q3,Q4,Q5,Q6,Q7,Q8,DT q,g1,fa,ldH,lwH,Aa1]
    refine Aa0 p1 ?_
    simp only[RT,Q0,Q1,Q2,Q3,Q4,Q5,Q6,Q7,Q8]
    refine⟨Ac4 rfl rfl rfl rfl rfl (by show aa _ _ (e.get 1) _=_;rw[g1];exact lwH) rfl Aa1,?_⟩
    refine Aa0 j1 ?_
    simp only[RT,Q0,Q1,Q2,Q3,Q4,Q5,Q6,Q7,Q8,Aa1]
    refine⟨rfl,g1,g2,j2,?_⟩
    congr 1
    rw[decide_eq_decide]
    constructor
    . intro z;exact⟨q,by omega⟩
    . intro z;have:=z.2;omega
  clear g1 g2 g154
  rintro z e I ⟨rfl,g1,g2,hI0,g170⟩
  have hII:=hH.ab hI0
  have wI:=hII.wf w2
  obtain⟨r1,hr1⟩:∃r1:Rd,r1=if r.step=1/\bu r.n<=allI r.n r.v r.now 0 then r.timer 1 else r:=⟨_,rfl⟩
  have ej:r1.n=r.n/\r1.v=r.v/\r1.now=r.now/\r1.al.length<=r.al.length+1:=by
   rw[hr1];split
   . unfold Rd.timer;split
     . exact⟨rfl,rfl,rfl,by omega⟩
     . exact⟨rfl,rfl,rfl,by simp[Rd.do_]⟩
   . exact⟨rfl,rfl,rfl,by omega⟩
  rw[<- hr1]
  refine Ag0 (fun z e J=>Is z .normal/\e.get 1=.ptr b1 0/\e.get 2=.ptr b2 0/\Fr S0 A J/\J.blk[b2]?=some ⟨rrZ.cs,.var⟩/\Bx X N J b1 r1) ?_ ?_
  . by_cases q:r.step=1/\bu r.n<=allI r.n r.v r.now 0
    . rw[if_pos q]at hr1
      rw[DT q]at g170
      obtain⟨u2,J,j1,j2,j3⟩:=Bh5 (k:=1) wI (⟨_,_,_,_,_,rfl,hI.fr0 hII⟩:RRs X N I r _) (by omega) h0n (by omega) (by omega)
      have j1:EvF TP HH 95 [.agg (rrS r ov kv vv tv av).cs,.int .i64 1] I u2 J:=j1
      obtain⟨J2,y1,y2,y3⟩:=((hB2.fr0 hII).fr0 j2).set (j2.wf wI) j3
      have lwI:=lw hII
      simp only[RT,Q0,Q1,Q2,Q3,Q4,Q5,Q6,Q7,Q8,g170,g1,lwI]
      refine Aa0 j1 ?_
      simp only[RT,Q0,Q1,Q2,Q3,Q4,Q5,Q6,Q7,Q8,g1,y1]
      refine⟨rfl,g2,((f12.ab hII).ab j2).ar y2 (by omega),y2.aq (j2.af (hII.af r2)) (by omega),?_⟩
      rw[hr1];exact y3
    . rw[if_neg q]at hr1
      rw[DF q]at g170
      simp only[RT,Q0,Q1,Q2,Q3,Q4,Q5,Q6,Q7,Q8,g170]
      refine⟨rfl,g1,g2,f12.ab hII,hII.af r2,?_⟩
      rw[hr1];exact hB2.fr0 hII
  clear g1 g2 g170
  rintro z e J ⟨rfl,g1,g2,fJ,r2J,hBJ⟩
  have wJ:=fJ.wf hw
  obtain⟨ov3,kv3,vv3,tv3,av3,hb3,hI3⟩:=hBJ
  have hBJ:Bx X N J b1 r1:=⟨_,_,_,_,_,hb3,hI3⟩
  have ldJ:=AA8 hb3 hI3
  have lwJ:=(Bb0 hb3 hI3.ok).2.2.2.2.2.2.2.2.2.2.2.2
  rw[ej.2.2.1]at ldJ
  obtain⟨l3,hS3,hV3⟩:=hI3.vv
  have hl3:=hV3.len (by rw[ej.1];exact hn7)
  simp only[RT,Q0,Q1,Q2,Q3,Q4,Q5,Q6,Q7,Q8]
  refine Ag0 (fun z e H=>Is z .normal/\e.get 1=.ptr b1 0/\e.get 2=.ptr b2 0/\Fr S0 J H/\e.get 180=.bool (decide (bu r.n<=allI r.n r.v r.now 1))) ?_ ?_
  . obtain⟨_,_,p1,hp1,rfl⟩:=AS8 (r:=r.now) (k:=1) (Ab5 X J) hS3 (by omega)
    rw[hp1]at p1
    obtain⟨_,H3,j1,j2,rfl⟩:=Ay7 (x:=rrS r1 ov3 kv3 vv3 tv3 av3) (n:=r.n) J hI3.ok hn (by show(r1.n:Int)=_;rw[ej.1])
    rw[hV3.vl.kE,ej.1,ej.2.1]at p1
    simp only[RT,Q0,Q1,Q2,Q3,Q4,Q5,Q6,Q7,Q8,BC0,g1,fa,ldJ,lwJ,Aa1]
    refine Aa0 p1 ?_
    simp only[RT,Q0,Q1,Q2,Q3,Q4,Q5,Q6,Q7,Q8]
    refine⟨Aa5 (ha:=rfl) rfl (by show aa _ _ (e.get 1) _=_;rw[g1];exact lwJ) rfl Aa1,?_⟩
    refine Aa0 j1 ?_
    simp only[RT,Q0,Q1,Q2,Q3,Q4,Q5,Q6,Q7,Q8,Aa1]
    refine⟨rfl,g1,g2,j2,?_⟩
    congr 1
    rw[decide_eq_decide];omega
  clear g1 g2
  rintro z e H ⟨rfl,g1,g2,hHJ,g180⟩
  by_cases q:bu r.n<=allI r.n r.v r.now 1
  . rw[DT q]at g180
    obtain⟨u2,J1,j1,j2,j3⟩:=Bh5 (k:=2) (hHJ.wf wJ) (⟨_,_,_,_,_,rfl,hI3.fr0 hHJ⟩:RRs X N H r1 _) (by omega) (by rw[ej.2.2.1];exact h0n) (by rw[ej.2.2.1];omega) (by omega)
    have j1:EvF TP HH 95 [.agg (rrS r1 ov3 kv3 vv3 tv3 av3).cs,.int .i64 2] H u2 J1:=j1
    have f1:=(fJ.ab hHJ).ab j2
    obtain⟨J2,y1,y2,y3⟩:=((hBJ.fr0 hHJ).fr0 j2).set (f1.wf hw) j3
    obtain⟨u7,H7,x1,x2,x3,x4,x5⟩:=fin (f1.ar y2 (by omega)) (y2.aq (j2.af (hHJ.af r2J)) (by omega)) y3
    have lwH:=(Bb0 (hHJ.af hb3) hI3.ok).2.2.2.2.2.2.2.2.2.2.2.2
    simp only[RT,Q0,Q1,Q2,Q3,Q4,Q5,Q6,Q7,Q8,g180,g1,lwH]
    refine Aa0 j1 ?_
    simp only[RT,Q0,Q1,Q2,Q3,Q4,Q5,Q6,Q7,Q8,g1,y1,x1,g2,x2,x3]
    rw[if_pos q]
    exact⟨x4,_,rfl,x5⟩
  . rw[DF q]at g180
    obtain⟨u7,H7,x1,x2,x3,x4,x5⟩:=fin (fJ.ab hHJ) (hHJ.af r2J) (hBJ.fr0 hHJ)
    simp only[RT,Q0,Q1,Q2,Q3,Q4,Q5,Q6,Q7,Q8,g180,g1,x1,g2,x2,x3]
    rw[if_neg q]
    exact⟨x4,_,rfl,x5⟩
end
end Go.Sv.Tryz
namespace Go.Sv.Tryz
open Go Go.Proofs
section
variable {A A' B:AS} {rp cp:Nat} {r r':Rd} {vb:Nat->Nat} {fk fa fk' fa':Option Nat} {kv av:V}
def aY(A:AS)(rp cp:Nat)(vb:Nat->Nat)(fk fa:Option Nat)(A':AS)(r':Rd):Prop:=∃fk',Fr (rdS A rp vb fk fa) A A'/\Gr A fk fk'/\a4 A' rp r' cp vb fk' fa
theorem aY.toR(h:aY A rp cp vb fk fa B r):aJ A rp cp vb fk fa B r:=by
 obtain⟨fk',h1,h2,h3⟩:=h
 exact⟨fk',fa,h1,h2,.inl rfl,h3⟩
theorem aY.da(h:a4 A rp r cp vb fk fa):aY A rp cp vb fk fa A r:=⟨fk,.refl _ _,.inl rfl,h⟩
theorem aY.of0(h:a4 A rp r cp vb fk fa)(hf:Fr S0 A B):aY A rp cp vb fk fa B r:=⟨fk,hf.mono fun _ q=>q.elim,.inl rfl,h.fr0 hf⟩
theorem aY.upd(hf:Fr (·=.row rp) A B)(h:a4 B rp r' cp vb fk fa):aY A rp cp vb fk fa B r':=⟨fk,hf.mono fun _ q=>.inl q,.inl rfl,h⟩
theorem aY.next(hw:WF A)(hf:Fr (rdS A rp vb fk fa) A B)(g1:Gr A fk fk')(g2:Gr A fa fa)(k:aY B rp cp vb fk' fa A' r'):aY A rp cp vb fk fa A' r':=by
 obtain⟨fk2,k1,k2,k4⟩:=k
 exact⟨fk2,hf.trans k1 fun x q=>AO2 hf g1 g2 hw (hf.wf hw) q,g1.trans k2 hf.len,k4⟩
theorem aY.br(hw:WF A)(hf:Fr S0 A B)(k:aY B rp cp vb fk fa A' r'):aY A rp cp vb fk fa A' r':=k.next hw (hf.mono fun _ q=>q.elim) (.inl rfl) (.inl rfl)
theorem Bt4{x:Bts}(h:x.length=32):bsl TP 32 1 (some [(0,.agg (bc x))])=some (.aB (bc x) 1 32):=Av2 Tryz.underlying32 Ap3 Cg2 rfl (by rw[Aa7,h]) (by decide)
set_option maxRecDepth 10000 in
set_option maxHeartbeats 8000000 in
theorem Aw3(hw:WF A)(h:a4 A rp r cp vb fk fa)(hr:Rng r){id:Bts}(hid:id.length=32):∃w A',EvF TP HH 54 [.ptr rp 0,.agg (bc id)] A w A'/\aY A rp cp vb fk fa A' (r.cK id):=by
 refine Aa4 rfl Tryz.func54 (by unfold Tryz.f54;rfl) Tryz.ntmps54 (by unfold Tryz.f54;rfl) (by simp) ?_
 simp only[RT,Q0,Q1,Q2,Q3,Q4,Q5,Q6,Q7,Q8]
 obtain⟨A1,e1,f1,r1,n1⟩:=Aa3 A (bc id)
 rw[<- e1]
 have h1:=h.fr0 f1
 have w1:=f1.wf hw
 have hfa:=AB9 rp
 unfold Rd.cK
 by_cases q1:id=z32
 . simp only[RT,Q0,Q1,Q2,Q3,Q4,Q5,Q6,Q7,Q8,Ai8 r1 hid,Ad8,eqZ hid Aa9,DT q1]
   rw[if_neg (fun z=>z.1 q1)]
   exact .of0 h f1
 obtain⟨_,A2,k1,k2,rfl⟩:=Aw1 w1 h1 hid (by have:=hr.known;omega)
 have f2:=f1.ab k2
 have h2:=h.fr0 f2
 have w2:=f2.wf hw
 simp only[RT,Q0,Q1,Q2,Q3,Q4,Q5,Q6,Q7,Q8,Ai8 r1 hid,Ad8,eqZ hid Aa9,DF q1]
 refine Aa0 k1 ?_
 by_cases q2:id∈r.known
 . simp only[RT,Q0,Q1,Q2,Q3,Q4,Q5,Q6,Q7,Q8,DT q2]
   rw[if_neg (fun z=>z.2.1 q2)]
   exact .of0 h f2
 obtain⟨kv,av,b1,b2,b3⟩:=h2.box
 have ld:=Ap1 b1 h2.ok
 have hln:=fun B=>b2.len (P:=TP) Tryz.underlying32 B
 simp only[RT,Q0,Q1,Q2,Q3,Q4,Q5,Q6,Q7,Q8,DF q2,hfa,ld,hln]
 by_cases q3:r.known.length<32
 rotate_left
 . simp only[RT,Q0,Q1,Q2,Q3,Q4,Q5,Q6,Q7,Q8,DF (show ¬((r.known.length:Int)<32) by omega)]
   rw[if_neg (fun z=>q3 z.2.2)]
   exact .of0 h f2
 simp only[RT,Q0,Q1,Q2,Q3,Q4,Q5,Q6,Q7,Q8,DT (show((r.known.length:Int)<32) by omega)]
 rw[if_pos ⟨q1,q2,q3⟩]
 obtain⟨v4,A3,fk',p1,p2,p3,p4⟩:=b2.push (P:=TP) (t:=32) (tx:=32) (n:=32) rfl Cg5 Tryz.underlying32 w2 (y:=id) (cs':=bc id) ⟨rfl,hid⟩ (by omega) (by omega)
 have b4:=p3.row _ _ b1 (Ab0 b1)
 have k4:Lst dp Hp.emp A3 av r.al fa:=b3.fr p3 (by
  cases fk with
  |none=>exact fun _ q=>q.elim
  |some g=>exact Off.fam fun q=>h.ne1 g rfl q)
 obtain⟨A4,s1,s2,s3⟩:=Cx9 b4 h1.ok p2.one (r.known++[id])
 rw[BU6,Aa2 (by rfl)]
 simp only[RT,Q0,Q1,Q2,Q3,Q4,Q5,Q6,Q7,Q8,hfa,ld,Ai8 (k2.af r1) hid,Bt4 hid,p1,s1]
 have hc3:bq A4 cp r.n r.v vb:=by
  refine(h2.cnt.fr p3 (Ab0 h2.cnt.box) fun j hj=>⟨?_,?_⟩).fr s2 (fun q=>h.rc (by injection q with q;exact q.symm)) fun j hj=>⟨fun q=>h2.cnt.ju hj b1 (by injection q),fun q=>by cases q⟩
  . intro q
    cases fk with
    |none=>exact q.elim
    |some g =>
     obtain⟨k,base,z1,z2⟩:=q
     rw[h2.cnt.row j hj]at z1;cases z1;cases z2
     exact(h.ne2 j hj).1 rfl
  . intro q
    cases fk with
    |none=>exact q.elim
    |some g=>exact(h.ne2 j hj).1 (by rw[show vb j=g from q])
 refine aY.br hw f2 ⟨fk',(p3.mono (S':=rdS A2 rp vb fk fa) fun z q=>.inr (.inr (.inl q))).trans s2 fun z q=>.inl (.inl q),p4,?_⟩
 refine { box:=⟨v4,av,s3,p2.fr s2 (.box b4),k4.fr s2 (.box b4)⟩,cnt:=hc3,ok:={ h.ok with },rc:=h.rc,ne1:=fun f q z=>?_,ne2:=fun j hj=>⟨fun q=>?_,(h.ne2 j hj).2⟩ }
 . rcases p4.or q with y |y
   . exact h.ne1 f y z
   . have:=b3.bO f z;omega
 . rcases p4.or q with y |y
   . exact(h.ne2 j hj).1 y
   . have:=h2.cnt.lt hj;omega
theorem Rng.gh(h:Rng r)(id:Bts):Rng (r.cK id)/\(r.cK id).al=r.al:=by
 unfold Rd.cK;split
 . exact⟨{ h with known:=by show(r.known++[id]).length<=_;rename_i q;rw[List.length_append];have:=q.2.2;simp;omega },rfl⟩
 . exact⟨h,rfl⟩
set_option maxRecDepth 10000 in
theorem Bi2(hw:WF A)(h:a4 A rp r cp vb fk fa)(hr:Rng r)(hl:r.al.length<=1000000){id:Bts}(hid:id.length=32):∃w A',EvF TP HH 64 [.ptr rp 0,.agg (bc id)] A w A'/\fx A rp cp vb fk fa A' (r.fX id) w:=by
 refine Aa4 rfl Tryz.func64 (by unfold Tryz.f64;rfl) Tryz.ntmps64 (by unfold Tryz.f64;rfl) (by simp) ?_
 simp only[RT,Q0,Q1,Q2,Q3,Q4,Q5,Q6,Q7,Q8]
 obtain⟨A1,e1,f1,r1,n1⟩:=Aa3 A (bc id)
 rw[<- e1]
 simp only[RT,Q0,Q1,Q2,Q3,Q4,Q5,Q6,Q7,Q8,Ai8 r1 hid]
 obtain⟨w,A2,k1,k2⟩:=Aw3 (f1.wf hw) (h.fr0 f1) hr hid
 refine Aa0 k1 ?_
 obtain⟨hr2,ha2⟩:=hr.gh id
 obtain⟨fk2,fa2,j1,j2,j3,j4⟩:=k2.toR
 obtain⟨w,A3,m1,m2⟩:=Af6 (j1.wf (f1.wf hw)) j4 hr2 (by rw[ha2];omega)
 simp only[RT,Q0,Q1,Q2,Q3,Q4,Q5,Q6,Q7,Q8]
 refine Aa0 m1 ?_
 simp only[RT,Q0,Q1,Q2,Q3,Q4,Q5,Q6,Q7,Q8]
 exact fx.br hw f1 (m2.next (f1.wf hw) j1 j2 j3)
set_option maxRecDepth 10000 in
theorem Bb1(h:a4 A rp r cp vb fk fa){id:Bts}(hw:WF A)(hid:id.length=32):∃w A',EvF TP HH 60 [.ptr rp 0,.agg (bc id)] A w A'/\aY A rp cp vb fk fa A' { r with fresh:=id }:=by
 refine Aa4 rfl Tryz.func60 (by unfold Tryz.f60;rfl) Tryz.ntmps60 (by unfold Tryz.f60;rfl) (by simp) ?_
 simp only[RT,Q0,Q1,Q2,Q3,Q4,Q5,Q6,Q7,Q8]
 obtain⟨A1,e1,f1,r1,n1⟩:=Aa3 A (bc id)
 rw[<- e1]
 obtain⟨kv,av,b1,b2,b3⟩:=(h.fr0 f1).box
 obtain⟨A2,s1,s2,s3⟩:=(BX6 b1 h.ok hid).2.2
 simp only[RT,Q0,Q1,Q2,Q3,Q4,Q5,Q6,Q7,Q8,Ai8 r1 hid,AB9 rp,s1]
 exact aY.br hw f1 (.upd s2 ((h.fr0 f1).upd b1 b2 b3 s2 s3 rfl rfl rfl rfl { h.ok with fresh:=hid }))
set_option maxRecDepth 10000 in
theorem Bb2(h:a4 A rp r cp vb fk fa):∃w A',EvF TP HH 47 [.ptr rp 0] A w A'/\A'=A/\w=.tup [.int .i64 r.now,.int .i64 r.step]:=by
 refine Aa4 rfl Tryz.func47 (by unfold Tryz.f47;rfl) Tryz.ntmps47 (by unfold Tryz.f47;rfl) (by simp) ?_
 obtain⟨kv,av,b1,b2,b3⟩:=h.box
 have ld:=Ap1 b1 h.ok
 simp only[RT,Q0,Q1,Q2,Q3,Q4,Q5,Q6,Q7,Q8]
 rw[BU0,Aa2 (by rfl)]
 simp only[RT,Q0,Q1,Q2,Q3,Q4,Q5,Q6,Q7,Q8,AB9 rp,ld]
set_option maxRecDepth 10000 in
set_option maxHeartbeats 8000000 in
theorem AE9(hw:WF A)(h:a4 A rp r cp vb fk fa)(hr:Rng r)(hl:r.al.length<=100000){id:Bts}(hid:id.length=32):∃w A',EvF TP HH 29 [.ptr rp 0,.agg (bc id)] A w A'/\fx A rp cp vb fk fa A' (r.bA id) w:=by
 refine Aa4 rfl Tryz.func29 (by unfold Tryz.f29;rfl) Tryz.ntmps29 (by unfold Tryz.f29;rfl) (by simp) ?_
 simp only[RT,Q0,Q1,Q2,Q3,Q4,Q5,Q6,Q7,Q8]
 obtain⟨A1,e1,f1,r1,n1⟩:=Aa3 A (bc id)
 rw[<- e1]
 have h1:=h.fr0 f1
 have w1:=f1.wf hw
 have hfa:=AB9 rp
 obtain⟨kv,av,b1,b2,b3⟩:=h1.box
 have ld:=Ap1 b1 h.ok
 unfold Rd.bA
 by_cases q0:r.now>=0
 . rw[if_pos q0]
   simp only[RT,Q0,Q1,Q2,Q3,Q4,Q5,Q6,Q7,Q8,hfa,ld,DT q0]
   obtain⟨w,A3,m1,m2⟩:=Af6 w1 h1 hr (by omega)
   refine Aa0 m1 ?_
   simp only[RT,Q0,Q1,Q2,Q3,Q4,Q5,Q6,Q7,Q8]
   exact fx.br hw f1 m2
 rw[if_neg q0]
 have key:∀{B:AS} {r2:Rd},a4 B rp r2 cp vb fk fa->WF B->Rng r2->r2.al.length<=100000->∃w1 C w2 D,EvF TP HH 68 [.ptr rp 0,.int .i64 0] B w1 C/\EvF TP HH 67 [.ptr rp 0] C w2 D/\fx B rp cp vb fk fa D ((r2.begin 0).settle) w2:=by
  intro B r2 hB wB hr2 hl2
  obtain⟨w,C,k1,fk2,fa2,j1,j2,j3,j4⟩:=Ay8 wB hB hr2 (R:=0) (by omega) (by omega) (by omega)
  obtain⟨y1,y2⟩:=hr2.begin (R:=0) (by omega)
  obtain⟨w',D,m1,m2⟩:=Af6 (j1.wf wB) j4 y1 (by omega)
  exact⟨w,C,w',D,k1,m1,m2.next wB j1 j2 j3⟩
 simp only[RT,Q0,Q1,Q2,Q3,Q4,Q5,Q6,Q7,Q8,hfa,ld,DF q0,Ai8 r1 hid,Ad8,eqZ hid Aa9]
 by_cases q1:id=z32
 . obtain⟨_,C,w2,D,k1,k2,k3⟩:=key h1 w1 hr hl
   simp only[RT,Q0,Q1,Q2,Q3,Q4,Q5,Q6,Q7,Q8,DT q1]
   refine Aa0 k1 ?_
   simp only[RT,Q0,Q1,Q2,Q3,Q4,Q5,Q6,Q7,Q8]
   refine Aa0 k2 ?_
   simp only[RT,Q0,Q1,Q2,Q3,Q4,Q5,Q6,Q7,Q8]
   rw[if_pos q1]
   exact fx.br hw f1 k3
 . obtain⟨A2,s1,s2,s3⟩:=(BX6 b1 h.ok hid).2.2
   have h2:a4 A2 rp { r with fresh:=id } cp vb fk fa:=h1.upd b1 b2 b3 s2 s3 rfl rfl rfl rfl { h.ok with fresh:=hid }
   obtain⟨_,C,w2,D,k1,k2,k3⟩:=key h2 (s2.wf w1) { hr with } hl
   simp only[RT,Q0,Q1,Q2,Q3,Q4,Q5,Q6,Q7,Q8,DF q1,Ai8 r1 hid,hfa,s1]
   refine Aa0 k1 ?_
   simp only[RT,Q0,Q1,Q2,Q3,Q4,Q5,Q6,Q7,Q8]
   refine Aa0 k2 ?_
   simp only[RT,Q0,Q1,Q2,Q3,Q4,Q5,Q6,Q7,Q8]
   rw[if_neg q1]
   exact fx.br hw f1 (k3.next w1 (s2.mono fun _ q=>.inl q) (.inl rfl) (.inl rfl))
end
end Go.Sv.Tryz
namespace Go.Sv.Tryz
open Go Go.Proofs
section
variable {X:Nat->Prop} {N:Nat} {A B:AS} {r r':Rd} {ov kv vv tv av w:V} {b:Nat}
def ke(X:Nat->Prop)(N:Nat)(A:AS)(x:Rd×List Act)(u:V):Prop:=∃u1 v fo,u=.tup [u1,v]/\RRs (xo X fo) N A x.1 u1/\Lst dp Hp.emp A v x.2 fo/\∀f,fo=some f->¬X f/\N<=f
theorem Bx.lt{w:V}(h:Bx X N A b r):b<A.blk.length:=by obtain⟨cs,q⟩:=h.box;exact Ab3 q
set_option maxRecDepth 10000 in
set_option maxHeartbeats 16000000 in
theorem Bi3(hw:WF A)(h:RRs X N A r w)(hr:Rng r)(hl:r.al.length<=80000):∃u A',EvF TP HH 71 [w] A u A'/\Fr S0 A A'/\ke X N A' r.settle u:=by
 refine Aa4 rfl Tryz.func71 (by unfold Tryz.f71;rfl) Tryz.ntmps71 (by unfold Tryz.f71;rfl) (by simp) ?_
 obtain⟨cs,rfl,A1,e1,f1,hB1⟩:=h.new
 obtain⟨b1,hb1⟩:∃b,b=A.blk.length:=⟨_,rfl⟩
 rw[<- hb1]at hB1
 obtain⟨A2,e2,f2,r2,n2⟩:=Aa3 A1 rrZ.cs
 obtain⟨b2,hb2⟩:∃b,b=A1.blk.length:=⟨_,rfl⟩
 rw[<- hb2]at r2
 have hlt:b1<b2:=by
  obtain⟨cs,q⟩:=hB1.box
  have:=Ab3 q
  omega
 have f12:Fr S0 A A2:=f1.ab f2
 have fa:=AJ1 b1
 simp only[RT,Q0,Q1,Q2,Q3,Q4,Q5,Q6,Q7,Q8,<- e1,<- hb1]
 simp only[RT,Q0,Q1,Q2,Q3,Q4,Q5,Q6,Q7,Q8,AI9,<- hb2,<- e2]
 refine Aa6 (fun z e B=>e.get 1=.ptr b1 0/\e.get 2=.ptr b2 0/\Fr S0 A B/\B.blk[b2]?=some ⟨rrZ.cs,.var⟩/\∃(i:Nat) (ri:Rd) (c:Bool),z=1000-i/\i<=1000/\e.get 5=.int .i64 i/\e.get 4=.bool c/\Bx X N B b1 ri/\Rng ri/\ri.al.length<=r.al.length+2*i/\Rd.rules 1000 r=(if c=true then Rd.rules (1000-i) ri else ri))
  (fun z e B=>Is z (.exit 0)/\e.get 1=.ptr b1 0/\e.get 2=.ptr b2 0/\Fr S0 A B/\B.blk[b2]?=some ⟨rrZ.cs,.var⟩/\Bx X N B b1 (Rd.rules 1000 r))
  ⟨_,rfl,rfl,f12,r2,0,r,true,rfl,by omega,rfl,rfl,hB1.fr0 f2,hr,by omega,rfl⟩ ?_ ?_
 . rintro z e B ⟨g1,g2,hB,hz2,i,ri,c,rfl,hi,g5,g4,hBx,hri,hla,hru⟩
   simp only[RT,Q0,Q1,Q2,Q3,Q4,Q5,Q6,Q7,Q8,g5]
   by_cases q:i<1000
   rotate_left
   . have:i=1000:=by omega
     subst this
     simp only[RT,Q0,Q1,Q2,Q3,Q4,Q5,Q6,Q7,Q8,DF (show ¬(((1000:Nat):Int)<1000) by omega)]
     have hru:Rd.rules 1000 r=ri:=by rw[hru];split<;>rfl
     rw[hru]
     exact⟨rfl,g1,g2,hB,hz2,hBx⟩
   cases c with
   |false =>
    simp only[RT,Q0,Q1,Q2,Q3,Q4,Q5,Q6,Q7,Q8,DT (show(i:Int)<1000 by omega),g4]
    have hru:Rd.rules 1000 r=ri:=by rw[hru];rfl
    rw[hru]
    exact⟨rfl,g1,g2,hB,hz2,hBx⟩
   |true =>
   rw[if_pos rfl]at hru
   have wB:=hB.wf hw
   obtain⟨u,o1,o2⟩:=hBx.out
   obtain⟨_,C,k1,k2,u1,rfl,k3⟩:=Ci9 wB o2 hri (by omega)
   obtain⟨D,s1,s2,s3⟩:=(hBx.fr0 k2).set (k2.wf wB) k3
   simp only[RT,Q0,Q1,Q2,Q3,Q4,Q5,Q6,Q7,Q8,DT (show(i:Int)<1000 by omega),g4,g1,o1]
   refine Aa0 k1 ?_
   obtain⟨d,hd⟩:∃d,1000-i=d+1:=⟨999-i,by omega⟩
   have e1:Rd.rules (1000-i) ri=if ri.bP.2=true then Rd.rules (1000-(i+1)) ri.bP.1 else ri.bP.1:=by
    rw[hd,show 1000-(i+1)=d by omega];rfl
   rw[e1]at hru
   obtain⟨y1,y2⟩:=hri.bP
   have hwi:IntKind.i64.wrap ((i:Int)+1)=((i+1:Nat):Int):=by rw[Ac2 (by omega)]
   simp only[RT,Q0,Q1,Q2,Q3,Q4,Q5,Q6,Q7,Q8,g1,s1,g5,hwi]
   refine⟨1000-(i+1),by omega,g2,?_⟩
   refine⟨(hB.ab k2).ar s2 (by omega),s2.aq (k2.af hz2) (by omega),i+1,ri.bP.1,ri.bP.2,rfl,by omega,rfl,rfl,s3,y1,by omega,hru⟩
 . rintro z e B hz ⟨rfl,g1,g2,hB,hz2,hBx⟩
   have wB:=hB.wf hw
   obtain⟨av,C,fo,ld,s1,s2,s3,s4,s5⟩:=hBx.pA wB
   obtain⟨u,D,y1,y2,y3,y4,y5⟩:=s3.fin (s2.wf wB) (s2.aq hz2 (by omega))
   have wC:=s2.wf wB
   obtain⟨csb,hcb⟩:=hBx.box
   simp only[RT,Q0,Q1,Q2,Q3,Q4,Q5,Q6,Q7,Q8,g1,fa,ld,s1,y1,g2,y2,y3]
   exact⟨(hB.ar s2 (by omega)).ar y4 (by omega),u,av,fo,rfl,y5,s4.fr y4 (.box (s2.aq hz2 (by omega))),s5⟩
theorem A64:au TP 36 []=some (.agg rrZ.cs):=by kernel_rfl
theorem B21(a b c:Int):au TP 36 [(0,.int .i64 a),(1,.int .i64 b),(2,.int .i64 c),(3,.int .i64 (-1)),(4,.int .i64 3)]=some (.agg (⟨a,b,c,-1,3,0,0,z32,z32,z32,.ah,.ah,.ah,.ah,.ah⟩:RrV).cs):=by kernel_rfl
theorem rr0{n me:Nat}{h:Int}(hX:∀f,X f->f<A.blk.length)(hN:N<=A.blk.length)(hn:okN n):RRs X N A (rd0 n me h) (.agg (⟨n,me,h,-1,3,0,0,z32,z32,z32,.ah,.ah,.ah,.ah,.ah⟩:RrV).cs):=
 ⟨.ah,.ah,.ah,.ah,.ah,rfl,hX,hN,rfl,rfl,rfl,hn,none,.nil,(fun f q=>by cases q),(fun f q=>by cases q),(fun _=>rfl),⟨[],.inl ⟨rfl,rfl⟩,Cz0⟩,.inl ⟨rfl,rfl⟩,⟨[],.inl ⟨rfl,rfl⟩,Cz1 n⟩,⟨[],.inl ⟨rfl,rfl⟩,Cz2⟩⟩
theorem B22:bsl TP 32 0 (some [])=some (.aB [] 0 32):=by kernel_rfl
set_option maxRecDepth 10000 in
set_option maxHeartbeats 16000000 in
theorem AU3{id:Bts}(hw:WF A)(h:RRs X N A r w)(hr:Rng r)(hid:id.length=32):∃u A',EvF TP HH 58 [w,.agg (bc id)] A u A'/\Fr S0 A A'/\RRs X N A' (r.cK id) u:=by
 refine Aa4 rfl Tryz.func58 (by unfold Tryz.f58;rfl) Tryz.ntmps58 (by unfold Tryz.f58;rfl) (by simp) ?_
 obtain⟨cs,rfl,A1,e1,f1,hB1⟩:=h.new
 obtain⟨b2,hb2⟩:∃b,b=A.blk.length:=⟨_,rfl⟩
 rw[<- hb2]at hB1
 obtain⟨A2,e2,f2,r3,n2⟩:=Aa3 A1 (bc id)
 obtain⟨b3,hb3⟩:∃b,b=A1.blk.length:=⟨_,rfl⟩
 rw[<- hb3]at r3
 obtain⟨A3,e3,f3,r4,n3⟩:=Aa3 A2 rrZ.cs
 obtain⟨b4,hb4⟩:∃b,b=A2.blk.length:=⟨_,rfl⟩
 rw[<- hb4]at r4
 have hlt:b2<b3/\b3<b4:=by
  have:=hB1.lt (w:=.ah)
  have:=Ab3 r3
  omega
 have f13:Fr S0 A A3:=(f1.ab f2).ab f3
 have w3:=f13.wf hw
 have hB3:=(hB1.fr0 f2).fr0 f3
 have r3':=f3.af r3
 have fa:=AJ1 b2
 obtain⟨ov,kv,vv,tv,av,hb,hI⟩:=hB3
 have hB3:Bx X N A3 b2 r:=⟨_,_,_,_,_,hb,hI⟩
 have fin:∀{C:AS} {r':Rd},Fr S0 A C->C.blk[b4]?=some ⟨rrZ.cs,.var⟩->Bx X N C b2 r'->∃w D,aa TP 36 (.ptr b2 0) C=some w/\ag TP 36 (.ptr b4 0) w C=some D/\aa TP 36 (.ptr b4 0) D=some w/\Fr S0 A D/\RRs X N D r' w:=fun {C r'} hf hz hx=>by
  obtain⟨w,D,y1,y2,y3,y4,y5⟩:=hx.fin (hf.wf hw) hz
  exact⟨w,D,y1,y2,y3,hf.ar y4 (by omega),y5⟩
 unfold Rd.cK
 simp only[RT,Q0,Q1,Q2,Q3,Q4,Q5,Q6,Q7,Q8,<- e1,<- hb2]
 simp only[RT,Q0,Q1,Q2,Q3,Q4,Q5,Q6,Q7,Q8,<- hb3,<- e2]
 simp only[RT,Q0,Q1,Q2,Q3,Q4,Q5,Q6,Q7,Q8,AI9,<- hb4,<- e3,ldI r3' hid,Ad8,eqZ hid Aa9]
 by_cases q1:id=z32
 . obtain⟨u,D,y1,y2,y3,y4,y5⟩:=fin f13 r4 hB3
   simp only[RT,Q0,Q1,Q2,Q3,Q4,Q5,Q6,Q7,Q8,DT q1,Bool.not_true,y1,y2,y3]
   rw[if_neg (fun z=>z.1 q1)]
   exact⟨y4,y5⟩
 obtain⟨_,A4,k1,k2,rfl⟩:=Ar1 (id:=id) (Ab5 X A3) hI.kv hr.known hid
 have f14:=f13.ab k2
 have w4:=f14.wf hw
 have ld3:=AA8 hb hI
 have hB4:=hB3.fr0 k2
 have oD:=k2.af hb
 have hI4:=hI.fr0 k2
 have ld4:=AA8 oD hI4
 have r44:=k2.af r4
 have r34:=k2.af r3'
 simp only[RT,Q0,Q1,Q2,Q3,Q4,Q5,Q6,Q7,Q8,DF q1,Bool.not_false,fa,ld3,ldI r3' hid]
 refine Aa0 k1 ?_
 by_cases q2:id∈r.known
 . obtain⟨u,D,y1,y2,y3,y4,y5⟩:=fin f14 r44 hB4
   simp only[RT,Q0,Q1,Q2,Q3,Q4,Q5,Q6,Q7,Q8,DT q2,Af4,y1,y2,y3]
   rw[if_neg (fun z=>z.2.1 q2)]
   exact⟨y4,y5⟩
 have hln:=fun B=>hI.kv.len (P:=TP) Tryz.underlying32 B
 by_cases q3:r.known.length<32
 rotate_left
 . obtain⟨u,D,y1,y2,y3,y4,y5⟩:=fin f14 r44 hB4
   simp only[RT,Q0,Q1,Q2,Q3,Q4,Q5,Q6,Q7,Q8,DF q2,Af4,fa,ld4,hln,DF (show ¬((r.known.length:Int)<32) by omega),y1,y2,y3]
   rw[if_neg (fun z=>q3 z.2.2)]
   exact⟨y4,y5⟩
 obtain⟨v1,B1,v2,B2,p1,p2,p3,p4,hS2⟩:=Aq9 (P:=TP) (t:=32) (e:=30) (n:=32) (y:=id) (cs':=bc id) rfl (fun _ _ _ _ h=>h) Cg5 w4 (Ab5 X A4) hI4.kv ⟨rfl,hid⟩ (by omega) (by omega)
 have lP:=(AA8 ((Fr.aF A4 []).af oD) (hI4.fr0 (Fr.aF A4 []))).2.2.2.2.2.2.2.2.1
 have wB2:=p4.wf w4
 obtain⟨C,s1,s2,s3⟩:=hB4.sH w4 p4 hS2
 obtain⟨u,D,y1,y2,y3,y4,y5⟩:=fin ((f14.ab p4).ar s2 (by omega)) (s2.aq (p4.af r44) (by omega)) s3
 simp only[RT,Q0,Q1,Q2,Q3,Q4,Q5,Q6,Q7,Q8,DF q2,Af4,fa,ld4,hln,DT (show((r.known.length:Int)<32) by omega),B22,lP,p1,ldI (p3.af r34) hid,Bt4 hid,p2,s1,y1,y2,y3]
 rw[if_pos ⟨q1,q2,q3⟩]
 exact⟨y4,y5⟩
end
end Go.Sv.Tryz
namespace Go.Sv.Tryz
open Go Go.Proofs
section
variable {X:Nat->Prop} {N:Nat} {A B C:AS} {r r':Rd} {ov kv vv tv av w:V} {b:Nat}
theorem Bx.settle{b4:Nat}(hw:WF A)(hf:Fr S0 A C)(h:Bx X N C b r)(hz:C.blk[b4]?=some ⟨rrZ.cs,.var⟩)(h4:A.blk.length<=b4)(hr:Rng r)(hl:r.al.length<=80000):
 ∃u u1 v D E,aa TP 36 (.ptr b 0) C=some u/\EvF TP HH 71 [u] C (.tup [u1,v]) D/\ag TP 36 (.ptr b4 0) u1 D=some E/\aa TP 36 (.ptr b4 0) E=some u1/\Fr S0 A E/\ke X N E r.settle (.tup [u1,v]):=by
 have wC:=hf.wf hw
 obtain⟨u,o1,o2⟩:=h.out
 obtain⟨_,D,k1,k2,u1,v,fo,rfl,k3,k4,k5⟩:=Bi3 wC o2 hr hl
 have wD:=k2.wf wC
 have hz':=k2.af hz
 obtain⟨E,y1,y2,y3,y4⟩:=k3.fin wD hz'
 exact⟨u,u1,v,D,E,o1,k1,y1,y2,(hf.ab k2).ar y3 h4,u1,v,fo,rfl,y4,k4.fr y3 (.box hz'),k5⟩
set_option maxRecDepth 10000 in
set_option maxHeartbeats 16000000 in
theorem Bi4{id:Bts}(hw:WF A)(h:RRs X N A r w)(hr:Rng r)(hid:id.length=32)(hl:r.al.length<=1000):∃u A',EvF TP HH 32 [w,.agg (bc id)] A u A'/\Fr S0 A A'/\ke X N A' (r.bA id) u:=by
 refine Aa4 rfl Tryz.func32 (by unfold Tryz.f32;rfl) Tryz.ntmps32 (by unfold Tryz.f32;rfl) (by simp) ?_
 obtain⟨cs,rfl,A1,e1,f1,hB1⟩:=h.new
 obtain⟨b2,hb2⟩:∃b,b=A.blk.length:=⟨_,rfl⟩
 rw[<- hb2]at hB1
 obtain⟨A2,e2,f2,r3,n2⟩:=Aa3 A1 (bc id)
 obtain⟨b3,hb3⟩:∃b,b=A1.blk.length:=⟨_,rfl⟩
 rw[<- hb3]at r3
 obtain⟨A3,e3,f3,r4,n3⟩:=Aa3 A2 rrZ.cs
 obtain⟨b4,hb4⟩:∃b,b=A2.blk.length:=⟨_,rfl⟩
 rw[<- hb4]at r4
 have hlt:b2<b3/\b3<b4:=by
  have:=hB1.lt (w:=.ah)
  have:=Ab3 r3
  omega
 have f13:Fr S0 A A3:=(f1.ab f2).ab f3
 have w3:=f13.wf hw
 have hB3:=(hB1.fr0 f2).fr0 f3
 have r3':=f3.af r3
 have fa:=AJ1 b2
 obtain⟨ov,kv,vv,tv,av,hb,hI⟩:=hB3
 have hB3:Bx X N A3 b2 r:=⟨_,_,_,_,_,hb,hI⟩
 have ld:=AA8 hb hI
 unfold Rd.bA
 simp only[RT,Q0,Q1,Q2,Q3,Q4,Q5,Q6,Q7,Q8,<- e1,<- hb2]
 simp only[RT,Q0,Q1,Q2,Q3,Q4,Q5,Q6,Q7,Q8,<- hb3,<- e2]
 simp only[RT,Q0,Q1,Q2,Q3,Q4,Q5,Q6,Q7,Q8,AI9,<- hb4,<- e3,fa,ld]
 by_cases q0:r.now>=0
 . rw[if_pos q0]
   obtain⟨u,u1,v,D,E,y1,y2,y3,y4,y5,y6⟩:=hB3.settle hw f13 r4 (by omega) hr (by omega)
   simp only[RT,Q0,Q1,Q2,Q3,Q4,Q5,Q6,Q7,Q8,DT q0,y1]
   refine Aa0 y2 ?_
   simp only[RT,Q0,Q1,Q2,Q3,Q4,Q5,Q6,Q7,Q8,y3,y4]
   exact⟨y5,y6⟩
 rw[if_neg q0]
 have key:∀{C:AS} {r2:Rd},Fr S0 A C->C.blk[b4]?=some ⟨rrZ.cs,.var⟩->Bx X N C b2 r2->Rng r2->r2.al.length<=1000->∃u u2 C1 C2 u3 u4 v D E,aa TP 36 (.ptr b2 0) C=some u/\EvF TP HH 72 [u,.int .i64 0] C u2 C1/\ag TP 36 (.ptr b2 0) u2 C1=some C2/\aa TP 36 (.ptr b2 0) C2=some u3/\EvF TP HH 71 [u3] C2 (.tup [u4,v]) D/\ag TP 36 (.ptr b4 0) u4 D=some E/\aa TP 36 (.ptr b4 0) E=some u4/\Fr S0 A E/\ke X N E ((r2.begin 0).settle) (.tup [u4,v]):=by
  intro C r2 hf hz hx hr2 hl2
  obtain⟨u,o1,o2⟩:=hx.out
  obtain⟨u2,C1,k1,k2,k3⟩:=Bi0 (R:=0) (hf.wf hw) o2 hr2 (by omega) (by omega)
  have f1:=hf.ab k2
  obtain⟨C2,s1,s2,s3⟩:=(hx.fr0 k2).set (f1.wf hw) k3
  obtain⟨y1,y2⟩:=hr2.begin (R:=0) (by omega)
  obtain⟨u3,u4,v,D,E,z1,z2,z3,z4,z5,z6⟩:=s3.settle hw (f1.ar s2 (by omega)) (s2.aq (k2.af hz) (by omega)) (by omega) y1 (by omega)
  exact⟨u,u2,C1,C2,u3,u4,v,D,E,o1,k1,s1,z1,z2,z3,z4,z5,z6⟩
 simp only[RT,Q0,Q1,Q2,Q3,Q4,Q5,Q6,Q7,Q8,DF q0,ldI r3' hid,Ad8,eqZ hid Aa9]
 by_cases q1:id=z32
 . obtain⟨u,u2,C1,C2,u3,u4,v,D,E,x1,x2,x3,x4,x5,x6,x7,x8,x9⟩:=key f13 r4 hB3 hr hl
   simp only[RT,Q0,Q1,Q2,Q3,Q4,Q5,Q6,Q7,Q8,DT q1,Bool.not_true,x1]
   refine Aa0 x2 ?_
   simp only[RT,Q0,Q1,Q2,Q3,Q4,Q5,Q6,Q7,Q8,x3,x4]
   refine Aa0 x5 ?_
   simp only[RT,Q0,Q1,Q2,Q3,Q4,Q5,Q6,Q7,Q8,x6,x7]
   rw[if_pos q1]
   exact⟨x8,x9⟩
 . obtain⟨A4,s1,s2,s3⟩:=hB3.ny w3 hid
   obtain⟨u,u2,C1,C2,u3,u4,v,D,E,x1,x2,x3,x4,x5,x6,x7,x8,x9⟩:=key (f13.ar s2 (by omega)) (s2.aq r4 (by omega)) s3 { hr with } hl
   simp only[RT,Q0,Q1,Q2,Q3,Q4,Q5,Q6,Q7,Q8,DF q1,Bool.not_false,ldI r3' hid,fa,s1,x1]
   refine Aa0 x2 ?_
   simp only[RT,Q0,Q1,Q2,Q3,Q4,Q5,Q6,Q7,Q8,x3,x4]
   refine Aa0 x5 ?_
   simp only[RT,Q0,Q1,Q2,Q3,Q4,Q5,Q6,Q7,Q8,x6,x7]
   rw[if_neg q1]
   exact⟨x8,x9⟩
set_option maxRecDepth 10000 in
set_option maxHeartbeats 16000000 in
theorem Cj0{id:Bts}(hw:WF A)(h:RRs X N A r w)(hr:Rng r)(hid:id.length=32)(hl:r.al.length<=1000):∃u A',EvF TP HH 70 [w,.agg (bc id)] A u A'/\Fr S0 A A'/\ke X N A' (r.fX id) u:=by
 refine Aa4 rfl Tryz.func70 (by unfold Tryz.f70;rfl) Tryz.ntmps70 (by unfold Tryz.f70;rfl) (by simp) ?_
 obtain⟨cs,rfl,A1,e1,f1,hB1⟩:=h.new
 obtain⟨b2,hb2⟩:∃b,b=A.blk.length:=⟨_,rfl⟩
 rw[<- hb2]at hB1
 obtain⟨A2,e2,f2,r3,n2⟩:=Aa3 A1 (bc id)
 obtain⟨b3,hb3⟩:∃b,b=A1.blk.length:=⟨_,rfl⟩
 rw[<- hb3]at r3
 obtain⟨A3,e3,f3,r4,n3⟩:=Aa3 A2 rrZ.cs
 obtain⟨b4,hb4⟩:∃b,b=A2.blk.length:=⟨_,rfl⟩
 rw[<- hb4]at r4
 have hlt:b2<b3/\b3<b4:=by
  have:=hB1.lt (w:=.ah)
  have:=Ab3 r3
  omega
 have f13:Fr S0 A A3:=(f1.ab f2).ab f3
 have w3:=f13.wf hw
 have hB3:=(hB1.fr0 f2).fr0 f3
 have r3':=f3.af r3
 obtain⟨u,o1,o2⟩:=hB3.out
 obtain⟨u2,A4,k1,k2,k3⟩:=AU3 w3 o2 hr hid
 have f14:=f13.ab k2
 obtain⟨y1,y2⟩:=hr.gh id
 obtain⟨_,A5,m1,m2,u4,v,fo,rfl,m3,m4,m5⟩:=Bi3 (f14.wf hw) k3 y1 (by rw[y2];omega)
 have f15:=f14.ab m2
 have r45:=m2.af (k2.af r4)
 obtain⟨E,s1,s2,s3,s4⟩:=m3.fin (f15.wf hw) r45
 simp only[RT,Q0,Q1,Q2,Q3,Q4,Q5,Q6,Q7,Q8,<- e1,<- hb2]
 simp only[RT,Q0,Q1,Q2,Q3,Q4,Q5,Q6,Q7,Q8,<- hb3,<- e2]
 simp only[RT,Q0,Q1,Q2,Q3,Q4,Q5,Q6,Q7,Q8,AI9,<- hb4,<- e3,o1,ldI r3' hid]
 refine Aa0 k1 ?_
 simp only[RT,Q0,Q1,Q2,Q3,Q4,Q5,Q6,Q7,Q8]
 refine Aa0 m1 ?_
 simp only[RT,Q0,Q1,Q2,Q3,Q4,Q5,Q6,Q7,Q8,s1,s2]
 exact⟨f15.ar s3 (by omega),u4,v,fo,rfl,s4,m4.fr s3 (.box r45),m5⟩
set_option maxRecDepth 10000 in
set_option maxHeartbeats 16000000 in
theorem B23{R K W:Int}{id:Bts}(hw:WF A)(h:RRs X N A r w)(hr:Rng r)(hid:id.length=32)(hl:r.al.length<=1000):∃u A',EvF TP HH 44 [w,.int .i64 R,.int .i64 K,.int .i64 W,.agg (bc id)] A u A'/\Fr S0 A A'/\ke X N A' (r.dm R K W id) u:=by
 refine Aa4 rfl Tryz.func44 (by unfold Tryz.f44;rfl) Tryz.ntmps44 (by unfold Tryz.f44;rfl) (by simp) ?_
 obtain⟨cs,rfl,A1,e1,f1,hB1⟩:=h.new
 obtain⟨b2,hb2⟩:∃b,b=A.blk.length:=⟨_,rfl⟩
 rw[<- hb2]at hB1
 obtain⟨A2,e2,f2,r3,n2⟩:=Aa3 A1 (bc id)
 obtain⟨b3,hb3⟩:∃b,b=A1.blk.length:=⟨_,rfl⟩
 rw[<- hb3]at r3
 obtain⟨A3,e3,f3,r4,n3⟩:=Aa3 A2 rrZ.cs
 obtain⟨b4,hb4⟩:∃b,b=A2.blk.length:=⟨_,rfl⟩
 rw[<- hb4]at r4
 have hlt:b2<b3/\b3<b4:=by
  have:=hB1.lt (w:=.ah)
  have:=Ab3 r3
  omega
 have f13:Fr S0 A A3:=(f1.ab f2).ab f3
 have w3:=f13.wf hw
 have hB3:=(hB1.fr0 f2).fr0 f3
 have r3':=f3.af r3
 have fa:=AJ1 b2
 obtain⟨ov,kv,vv,tv,av,hb,hI⟩:=hB3
 have hB3:Bx X N A3 b2 r:=⟨_,_,_,_,_,hb,hI⟩
 have ld:=AA8 hb hI
 unfold Rd.dm
 simp only[RT,Q0,Q1,Q2,Q3,Q4,Q5,Q6,Q7,Q8,<- e1,<- hb2]
 simp only[RT,Q0,Q1,Q2,Q3,Q4,Q5,Q6,Q7,Q8,<- hb3,<- e2]
 simp only[RT,Q0,Q1,Q2,Q3,Q4,Q5,Q6,Q7,Q8,AI9,<- hb4,<- e3,fa,ld]
 by_cases q:W=r.me
 . rw[if_neg (fun z=>z q)]
   obtain⟨u,u1,v,D,E,y1,y2,y3,y4,y5,y6⟩:=hB3.settle hw f13 r4 (by omega) hr (by omega)
   simp only[RT,Q0,Q1,Q2,Q3,Q4,Q5,Q6,Q7,Q8,DF (show ¬ ¬(W=(r.me:Int))from fun z=>z q),y1]
   refine Aa0 y2 ?_
   simp only[RT,Q0,Q1,Q2,Q3,Q4,Q5,Q6,Q7,Q8,y3,y4]
   exact⟨y5,y6⟩
 rw[if_pos q]
 obtain⟨l,hS,hV⟩:=hI.vv
 obtain⟨_,A4,k1,k2,v',l',rfl,k4,k5⟩:=BJ1 (r:=R) (k:=K) (w0:=W) w3 (Ab5 X A3) hS hV hI.n hid
 have f14:=f13.ab k2
 have lQ:∃A5,ag TP 33 (.ptr b2 105) v' A4=some A5/\Fr (·=.row b2) A4 A5/\Bx X N A5 b2 { r with v:=dG r.n r.v R K W id }:=by
  rcases k5 with⟨q0,rfl,rfl⟩ |⟨q0,k6⟩
  . have e:dG r.n r.v R K W id=r.v:=by unfold dG;rw[if_neg q0]
    rw[e]
    exact Ci6 (k2.af hb) (hI.fr0 k2) (f14.wf hw)
  . exact hB3.eF w3 k2 k6 k4
 obtain⟨A5,s1,s2,s3⟩:=lQ
 obtain⟨u,u1,v,D,E,y1,y2,y3,y4,y5,y6⟩:=s3.settle hw (f14.ar s2 (by omega)) (s2.aq (k2.af r4) (by omega)) (by omega) { hr with } (by show r.al.length<=_;omega)
 simp only[RT,Q0,Q1,Q2,Q3,Q4,Q5,Q6,Q7,Q8,DT (show ¬(W=(r.me:Int))from q),fa,ld,ldI r3' hid,BI8 hid]
 refine Aa0 k1 ?_
 simp only[RT,Q0,Q1,Q2,Q3,Q4,Q5,Q6,Q7,Q8,fa,s1,y1]
 refine Aa0 y2 ?_
 simp only[RT,Q0,Q1,Q2,Q3,Q4,Q5,Q6,Q7,Q8,y3,y4]
 exact⟨y5,y6⟩
end
end Go.Sv.Tryz
namespace Go.Sv.Tryz
open Go Go.Proofs
section
variable {X:Nat->Prop} {N:Nat} {A B C:AS} {r r':Rd} {ov kv vv tv av w:V} {b:Nat}
set_option maxRecDepth 10000 in
set_option maxHeartbeats 16000000 in
theorem Bt5{R K:Int}(hw:WF A)(h:RRs X N A r w)(hr:Rng r)(hl:r.al.length<=1000):∃u A',EvF TP HH 51 [w,.int .i64 R,.int .i64 K] A u A'/\Fr S0 A A'/\ke X N A' (r.cj R K) u:=by
 refine Aa4 rfl Tryz.func51 (by unfold Tryz.f51;rfl) Tryz.ntmps51 (by unfold Tryz.f51;rfl) (by simp) ?_
 obtain⟨cs,rfl,A1,e1,f1,hB1⟩:=h.new
 obtain⟨b3,hb3⟩:∃b,b=A.blk.length:=⟨_,rfl⟩
 rw[<- hb3]at hB1
 obtain⟨A2,e2,f2,r6,n2⟩:=Aa3 A1 rrZ.cs
 obtain⟨b6,hb6⟩:∃b,b=A1.blk.length:=⟨_,rfl⟩
 rw[<- hb6]at r6
 have hlt:b3<b6:=by
  have:=hB1.lt (w:=.ah)
  omega
 have f12:Fr S0 A A2:=f1.ab f2
 have w2:=f12.wf hw
 have hB2:=hB1.fr0 f2
 have fa:=AJ1 b3
 obtain⟨ov,kv,vv,tv,av,hb,hI⟩:=hB2
 have hB2:Bx X N A2 b3 r:=⟨_,_,_,_,_,hb,hI⟩
 have ld:=AA8 hb hI
 have lw:=fun {B:AS} (hf:Fr S0 A2 B)=>(Bb0 (hf.af hb) (hI.fr0 hf).ok).2.2.2.2.2.2.2.2.2.2.2.2
 have hrs:=fun {B:AS} (hf:Fr S0 A2 B)=>(⟨_,_,_,_,_,rfl,hI.fr0 hf⟩:RRs X N B r (.agg (rrS r ov kv vv tv av).cs))
 have lw2:=lw (.refl _ _)
 unfold Rd.cj
 simp only[RT,Q0,Q1,Q2,Q3,Q4,Q5,Q6,Q7,Q8,<- e1,<- hb3]
 simp only[RT,Q0,Q1,Q2,Q3,Q4,Q5,Q6,Q7,Q8,AI9,<- hb6,<- e2,fa,ld]
 obtain⟨u,u1,v,D,E,y1,y2,y3,y4,y5,y6⟩:=hB2.settle hw f12 r6 (by omega) hr (by omega)
 by_cases q1:R=r.now
 rotate_left
 . simp only[RT,Q0,Q1,Q2,Q3,Q4,Q5,Q6,Q7,Q8,DF q1,y1]
   rw[if_neg (fun z=>q1 z.1)]
   refine Aa0 y2 ?_
   simp only[RT,Q0,Q1,Q2,Q3,Q4,Q5,Q6,Q7,Q8,y3,y4]
   exact⟨y5,y6⟩
 by_cases q2:r.step=3
 . simp only[RT,Q0,Q1,Q2,Q3,Q4,Q5,Q6,Q7,Q8,DT q1,fa,ld,DF (show ¬ ¬r.step=3 from fun z=>z q2),y1]
   rw[if_neg (fun z=>z.2 q2)]
   refine Aa0 y2 ?_
   simp only[RT,Q0,Q1,Q2,Q3,Q4,Q5,Q6,Q7,Q8,y3,y4]
   exact⟨y5,y6⟩
 rw[if_pos ⟨q1,q2⟩]
 simp only[RT,Q0,Q1,Q2,Q3,Q4,Q5,Q6,Q7,Q8,DT q1,fa,ld,DT (show ¬r.step=3 from q2)]
 have vt:∀k:Nat,k<2->∃A3 u2 A4 A5 u3 u4 v D E,EvF TP HH 78 [] A2 (.agg (bc n32)) A3/\aa TP 36 (.ptr b3 0) A3=some (.agg (rrS r ov kv vv tv av).cs)/\EvF TP HH 85 [.agg (rrS r ov kv vv tv av).cs,.int .i64 (k:Int),.agg (bc n32)] A3 u2 A4/\ag TP 36 (.ptr b3 0) u2 A4=some A5/\aa TP 36 (.ptr b3 0) A5=some u3/\EvF TP HH 71 [u3] A5 (.tup [u4,v]) D/\ag TP 36 (.ptr b6 0) u4 D=some E/\aa TP 36 (.ptr b6 0) E=some u4/\Fr S0 A E/\ke X N E (r.vote k n32).settle (.tup [u4,v]):=by
  intro k hk
  obtain⟨_,A3,m1,m2,rfl⟩:=Ai3 A2
  have f13:=f12.ab m2
  obtain⟨u2,A4,j1,j2,j3⟩:=Bt0 (k:=k) (f13.wf hw) (hrs m2) hk Ad3 (by omega)
  have f14:=f13.ab j2
  obtain⟨A5,s1,s2,s3⟩:=((hB2.fr0 m2).fr0 j2).set (f14.wf hw) j3
  obtain⟨z1,z2⟩:=hr.vote hk n32
  obtain⟨u,u1,v,D,E,y1,y2,y3,y4,y5,y6⟩:=s3.settle hw (f14.ar s2 (by omega)) (s2.aq (j2.af (m2.af r6)) (by omega)) (by omega) z1 (by omega)
  exact⟨A3,u2,A4,A5,u,u1,v,D,E,m1,lw m2,j1,s1,y1,y2,y3,y4,y5,y6⟩
 by_cases c0:K=0
 . by_cases c1:r.step=0
   . obtain⟨A3,u2,A4,A5,u3,u4,v,D,E,x1,x2,x3,x4,x5,x6,x7,x8,x9,x10⟩:=vt 0 (by omega)
     have x3:EvF TP HH 85 [.agg (rrS r ov kv vv tv av).cs,.int .i64 0,.agg (bc n32)] A3 u2 A4:=x3
     rw[if_pos ⟨c0,c1⟩]
     simp only[RT,Q0,Q1,Q2,Q3,Q4,Q5,Q6,Q7,Q8,DT c0,fa,ld,DT c1,BU3,lw2,Aa1]
     refine Aa0 x1 ?_
     simp only[RT,Q0,Q1,Q2,Q3,Q4,Q5,Q6,Q7,Q8]
     refine⟨Aa5 (ha:=rfl) rfl x2 rfl Aa1,?_⟩
     refine Aa0 x3 ?_
     simp only[RT,Q0,Q1,Q2,Q3,Q4,Q5,Q6,Q7,Q8,x4,Aa1,x5]
     refine Aa0 x6 ?_
     simp only[RT,Q0,Q1,Q2,Q3,Q4,Q5,Q6,Q7,Q8,x7,x8]
     exact⟨x9,x10⟩
   . rw[if_neg (fun z=>c1 z.2),if_neg (by omega),if_neg (by omega)]
     simp only[RT,Q0,Q1,Q2,Q3,Q4,Q5,Q6,Q7,Q8,DT c0,fa,ld,DF c1,DF (show ¬K=1 by omega),DF (show ¬K=2 by omega),y1]
     refine Aa0 y2 ?_
     simp only[RT,Q0,Q1,Q2,Q3,Q4,Q5,Q6,Q7,Q8,y3,y4]
     exact⟨y5,y6⟩
 rw[if_neg (fun z=>c0 z.1)]
 by_cases c2:K=1
 . by_cases c1:r.step=1
   . obtain⟨A3,u2,A4,A5,u3,u4,v,D,E,x1,x2,x3,x4,x5,x6,x7,x8,x9,x10⟩:=vt 1 (by omega)
     have x3:EvF TP HH 85 [.agg (rrS r ov kv vv tv av).cs,.int .i64 1,.agg (bc n32)] A3 u2 A4:=x3
     rw[if_pos ⟨c2,c1⟩]
     simp only[RT,Q0,Q1,Q2,Q3,Q4,Q5,Q6,Q7,Q8,DF c0,DT c2,fa,ld,DT c1,BU4,lw2,Aa1]
     refine Aa0 x1 ?_
     simp only[RT,Q0,Q1,Q2,Q3,Q4,Q5,Q6,Q7,Q8]
     refine⟨Aa5 (ha:=rfl) rfl x2 rfl Aa1,?_⟩
     refine Aa0 x3 ?_
     simp only[RT,Q0,Q1,Q2,Q3,Q4,Q5,Q6,Q7,Q8,x4,Aa1,x5]
     refine Aa0 x6 ?_
     simp only[RT,Q0,Q1,Q2,Q3,Q4,Q5,Q6,Q7,Q8,x7,x8]
     exact⟨x9,x10⟩
   . rw[if_neg (fun z=>c1 z.2),if_neg (by omega)]
     simp only[RT,Q0,Q1,Q2,Q3,Q4,Q5,Q6,Q7,Q8,DF c0,DT c2,fa,ld,DF c1,DF (show ¬K=2 by omega),y1]
     refine Aa0 y2 ?_
     simp only[RT,Q0,Q1,Q2,Q3,Q4,Q5,Q6,Q7,Q8,y3,y4]
     exact⟨y5,y6⟩
 rw[if_neg (fun z=>c2 z.1)]
 by_cases c3:K=2
 . rw[if_pos c3]
   have mR:=hr.now
   have hwr:IntKind.i64.wrap (R+1)=R+1:=Ac6 (by omega) (by omega)
   obtain⟨u2,A3,j1,j2,j3⟩:=Bi0 (R:=R+1) w2 (hrs (.refl _ _)) hr (by omega) (by omega)
   have f13:=f12.ab j2
   obtain⟨A4,s1,s2,s3⟩:=(hB2.fr0 j2).set (f13.wf hw) j3
   obtain⟨z1,z2⟩:=hr.begin (R:=R+1) (by omega)
   obtain⟨u,u1,v,D,E,y1,y2,y3,y4,y5,y6⟩:=s3.settle hw (f13.ar s2 (by omega)) (s2.aq (j2.af r6) (by omega)) (by omega) z1 (by omega)
   simp only[RT,Q0,Q1,Q2,Q3,Q4,Q5,Q6,Q7,Q8,DF c0,DF c2,DT c3,lw2,hwr]
   refine Aa0 j1 ?_
   simp only[RT,Q0,Q1,Q2,Q3,Q4,Q5,Q6,Q7,Q8,s1,y1]
   refine Aa0 y2 ?_
   simp only[RT,Q0,Q1,Q2,Q3,Q4,Q5,Q6,Q7,Q8,y3,y4]
   exact⟨y5,y6⟩
 . rw[if_neg c3]
   simp only[RT,Q0,Q1,Q2,Q3,Q4,Q5,Q6,Q7,Q8,DF c0,DF c2,DF c3,y1]
   refine Aa0 y2 ?_
   simp only[RT,Q0,Q1,Q2,Q3,Q4,Q5,Q6,Q7,Q8,y3,y4]
   exact⟨y5,y6⟩
set_option maxRecDepth 10000 in
set_option maxHeartbeats 16000000 in
theorem Bt6{R W:Int}{id:Bts}(hw:WF A)(h:RRs X N A r w)(hr:Rng r)(hid:id.length=32)(hl:r.al.length<=1000):∃u A',EvF TP HH 42 [w,.int .i64 R,.int .i64 W,.agg (bc id)] A u A'/\Fr S0 A A'/\ke X N A' (r.bZ R W id) u:=by
 refine Aa4 rfl Tryz.func42 (by unfold Tryz.f42;rfl) Tryz.ntmps42 (by unfold Tryz.f42;rfl) (by simp) ?_
 obtain⟨cs,rfl,A1,e1,f1,hB1⟩:=h.new
 obtain⟨b4,hb4⟩:∃b,b=A.blk.length:=⟨_,rfl⟩
 rw[<- hb4]at hB1
 obtain⟨A2,e2,f2,r7,n2⟩:=Aa3 A1 (bc id)
 obtain⟨b7,hb7⟩:∃b,b=A1.blk.length:=⟨_,rfl⟩
 rw[<- hb7]at r7
 obtain⟨A3,e3,f3,r8,n3⟩:=Aa3 A2 rrZ.cs
 obtain⟨b8,hb8⟩:∃b,b=A2.blk.length:=⟨_,rfl⟩
 rw[<- hb8]at r8
 have hlt:b4<b7/\b7<b8:=by
  have:=hB1.lt (w:=.ah)
  have:=Ab3 r7
  omega
 have f13:Fr S0 A A3:=(f1.ab f2).ab f3
 have w3:=f13.wf hw
 have hB3:=(hB1.fr0 f2).fr0 f3
 have r7':=f3.af r7
 have fa:=AJ1 b4
 obtain⟨ov,kv,vv,tv,av,hb,hI⟩:=hB3
 have hB3:Bx X N A3 b4 r:=⟨_,_,_,_,_,hb,hI⟩
 have ld:=fun {B:AS} (hf:Fr S0 A3 B)=>AA8 (hf.af hb) (hI.fr0 hf)
 obtain⟨lo,hSo,hO⟩:=hI.ov
 have hol:=hO.len
 unfold Rd.bZ
 simp only[RT,Q0,Q1,Q2,Q3,Q4,Q5,Q6,Q7,Q8,<- e1,<- hb4]
 simp only[RT,Q0,Q1,Q2,Q3,Q4,Q5,Q6,Q7,Q8,<- hb7,<- e2]
 simp only[RT,Q0,Q1,Q2,Q3,Q4,Q5,Q6,Q7,Q8,AI9,<- hb8,<- e3]
 refine Ag0 (fun z e B=>Is z .normal/\e.get 1=.int .i64 R/\e.get 2=.int .i64 W/\e.get 4=.ptr b4 0/\e.get 7=.ptr b7 0/\e.get 8=.ptr b8 0/\Fr S0 A3 B/\e.get 41=.bool (decide (0<=R/\R<12/\0<=W/\W<=R/\id≠z32/\id≠n32/\(r.offers R.toNat).there=false))) ?_ ?_
 . by_cases q1:0<=R
   rotate_left
   . simp only[RT,Q0,Q1,Q2,Q3,Q4,Q5,Q6,Q7,Q8,AA4,Aa1,DF (show ¬R>=0 from q1)]
     refine⟨Ad0 rfl rfl rfl rfl Aa1,rfl,.refl _ _,?_⟩
     rw[DF (fun z=>q1 z.1)]
   by_cases q2:R<12
   rotate_left
   . simp only[RT,Q0,Q1,Q2,Q3,Q4,Q5,Q6,Q7,Q8,AA4,Aa1,DT (show R>=0 from q1),DF q2]
     refine⟨Ad0 rfl rfl rfl rfl Aa1,rfl,.refl _ _,?_⟩
     rw[DF (fun z=>q2 z.2.1)]
   by_cases q3:0<=W
   rotate_left
   . simp only[RT,Q0,Q1,Q2,Q3,Q4,Q5,Q6,Q7,Q8,AA4,Aa1,DT (show R>=0 from q1),DT q2,DF (show ¬W>=0 from q3)]
     refine⟨Ad0 rfl rfl rfl rfl Aa1,rfl,.refl _ _,?_⟩
     rw[DF (fun z=>q3 z.2.2.1)]
   by_cases q4:W<=R
   rotate_left
   . simp only[RT,Q0,Q1,Q2,Q3,Q4,Q5,Q6,Q7,Q8,AA4,Aa1,DT (show R>=0 from q1),DT q2,DT (show W>=0 from q3),DF q4]
     refine⟨Ad0 rfl rfl rfl rfl Aa1,rfl,.refl _ _,?_⟩
     rw[DF (fun z=>q4 z.2.2.2.1)]
   by_cases q5:id=z32
   . simp only[RT,Q0,Q1,Q2,Q3,Q4,Q5,Q6,Q7,Q8,AA4,Aa1,DT (show R>=0 from q1),DT q2,DT (show W>=0 from q3),DT q4,ldI r7' hid,Ad8,eqZ hid Aa9,DT q5,Bool.not_true]
     refine⟨Ad0 rfl rfl rfl rfl Aa1,rfl,.refl _ _,?_⟩
     rw[DF (fun z=>z.2.2.2.2.1 q5)]
   obtain⟨_,B,n1,n2,rfl⟩:=Ai3 A3
   have r7B:=n2.af r7'
   simp only[RT,Q0,Q1,Q2,Q3,Q4,Q5,Q6,Q7,Q8,AA4,Aa1,DT (show R>=0 from q1),DT q2,DT (show W>=0 from q3),DT q4,ldI r7' hid,Ad8,eqZ hid Aa9,DF q5,Bool.not_false]
   refine Aa0 n1 ?_
   by_cases q6:id=n32
   . simp only[RT,Q0,Q1,Q2,Q3,Q4,Q5,Q6,Q7,Q8,Aa1,eqZ hid Ad3,DT q6,Bool.not_true]
     refine⟨Ac4 rfl rfl rfl rfl rfl (ldI r7B hid) rfl Aa1,rfl,n2,?_⟩
     rw[DF (fun z=>z.2.2.2.2.2.1 q6)]
   have ldB:=ld n2
   obtain⟨_,_,m1,hE,rfl⟩:=Ak3 (R:=R) (Ab5 X B) (hSo.mono (Ac8 n2)) (by omega)
   rw[hE]at m1
   simp only[RT,Q0,Q1,Q2,Q3,Q4,Q5,Q6,Q7,Q8,Aa1,eqZ hid Ad3,DF q6,Bool.not_false,fa,ldB]
   refine⟨Ac4 rfl rfl rfl rfl rfl (ldI r7B hid) rfl Aa1,?_⟩
   refine Aa0 m1 ?_
   rcases hO.find q1 with⟨hth,hpl⟩ |⟨hth,j,p,hpl,hjp,hfp,hpz⟩
   . simp only[RT,Q0,Q1,Q2,Q3,Q4,Q5,Q6,Q7,Q8,hpl,Aa1,DT (show(-1:Int)<0 by omega)]
     refine⟨rfl,n2,?_⟩
     rw[DT ⟨q1,q2,q3,q4,q5,q6,hth⟩]
   . simp only[RT,Q0,Q1,Q2,Q3,Q4,Q5,Q6,Q7,Q8,hpl,Aa1,DF (show ¬(j:Int)<0 by omega)]
     refine⟨rfl,n2,?_⟩
     rw[DF (fun z=>by have:=z.2.2.2.2.2.2;rw[hth]at this;cases this)]
 rintro z e B ⟨rfl,g1,g2,g4,g7,g8,hB,g41⟩
 have fB:=f13.ab hB
 have wB:=fB.wf hw
 by_cases q:0<=R/\R<12/\0<=W/\W<=R/\id≠z32/\id≠n32/\(r.offers R.toNat).there=false
 rotate_left
 . rw[if_neg q]
   rw[DF q]at g41
   obtain⟨u,u1,v,D,E,y1,y2,y3,y4,y5,y6⟩:=(hB3.fr0 hB).settle hw fB (hB.af r8) (by omega) hr (by omega)
   simp only[RT,Q0,Q1,Q2,Q3,Q4,Q5,Q6,Q7,Q8,g41,g4,y1]
   refine Aa0 y2 ?_
   simp only[RT,Q0,Q1,Q2,Q3,Q4,Q5,Q6,Q7,Q8,g8,y3,y4]
   exact⟨y5,y6⟩
 rw[if_pos q]
 rw[DT q]at g41
 obtain⟨v1,C,k1,k2,k3⟩:=Au2 (p:=(R,W,id)) wB (Ab5 X B) hid (hSo.mono (Ac8 hB)) (by omega)
 have hO2:=hO.put (v:=W) q.1 q.2.1 q.2.2.2.2.2.2 q.2.2.2.2.1
 have fC:=fB.ab k2
 obtain⟨D,s1,s2,s3⟩:=(hB3.fr0 hB).nA wB k2 k3 hO2
 obtain⟨u,u1,v,D2,E,y1,y2,y3,y4,y5,y6⟩:=s3.settle hw (fC.ar s2 (by omega)) (s2.aq (k2.af (hB.af r8)) (by omega)) (by omega) { hr with offers:=An2 hr.offers ⟨q.2.2.1,by show W<=1000;omega⟩ } (by show r.al.length<=_;omega)
 have ldB:=ld hB
 simp only[RT,Q0,Q1,Q2,Q3,Q4,Q5,Q6,Q7,Q8,g41,g4,fa,ldB,g1,g2,g7,ldI (hB.af r7') hid,Bt3 hid]
 refine Aa0 k1 ?_
 simp only[RT,Q0,Q1,Q2,Q3,Q4,Q5,Q6,Q7,Q8,g4,fa,s1,y1]
 refine Aa0 y2 ?_
 simp only[RT,Q0,Q1,Q2,Q3,Q4,Q5,Q6,Q7,Q8,g8,y3,y4]
 exact⟨y5,y6⟩
end
end Go.Sv.Tryz
namespace Go.Sv.Tryz
open Go Go.Proofs
section
variable {A A' B:AS} {rp cp:Nat} {r r':Rd} {vb:Nat->Nat} {fk fa fk' fa':Option Nat} {kv av:V}
set_option maxRecDepth 10000 in
set_option maxHeartbeats 16000000 in
theorem AU4(hw:WF A)(h:a4 A rp r cp vb fk fa)(hr:Rng r)(hl:r.al.length<=100000){R val:Int}{id:Bts}(hid:id.length=32):∃w A',EvF TP HH 37 [.ptr rp 0,.int .i64 R,.int .i64 val,.agg (bc id)] A w A'/\fx A rp cp vb fk fa A' (r.bZ R val id) w:=by
 refine Aa4 rfl Tryz.func37 (by unfold Tryz.f37;rfl) Tryz.ntmps37 (by unfold Tryz.f37;rfl) (by simp) ?_
 simp only[RT,Q0,Q1,Q2,Q3,Q4,Q5,Q6,Q7,Q8]
 obtain⟨A1,e1,f1,r1,n1⟩:=Aa3 A (bc id)
 rw[<- e1]
 have h1:=h.fr0 f1
 have w1:=f1.wf hw
 have hfa:=AB9 rp
 obtain⟨kv,av,b1,b2,b3⟩:=h1.box
 obtain⟨_,A2,n1,rfl,n2⟩:=Ap4 (A:=A1)
 have ldI:=Ai8 r1 hid
 have ldI2:=Ai8 (n2.af r1) hid
 unfold Rd.bZ
 refine Ag0 (fun z e B=>Is z .normal/\e.get 0=.ptr rp 0/\e.get 1=.int .i64 R/\e.get 2=.int .i64 val/\e.get 7=.ptr A.blk.length 0/\Fr S0 A1 B/\e.get 43=.bool (decide (0<=R/\R<12/\0<=val/\val<=R/\id≠z32/\id≠n32/\(r.offers R.toNat).there=false))) ?_ ?_
 . by_cases q1:0<=R
   rotate_left
   . simp only[RT,Q0,Q1,Q2,Q3,Q4,Q5,Q6,Q7,Q8,AA3,Aa1,DF (show ¬R>=0 from q1)]
     refine⟨Ad0 rfl rfl rfl rfl Aa1,rfl,.refl _ _,?_⟩
     rw[DF (fun z=>q1 z.1)]
   by_cases q2:R<12
   rotate_left
   . simp only[RT,Q0,Q1,Q2,Q3,Q4,Q5,Q6,Q7,Q8,AA3,Aa1,DT (show R>=0 from q1),DF q2]
     refine⟨Ad0 rfl rfl rfl rfl Aa1,rfl,.refl _ _,?_⟩
     rw[DF (fun z=>q2 z.2.1)]
   by_cases q3:0<=val
   rotate_left
   . simp only[RT,Q0,Q1,Q2,Q3,Q4,Q5,Q6,Q7,Q8,AA3,Aa1,DT (show R>=0 from q1),DT q2,DF (show ¬val>=0 from q3)]
     refine⟨Ad0 rfl rfl rfl rfl Aa1,rfl,.refl _ _,?_⟩
     rw[DF (fun z=>q3 z.2.2.1)]
   by_cases q4:val<=R
   rotate_left
   . simp only[RT,Q0,Q1,Q2,Q3,Q4,Q5,Q6,Q7,Q8,AA3,Aa1,DT (show R>=0 from q1),DT q2,DT (show val>=0 from q3),DF q4]
     refine⟨Ad0 rfl rfl rfl rfl Aa1,rfl,.refl _ _,?_⟩
     rw[DF (fun z=>q4 z.2.2.2.1)]
   by_cases q5:id=z32
   . simp only[RT,Q0,Q1,Q2,Q3,Q4,Q5,Q6,Q7,Q8,AA3,Aa1,DT (show R>=0 from q1),DT q2,DT (show val>=0 from q3),DT q4,ldI,Ad8,eqZ hid Aa9,DT q5]
     refine⟨Ad0 rfl rfl rfl rfl Aa1,rfl,.refl _ _,?_⟩
     rw[DF (fun z=>z.2.2.2.2.1 q5)]
   simp only[RT,Q0,Q1,Q2,Q3,Q4,Q5,Q6,Q7,Q8,AA3,Aa1,DT (show R>=0 from q1),DT q2,DT (show val>=0 from q3),DT q4,ldI,Ad8,eqZ hid Aa9,DF q5]
   refine Aa0 n1 ?_
   by_cases q6:id=n32
   . simp only[RT,Q0,Q1,Q2,Q3,Q4,Q5,Q6,Q7,Q8,Aa1,eqZ hid Ad3,DT q6]
     refine⟨Ac4 rfl rfl rfl rfl rfl ldI2 rfl Aa1,rfl,n2,?_⟩
     rw[DF (fun z=>z.2.2.2.2.2.1 q6)]
   obtain⟨i,rfl⟩:=Int.eq_ofNat_of_zero_le q1
   have dW:i<12:=by omega
   have hof:=Cf4 (n2.af b1) h.ok dW
   simp only[RT,Q0,Q1,Q2,Q3,Q4,Q5,Q6,Q7,Q8,Aa1,eqZ hid Ad3,DF q6,hfa,Bf3 dW,Cg6 rp (103+i*34),hof]
   refine⟨Ac4 rfl rfl rfl rfl rfl ldI2 rfl Aa1,rfl,n2,?_⟩
   rw[show((i:Int)).toNat=i from rfl]
   cases qt:(r.offers i).there with
   |true=>rw[DF (fun z=>by simp at z)];rfl
   |false=>rw[DT ⟨q1,q2,q3,q4,q5,q6,rfl⟩];rfl
 . rintro z e B ⟨rfl,g0,g1,g2,g7,hB,g43⟩
   have fB:=f1.ab hB
   have wB:=fB.wf hw
   have hBr:=h.fr0 fB
   by_cases q:0<=R/\R<12/\0<=val/\val<=R/\id≠z32/\id≠n32/\(r.offers R.toNat).there=false
   rotate_left
   . rw[if_neg q]
     rw[DF q]at g43
     obtain⟨w,C,m1,m2⟩:=Af6 wB hBr hr (by omega)
     simp only[RT,Q0,Q1,Q2,Q3,Q4,Q5,Q6,Q7,Q8,g43,g0]
     refine Aa0 m1 ?_
     simp only[RT,Q0,Q1,Q2,Q3,Q4,Q5,Q6,Q7,Q8]
     exact fx.br hw fB m2
   rw[if_pos q]
   rw[DT q]at g43
   obtain⟨i,rfl⟩:=Int.eq_ofNat_of_zero_le q.1
   have dW:i<12:=by omega
   rw[show((i:Int)).toNat=i from rfl]
   obtain⟨kvb,avb,c1,c2,c3⟩:=hBr.box
   obtain⟨C,s1,s2,s3⟩:=Cg7 c1 h.ok (o:=⟨true,val,id⟩) hid dW
   have hC:a4 C rp { r with offers:=fM r.offers i ⟨true,val,id⟩ } cp vb fk fa:=hBr.upd c1 c2 c3 s2 s3 rfl rfl rfl rfl { h.ok with offers:=AO6 h.ok.offers hid }
   obtain⟨w,D,m1,m2⟩:=Af6 (s2.wf wB) hC { hr with offers:=An2 hr.offers ⟨q.2.2.1,by show val<=1000;omega⟩ } (by show r.al.length<=_;omega)
   simp only[RT,Q0,Q1,Q2,Q3,Q4,Q5,Q6,Q7,Q8,g43]
   rw[BT6,Aa2 (by rfl)]
   simp only[RT,Q0,Q1,Q2,Q3,Q4,Q5,Q6,Q7,Q8,g0,g1,g2,g7,Ai8 (hB.af r1) hid,Br9 hid,hfa,Bf3 dW,s1]
   refine Aa0 m1 ?_
   simp only[RT,Q0,Q1,Q2,Q3,Q4,Q5,Q6,Q7,Q8]
   exact fx.br hw fB (m2.next wB (s2.mono fun _ q=>.inl q) (.inl rfl) (.inl rfl))
set_option maxRecDepth 10000 in
set_option maxHeartbeats 8000000 in
theorem Bb3(hw:WF A)(h:a4 A rp r cp vb fk fa)(hr:Rng r)(hl:r.al.length<=100000){R K W:Int}{id:Bts}(hid:id.length=32):∃w A',EvF TP HH 39 [.ptr rp 0,.int .i64 R,.int .i64 K,.int .i64 W,.agg (bc id)] A w A'/\fx A rp cp vb fk fa A' (r.dm R K W id) w:=by
 refine Aa4 rfl Tryz.func39 (by unfold Tryz.f39;rfl) Tryz.ntmps39 (by unfold Tryz.f39;rfl) (by simp) ?_
 simp only[RT,Q0,Q1,Q2,Q3,Q4,Q5,Q6,Q7,Q8]
 obtain⟨A1,e1,f1,r1,n1⟩:=Aa3 A (bc id)
 rw[<- e1]
 have h1:=h.fr0 f1
 have w1:=f1.wf hw
 have hfa:=AB9 rp
 obtain⟨kv,av,b1,b2,b3⟩:=h1.box
 have ld:=Ap1 b1 h.ok
 unfold Rd.dm
 by_cases q:W=r.me
 . simp only[RT,Q0,Q1,Q2,Q3,Q4,Q5,Q6,Q7,Q8,hfa,ld,DF (show ¬ ¬(W=(r.me:Int))from fun z=>z q)]
   rw[if_neg (fun z=>z q)]
   obtain⟨w,C,m1,m2⟩:=Af6 w1 h1 hr (by omega)
   refine Aa0 m1 ?_
   simp only[RT,Q0,Q1,Q2,Q3,Q4,Q5,Q6,Q7,Q8]
   exact fx.br hw f1 m2
 . obtain⟨_,A2,p1,p2,rfl,p3⟩:=AN7 w1 h1.cnt R K W hid
   have h2:=h1.pz p2 p3
   obtain⟨w,C,m1,m2⟩:=Af6 (p2.wf w1) h2 { hr with } (by show r.al.length<=_;omega)
   simp only[RT,Q0,Q1,Q2,Q3,Q4,Q5,Q6,Q7,Q8,hfa,ld,DT (show ¬(W=(r.me:Int))from q)]
   rw[BT7,Aa2 (by rfl)]
   simp only[RT,Q0,Q1,Q2,Q3,Q4,Q5,Q6,Q7,Q8,hfa,ld,Ai8 r1 hid]
   refine Aa0 p1 ?_
   simp only[RT,Q0,Q1,Q2,Q3,Q4,Q5,Q6,Q7,Q8]
   refine Aa0 m1 ?_
   simp only[RT,Q0,Q1,Q2,Q3,Q4,Q5,Q6,Q7,Q8]
   rw[if_pos q]
   exact fx.br hw f1 (m2.next w1 (p2.mono fun _ q=>.inr (.inl q)) (.inl rfl) (.inl rfl))
set_option maxRecDepth 10000 in
set_option maxHeartbeats 8000000 in
theorem AU5(hw:WF A)(h:a4 A rp r cp vb fk fa)(hr:Rng r)(hl:r.al.length<=100000){R K:Int}:∃w A',EvF TP HH 46 [.ptr rp 0,.int .i64 R,.int .i64 K] A w A'/\fx A rp cp vb fk fa A' (r.cj R K) w:=by
 refine Aa4 rfl Tryz.func46 (by unfold Tryz.f46;rfl) Tryz.ntmps46 (by unfold Tryz.f46;rfl) (by simp) ?_
 simp only[RT,Q0,Q1,Q2,Q3,Q4,Q5,Q6,Q7,Q8]
 have hfa:=AB9 rp
 obtain⟨kv,av,b1,b2,b3⟩:=h.box
 have ld:=Ap1 b1 h.ok
 have fin:∀{B:AS} {r2:Rd},aJ A rp cp vb fk fa B r2->Rng r2->r2.al.length<=100001->∃w C,EvF TP HH 67 [.ptr rp 0] B w C/\fx A rp cp vb fk fa C r2.settle w:=by
  intro B r2 hB hr2 hl2
  obtain⟨fk2,fa2,j1,j2,j3,j4⟩:=hB
  obtain⟨w,C,m1,m2⟩:=Af6 (j1.wf hw) j4 hr2 (by omega)
  exact⟨w,C,m1,m2.next hw j1 j2 j3⟩
 unfold Rd.cj
 by_cases q1:R=r.now
 rotate_left
 . simp only[RT,Q0,Q1,Q2,Q3,Q4,Q5,Q6,Q7,Q8,hfa,ld,DF q1]
   obtain⟨w,C,m1,m2⟩:=fin (.da h) hr (by omega)
   refine Aa0 m1 ?_
   simp only[RT,Q0,Q1,Q2,Q3,Q4,Q5,Q6,Q7,Q8]
   rw[if_neg (fun z=>q1 z.1)]
   exact m2
 by_cases q2:r.step=3
 . simp only[RT,Q0,Q1,Q2,Q3,Q4,Q5,Q6,Q7,Q8,hfa,ld,DT q1,DF (show ¬ ¬(r.step=3)from fun z=>z q2)]
   obtain⟨w,C,m1,m2⟩:=fin (.da h) hr (by omega)
   refine Aa0 m1 ?_
   simp only[RT,Q0,Q1,Q2,Q3,Q4,Q5,Q6,Q7,Q8]
   rw[if_neg (fun z=>z.2 q2)]
   exact m2
 rw[if_pos ⟨q1,q2⟩]
 simp only[RT,Q0,Q1,Q2,Q3,Q4,Q5,Q6,Q7,Q8,hfa,ld,DT q1,DT (show ¬(r.step=3)from q2)]
 obtain⟨_,A1,n1,rfl,n2⟩:=Ap4 (A:=A)
 by_cases q3:K=0/\r.step=0
 . obtain⟨w,B,i1,i2⟩:=Ar0 (k:=0) (n2.wf hw) (h.fr0 n2) (by omega) Ad3 (by omega)
   have i1:EvF TP HH 84 [.ptr rp 0,.int .i64 0,.agg (bc n32)] A1 w B:=i1
   obtain⟨y1,y2⟩:=hr.vote (k:=0) (by omega) n32
   obtain⟨w',C,m1,m2⟩:=fin (aJ.br hw n2 i2) y1 (by omega)
   simp only[RT,Q0,Q1,Q2,Q3,Q4,Q5,Q6,Q7,Q8,DT q3.1,hfa,ld,DT q3.2]
   refine Aa0 n1 ?_
   simp only[RT,Q0,Q1,Q2,Q3,Q4,Q5,Q6,Q7,Q8]
   refine Aa0 i1 ?_
   simp only[RT,Q0,Q1,Q2,Q3,Q4,Q5,Q6,Q7,Q8]
   refine Aa0 m1 ?_
   simp only[RT,Q0,Q1,Q2,Q3,Q4,Q5,Q6,Q7,Q8]
   rw[if_pos q3]
   exact m2
 rw[if_neg q3]
 by_cases q4:K=1/\r.step=1
 . obtain⟨w,B,i1,i2⟩:=Ar0 (k:=1) (n2.wf hw) (h.fr0 n2) (by omega) Ad3 (by omega)
   have i1:EvF TP HH 84 [.ptr rp 0,.int .i64 1,.agg (bc n32)] A1 w B:=i1
   obtain⟨y1,y2⟩:=hr.vote (k:=1) (by omega) n32
   obtain⟨w',C,m1,m2⟩:=fin (aJ.br hw n2 i2) y1 (by omega)
   simp only[RT,Q0,Q1,Q2,Q3,Q4,Q5,Q6,Q7,Q8,DF (show ¬(K=0) by omega),hfa,ld,DT q4.1,DT q4.2]
   refine Aa0 n1 ?_
   simp only[RT,Q0,Q1,Q2,Q3,Q4,Q5,Q6,Q7,Q8]
   refine Aa0 i1 ?_
   simp only[RT,Q0,Q1,Q2,Q3,Q4,Q5,Q6,Q7,Q8]
   refine Aa0 m1 ?_
   simp only[RT,Q0,Q1,Q2,Q3,Q4,Q5,Q6,Q7,Q8]
   rw[if_pos q4]
   exact m2
 rw[if_neg q4]
 have mR:=hr.now
 by_cases q5:K=2
 . subst q5
   have q1':R=r.now:=q1
   obtain⟨w,B,i1,i2⟩:=Ay8 hw h hr (R:=R+1) (by omega) (by omega) (by omega)
   obtain⟨y1,y2⟩:=hr.begin (R:=R+1) (by omega)
   obtain⟨w',C,m1,m2⟩:=fin i2 y1 (by omega)
   have wr:IntKind.i64.wrap (R+1)=R+1:=Ac6 (by omega) (by omega)
   simp only[RT,Q0,Q1,Q2,Q3,Q4,Q5,Q6,Q7,Q8,wr]
   refine Aa0 i1 ?_
   simp only[RT,Q0,Q1,Q2,Q3,Q4,Q5,Q6,Q7,Q8]
   refine Aa0 m1 ?_
   simp only[RT,Q0,Q1,Q2,Q3,Q4,Q5,Q6,Q7,Q8]
   exact m2
 rw[if_neg q5]
 obtain⟨w,C,m1,m2⟩:=fin (.da h) hr (by omega)
 by_cases c0:K=0
 . have c1:¬r.step=0:=fun z=>q3 ⟨c0,z⟩
   subst c0
   simp only[RT,Q0,Q1,Q2,Q3,Q4,Q5,Q6,Q7,Q8,hfa,ld,DF c1]
   refine Aa0 m1 ?_
   simp only[RT,Q0,Q1,Q2,Q3,Q4,Q5,Q6,Q7,Q8]
   exact m2
 by_cases c1:K=1
 . have c2:¬r.step=1:=fun z=>q4 ⟨c1,z⟩
   subst c1
   simp only[RT,Q0,Q1,Q2,Q3,Q4,Q5,Q6,Q7,Q8,hfa,ld,DF c2]
   refine Aa0 m1 ?_
   simp only[RT,Q0,Q1,Q2,Q3,Q4,Q5,Q6,Q7,Q8]
   exact m2
 simp only[RT,Q0,Q1,Q2,Q3,Q4,Q5,Q6,Q7,Q8,DF c0,DF c1,DF q5]
 refine Aa0 m1 ?_
 simp only[RT,Q0,Q1,Q2,Q3,Q4,Q5,Q6,Q7,Q8]
 exact m2
end
end Go.Sv.Tryz
namespace Go.Sv.Tryz
open Go Go.Proofs
section
variable {A A' B:AS} {rp cp:Nat} {r r':Rd} {vb:Nat->Nat} {fk fa fk' fa':Option Nat} {kv av:V}
theorem B24(b:Nat):ae TP 123 (.ptr b 0) 0=some (.ptr b 0)/\ae TP 123 (.ptr b 0) 1=some (.ptr b 1)/\ae TP 123 (.ptr b 0) 2=some (.ptr b 2)/\ae TP 123 (.ptr b 0) 3=some (.ptr b 3)/\ae TP 123 (.ptr b 0) 4=some (.ptr b 4):=⟨by kernel_rfl,by kernel_rfl,by kernel_rfl,by kernel_rfl,by kernel_rfl⟩
theorem AS5{A:AS}{b:Nat}{k:BK}{a:Act}(hb:A.blk[b]?=some ⟨aX a,k⟩)(h:a.id.length=32):aa TP 3 (.ptr b 0) A=some (.int .i64 a.kind)/\aa TP 3 (.ptr b 1) A=some (.int .i64 a.round)/\aa TP 3 (.ptr b 2) A=some (.int .i64 a.num)/\aa TP 3 (.ptr b 3) A=some (.int .i64 a.valid)/\aa TP 30 (.ptr b 4) A=some (.agg (bc a.id)):=
 ⟨by rw[Ab2 ag3 hb];rfl,by rw[Ab2 ag3 hb];rfl,by rw[Ab2 ag3 hb];rfl,by rw[Ab2 ag3 hb];rfl,At.load hb (o:=4) ⟨[.int .i64 a.kind,.int .i64 a.round,.int .i64 a.num,.int .i64 a.valid],[],by simp[aX],rfl⟩ Av4 Ap3 (by rw[Aa7,h])⟩
set_option maxRecDepth 10000 in
set_option maxHeartbeats 16000000 in
theorem AF0(hw:WF A)(h:a4 A rp r cp vb fk fa)(hr:Rng r){a:Act}(hid:a.id.length=32):∃w A',EvF TP HH 56 [.ptr rp 0,.agg (aX a)] A w A'/\aY A rp cp vb fk fa A' (r.cI a):=by
 refine Aa4 rfl Tryz.func56 (by unfold Tryz.f56;rfl) Tryz.ntmps56 (by unfold Tryz.f56;rfl) (by simp) ?_
 simp only[RT,Q0,Q1,Q2,Q3,Q4,Q5,Q6,Q7,Q8]
 obtain⟨A1,e1,f1,r1,n1⟩:=Aa3 A (aX a)
 rw[<- e1]
 have h1:=h.fr0 f1
 have w1:=f1.wf hw
 have hfa:=AB9 rp
 have fA:=B24 A.blk.length
 have la:=AS5 r1 hid
 unfold Rd.cI
 by_cases q1:a.round<0
 . simp only[RT,Q0,Q1,Q2,Q3,Q4,Q5,Q6,Q7,Q8,fA,la,DT q1]
   rw[if_pos (.inl q1)]
   exact .of0 h f1
 by_cases q2:a.round>=12
 . simp only[RT,Q0,Q1,Q2,Q3,Q4,Q5,Q6,Q7,Q8,fA,la,DF q1,DT q2]
   rw[if_pos (.inr (.inl q2))]
   exact .of0 h f1
 by_cases q3:a.id=z32
 . simp only[RT,Q0,Q1,Q2,Q3,Q4,Q5,Q6,Q7,Q8,fA,la,DF q1,DF q2,Ad8,eqZ hid Aa9,DT q3]
   rw[if_pos (.inr (.inr q3))]
   exact .of0 h f1
 rw[if_neg (by rintro(z |z |z);exact q1 z;exact q2 z;exact q3 z)]
 obtain⟨i,hi⟩:=Int.eq_ofNat_of_zero_le (show 0<=a.round by omega)
 have dW:i<12:=by omega
 have hin:a.round.toNat=i:=by rw[hi];rfl
 obtain⟨kv,av,b1,b2,b3⟩:=h1.box
 have ld:=Ap1 b1 h1.ok
 have hof:=Cf4 b1 h1.ok dW
 have fo:=Cg6 rp (103+i*34)
 have lai:aa TP 3 (.ptr A.blk.length 1) A1=some (.int .i64 (i:Int)):=by rw[la.2.1,hi]
 have nrp:A.blk.length≠rp:=by obtain⟨kv,av,b,_⟩:=h.box;have:=Ab3 b;omega
 by_cases k1:a.kind=1
 . rw[if_pos k1]
   rw[hin]
   simp only[RT,Q0,Q1,Q2,Q3,Q4,Q5,Q6,Q7,Q8,fA,la,DF q1,DF q2,Ad8,eqZ hid Aa9,DF q3,DT k1]
   rw[BU8,Aa2 (by rfl)]
   cases qt:(r.offers i).there with
   |true =>
    rw[qt]at hof
    simp only[RT,Q0,Q1,Q2,Q3,Q4,Q5,Q6,Q7,Q8,fA,lai,hfa,Bf3 dW,fo,hof]
    rw[if_neg (fun z=>by simp at z)]
    exact .of0 h f1
   |false =>
    rw[qt]at hof
    by_cases q4:a.valid>=0
    rotate_left
    . simp only[RT,Q0,Q1,Q2,Q3,Q4,Q5,Q6,Q7,Q8,fA,lai,la,hfa,Bf3 dW,fo,hof,DF q4]
      rw[if_neg (fun z=>q4 z.1)]
      exact .of0 h f1
    by_cases q5:a.valid<=a.round
    rotate_left
    . simp only[RT,Q0,Q1,Q2,Q3,Q4,Q5,Q6,Q7,Q8,fA,lai,la,hfa,Bf3 dW,fo,hof,DT q4,DF (show ¬a.valid<=(i:Int) by omega)]
      rw[if_neg (fun z=>q5 z.2)]
      exact .of0 h f1
    obtain⟨C,s1,s2,s3⟩:=Cg7 b1 h1.ok (o:=⟨true,a.valid,a.id⟩) hid dW
    have hC:a4 C rp { r with offers:=fM r.offers i ⟨true,a.valid,a.id⟩ } cp vb fk fa:=h1.upd b1 b2 b3 s2 s3 rfl rfl rfl rfl { h.ok with offers:=AO6 h.ok.offers hid }
    simp only[RT,Q0,Q1,Q2,Q3,Q4,Q5,Q6,Q7,Q8,fA,lai,la,hfa,Bf3 dW,fo,hof,DT q4,DT (show a.valid<=(i:Int) by omega)]
    rw[BU9,Aa2 (by rfl)]
    simp only[RT,Q0,Q1,Q2,Q3,Q4,Q5,Q6,Q7,Q8,fA,lai,la,Br9 hid,hfa,Bf3 dW,s1]
    rw[if_pos ⟨q4,q5⟩]
    exact aY.br hw f1 (.upd s2 hC)
 rw[if_neg k1]
 by_cases k2:a.kind=2
 rotate_left
 . rw[if_neg k2]
   simp only[RT,Q0,Q1,Q2,Q3,Q4,Q5,Q6,Q7,Q8,fA,la,DF q1,DF q2,Ad8,eqZ hid Aa9,DF q3,DF k1,DF k2]
   exact .of0 h f1
 rw[if_pos k2]
 obtain⟨_,A2,p1,p2,rfl,p3⟩:=AN7 w1 h1.cnt a.round a.num r.me hid
 have h2:=h1.pz p2 p3
 have w2:=p2.wf w1
 have f2:Fr (rdS A1 rp vb fk fa) A1 A2:=p2.mono fun _ q=>.inr (.inl q)
 have r2:=p2.row _ _ r1 (fun⟨j,hj,q⟩=>h1.cnt.ju hj r1 (by injection q with q;exact q.symm))
 have la2:=AS5 r2 hid
 simp only[RT,Q0,Q1,Q2,Q3,Q4,Q5,Q6,Q7,Q8,fA,la,DF q1,DF q2,Ad8,eqZ hid Aa9,DF q3,DF k1,DT k2]
 rw[BV0,Aa2 (by rfl)]
 simp only[RT,Q0,Q1,Q2,Q3,Q4,Q5,Q6,Q7,Q8,fA,la,hfa,ld]
 refine Aa0 p1 ?_
 by_cases qp:cT r.n r.v a.round a.num r.me a.id=0
 rotate_left
 . have ev:dG r.n r.v a.round a.num r.me a.id=r.v:=by unfold dG;rw[if_neg qp]
   rw[ev]at h2
   simp only[RT,Q0,Q1,Q2,Q3,Q4,Q5,Q6,Q7,Q8,DT (show ¬(cT r.n r.v a.round a.num r.me a.id=0)from qp)]
   rw[if_pos qp]
   exact aY.br hw f1 (aY.next w1 f2 (.inl rfl) (.inl rfl) (.da h2))
 rw[if_neg (show ¬(cT r.n r.v a.round a.num r.me a.id≠0)from fun z=>z qp)]
 obtain⟨kv2,av2,c1,c2,c3⟩:=h2.box
 have ld2:=Ap1 c1 h2.ok
 simp only[RT,Q0,Q1,Q2,Q3,Q4,Q5,Q6,Q7,Q8,DF (show ¬ ¬(cT r.n r.v a.round a.num r.me a.id=0)from fun z=>z qp),fA,la2,hfa,ld2]
 by_cases qn:a.round<r.now
 . simp only[RT,Q0,Q1,Q2,Q3,Q4,Q5,Q6,Q7,Q8,DT qn]
   rw[if_pos qn]
   exact aY.br hw f1 (aY.next w1 f2 (.inl rfl) (.inl rfl) (.da h2))
 rw[if_neg qn]
 have qT:a.num=0∨a.num=1:=by
  unfold cT at qp
  split at qp
  . simp at qp
  . rename_i w
    have:right r.n a.round a.num r.me:=Decidable.not_not.1 fun w3=>w (.inl w3)
    exact this.2.2.1
 have wn:IntKind.i64.wrap (1+a.num)=1+a.num:=Ac6 (by omega) (by omega)
 obtain⟨A3,s1,s2,s3⟩:=(AC0 c1 h2.ok a.round).1
 have h3:=h2.upd (r':={ r with v:=dG r.n r.v a.round a.num r.me a.id,now:=a.round }) c1 c2 c3 s2 s3 rfl rfl rfl rfl { h2.ok with }
 have c2':=c2.fr s2 (.box c1)
 have c3':=c3.fr s2 (.box c1)
 obtain⟨A4,t1,t2,t3⟩:=(AC0 s3 h3.ok (1+a.num)).2.1
 have h4:=h3.upd (r':={ r with v:=dG r.n r.v a.round a.num r.me a.id,now:=a.round,step:=1+a.num }) s3 c2' c3' t2 t3 rfl rfl rfl rfl { h3.ok with }
 have la3:=AS5 (s2.aq r2 nrp) hid
 have la4:=AS5 (t2.aq (s2.aq r2 nrp) nrp) hid
 have w3:=s2.wf w2
 have w4:=t2.wf w3
 have step4:∀{A':AS} {r':Rd},aY A4 rp cp vb fk fa A' r'->aY A rp cp vb fk fa A' r':=fun k=>aY.br hw f1 (aY.next w1 f2 (.inl rfl) (.inl rfl) (aY.next w2 (s2.mono fun _ q=>.inl q) (.inl rfl) (.inl rfl) (aY.next w3 (t2.mono fun _ q=>.inl q) (.inl rfl) (.inl rfl) k)))
 simp only[RT,Q0,Q1,Q2,Q3,Q4,Q5,Q6,Q7,Q8,DF qn,BV1,fA,la2,wn,hfa,s1,Aa1]
 refine⟨Aa5 (ha:=rfl) rfl la3.2.2.1 rfl Aa1,?_⟩
 simp only[RT,Q0,Q1,Q2,Q3,Q4,Q5,Q6,Q7,Q8,hfa,t1,Aa1,BV2,fA,la4]
 by_cases m1:a.num=1
 rotate_left
 . simp only[RT,Q0,Q1,Q2,Q3,Q4,Q5,Q6,Q7,Q8,DF m1,Aa1]
   refine⟨Ad0 rfl rfl rfl rfl Aa1,?_⟩
   rw[if_neg (fun z=>m1 z.1)]
   exact step4 (.da h4)
 obtain⟨_,A5,n1,rfl,n2⟩:=Ap4 (A:=A4)
 have r5:=n2.af (t2.aq (s2.aq r2 nrp) nrp)
 have la5:=AS5 r5 hid
 simp only[RT,Q0,Q1,Q2,Q3,Q4,Q5,Q6,Q7,Q8,DT m1,fA,la4,Aa1]
 refine Aa0 n1 ?_
 have h5:=h4.fr0 n2
 obtain⟨kv5,av5,d1,d2,d3⟩:=h5.box
 have w5:=n2.wf w4
 by_cases m2:a.id=n32
 . simp only[RT,Q0,Q1,Q2,Q3,Q4,Q5,Q6,Q7,Q8,Aa1,eqZ hid Ad3,DT m2]
   refine⟨Ac4 rfl rfl rfl rfl rfl la5.2.2.2.2 rfl Aa1,?_⟩
   rw[if_neg (fun z=>z.2 m2)]
   exact step4 (.of0 h4 n2)
 have wr:IntKind.i64.wrap (a.round+1)=a.round+1:=Ac6 (by omega) (by omega)
 obtain⟨B1,x1,x2,x3⟩:=(AC0 d1 h5.ok (a.round+1)).2.2.1
 have i1:=h5.upd (r':={ r with v:=dG r.n r.v a.round a.num r.me a.id,now:=a.round,step:=1+a.num,locked:=a.round+1 }) d1 d2 d3 x2 x3 rfl rfl rfl rfl { h5.ok with }
 have d2':=d2.fr x2 (.box d1)
 have d3':=d3.fr x2 (.box d1)
 obtain⟨B2,y1,y2,y3⟩:=(BX6 x3 i1.ok hid).1
 have i2:=i1.upd (r':={ r with v:=dG r.n r.v a.round a.num r.me a.id,now:=a.round,step:=1+a.num,locked:=a.round+1,lock:=a.id }) x3 d2' d3' y2 y3 rfl rfl rfl rfl { i1.ok with lock:=hid }
 have d2':=d2'.fr y2 (.box x3)
 have d3':=d3'.fr y2 (.box x3)
 obtain⟨B3,z1,z2,z3⟩:=(AC0 y3 i2.ok (a.round+1)).2.2.2
 have i3:=i2.upd (r':={ r with v:=dG r.n r.v a.round a.num r.me a.id,now:=a.round,step:=1+a.num,locked:=a.round+1,lock:=a.id,valid:=a.round+1 }) y3 d2' d3' z2 z3 rfl rfl rfl rfl { i2.ok with }
 have d2':=d2'.fr z2 (.box y3)
 have d3':=d3'.fr z2 (.box y3)
 obtain⟨B4,u1,u2,u3⟩:=(BX6 z3 i3.ok hid).2.1
 have i4:=i3.upd (r':={ r with v:=dG r.n r.v a.round a.num r.me a.id,now:=a.round,step:=1+a.num,locked:=a.round+1,lock:=a.id,valid:=a.round+1,a7:=a.id }) z3 d2' d3' u2 u3 rfl rfl rfl rfl { i3.ok with a7:=hid }
 have lb1:=AS5 (x2.aq r5 nrp) hid
 have lb2:=AS5 (y2.aq (x2.aq r5 nrp) nrp) hid
 have lb3:=AS5 (z2.aq (y2.aq (x2.aq r5 nrp) nrp) nrp) hid
 simp only[RT,Q0,Q1,Q2,Q3,Q4,Q5,Q6,Q7,Q8,Aa1,eqZ hid Ad3,DF m2]
 refine⟨Ac4 rfl rfl rfl rfl rfl la5.2.2.2.2 rfl Aa1,?_⟩
 simp only[RT,Q0,Q1,Q2,Q3,Q4,Q5,Q6,Q7,Q8,BB0,fA,la5,wr,hfa,x1,Aa1]
 refine⟨Aa5 (ha:=rfl) rfl lb1.2.2.2.2 rfl <| Aa5 (ha:=rfl) rfl lb1.2.1 rfl <| Aa5 (ha:=rfl) rfl lb1.2.2.2.2 rfl Aa1,?_⟩
 simp only[RT,Q0,Q1,Q2,Q3,Q4,Q5,Q6,Q7,Q8,hfa,y1,Aa1]
 refine⟨Aa5 (ha:=rfl) rfl lb2.2.1 rfl <| Aa5 (ha:=rfl) rfl lb2.2.2.2.2 rfl Aa1,?_⟩
 simp only[RT,Q0,Q1,Q2,Q3,Q4,Q5,Q6,Q7,Q8,hfa,z1,Aa1]
 refine⟨Aa5 (ha:=rfl) rfl lb3.2.2.2.2 rfl Aa1,?_⟩
 simp only[RT,Q0,Q1,Q2,Q3,Q4,Q5,Q6,Q7,Q8,hfa,u1,Aa1]
 rw[if_pos ⟨m1,m2⟩]
 have r_:∀{X Y:AS} {s:Rd} {s':Rd},WF X->Fr (·=.row rp) X Y->aY Y rp cp vb fk fa B4 s'->aY X rp cp vb fk fa B4 s':=fun hX hf k=>aY.next (r':=_) hX (hf.mono fun _ q=>.inl q) (.inl rfl) (.inl rfl) k
 have wx:=x2.wf w5
 have wy:=y2.wf wx
 exact step4 (aY.br w4 n2 (r_ (s:=r) w5 x2 (r_ (s:=r) wx y2 (r_ (s:=r) wy z2 (.upd u2 i4)))))
theorem Rng.lR{r:Rd}(hr:Rng r)(a:Act):Rng (r.cI a)/\(r.cI a).al=r.al:=by
 unfold Rd.cI
 split
 . exact⟨hr,rfl⟩
 rename_i q
 have q1:0<=a.round/\a.round<12:=by
  refine⟨Int.not_lt.1 fun w=>q (.inl w),Int.not_le.1 fun w=>q (.inr (.inl w))⟩
 split
 . split
   . rename_i w
     exact⟨{ hr with offers:=An2 hr.offers ⟨w.2.1,by show a.valid<=1000;have:=w.2.2;omega⟩ },rfl⟩
   . exact⟨hr,rfl⟩
 split
 . split
   . exact⟨hr,rfl⟩
   . rename_i qp
     have qp:cT r.n r.v a.round a.num r.me a.id=0:=Decidable.not_not.1 qp
     have qT:a.num=0∨a.num=1:=by
      unfold cT at qp
      split at qp
      . simp at qp
      . rename_i w
        have:right r.n a.round a.num r.me:=Decidable.not_not.1 fun w3=>w (.inl w3)
        exact this.2.2.1
     simp only[]
     split
     . exact⟨{ hr with },rfl⟩
     . have h1:Rng { r with v:=dG r.n r.v a.round a.num r.me a.id,now:=a.round,step:=1+a.num }:={ hr with now:=⟨by show -1<=a.round;omega,q1.2⟩,step:=⟨by show 0<=1+a.num;omega,by show 1+a.num<=3;omega⟩ }
       split
       . exact⟨{ h1 with locked:=⟨by show 0<=a.round+1;omega,by show a.round+1<=1000;omega⟩,valid:=⟨by show 0<=a.round+1;omega,by show a.round+1<=1000;omega⟩ },rfl⟩
       . exact⟨h1,rfl⟩
 . exact⟨hr,rfl⟩
end
end Go.Sv.Tryz
