/- The document's core: a message is heard. -/
import Derived.Test.YtnikcplcdapjhaaGreatGe
import Derived.Test.YtnikcplcdapjhaaGreatSv4
import Derived.Test.YtnikcplcdapjhaaGreatGa
open Go.Proofs.Tryz renaming prog → TP
set_option linter.unusedSimpArgs false
set_option linter.unusedVariables false
open Nat renaming reduceLT → Q0, reduceBEq → Q1, reduceEqDiff → Q2, reduceAdd → Q3
open Int renaming reduceEq → Q4, reduceLT → Q5, reduceLE → Q6, reduceGT → Q7, reduceGE → Q8
namespace Go.Sv.Tryz
open Go Go.Proofs
section
variable {X Y Z:Nat->Prop} {A B C D:AS} {c c':Co} {s:RcV} {w:V} {b:Nat} {r:Rd} {S:Loc->Prop} {fo fo2:Option Nat} {N N':Nat}
theorem Bj5{b9 b3:Nat}{x:Rd×List Act}{u7 v7 v:V}{l:List Act}(hw:WF D)(hX:∀f,X f->f<D.blk.length)(hC:CxZ (xo X fo) Z D b3 c')(hR:ke (xz (xo X fo) Z) N D x (.tup [u7,v7]))(hz:D.blk[b9]?=some ⟨rrZ.cs,.var⟩)(hne:b3≠b9)(hN:N<=D.blk.length)
 (hv:Lst dp Hp.emp D v l fo) (hfo:∀f,fo=some f->¬X f/\N<=f) (hl:l.length+x.2.length<=10000000):
 ∃D1 D2 v3 D3 fo3,ag TP 36 (.ptr b9 0) u7 D=some D1/\aa TP 36 (.ptr b9 0) D1=some u7/\ag TP 36 (.ptr b3 0) u7 D1=some D2/\aR TP 34 34 v v7 D2=some (v3,D3)
  /\ Cx (xo X fo3) D3 b3 { c' with rd:=x.1 }/\Lst dp Hp.emp D3 v3 (l++x.2) fo3/\(∀f,fo3=some f->¬X f/\N<=f)/\(∀{A:AS},WF A->Fr S0 A D->A.blk.length<=b9->A.blk.length<=b3->A.blk.length<=N->Fr S0 A D3)/\(D.blk.length<=D3.blk.length/\∀{v:V} {l:List bj} {g:Option Nat},Lst dQ Hp.emp D v l g->(∀f,g=some f->fo≠some f)->Lst dQ Hp.emp D3 v l g)/\∀(b:Nat) cs,D.blk[b]?=some ⟨cs,.var⟩->b≠b9->b≠b3->D3.blk[b]?=some ⟨cs,.var⟩:=by
 obtain⟨u7',v7',fo7,e,h7,hv7,hn7⟩:=hR
 cases e
 obtain⟨D1,t1,t2,t3,t4⟩:=h7.fin hw hz
 have w1:=t3.wf hw
 have hb8:=hC.row hw hz t3 hne
 obtain⟨c8,q8,_⟩:=hb8.cx.box
 obtain⟨D2,p1,p2,p3⟩:=hb8.nG w1 t4 fun f q=>(hn7 f q).1
 have w2:=p2.wf w1
 have hv9:=(hv.fr t3 (.box hz)).fr p2 (.box q8)
 have oK:=(hv7.fr t3 (.box hz)).fr p2 (.box q8)
 obtain⟨v3,D3,fo3,x1,x2,x3,x4⟩:=Bj2 w2 hv9 oK hl
 have hT:Tch (xo (xo X fo) fo7) D2 (aI D2 fo):=Tch.lX fun f q=>.inl (.inr q)
 have l2:D.blk.length<=D2.blk.length:=Nat.le_trans t3.len p2.len
 refine⟨D1,D2,v3,D3,fo3,t1,t2,p1,x1,p3.cx.go w2 x3 hT ?_ (fun f q=>?_) (fun f q=>?_),x2,fun f q=>?_,fun wA hf h9 h3 hn=>?_,⟨Nat.le_trans l2 x3.len,fun hg hd=>?_⟩,fun b cs hb k9 k3=>?_⟩
 . obtain⟨cs,q,_⟩:=p3.cx.box;exact Ab0 q
 . rcases q with q |q
   . exact .inl (.inl (.inl q))
   . exact(x4.or q).imp (fun q=>.inl (.inr q)) id
 . rcases q with q |q
   . exact Nat.lt_of_lt_of_le (hX f q) (Nat.le_trans l2 x3.len)
   . exact x2.bO f q
 . rcases x4.or q with z |z
   . exact hfo f z
   . exact⟨fun y=>by have:=hX f y;omega,by omega⟩
 . exact((hf.ar t3 h9).ar p2 h3).eh wA x3 fun f q=>Nat.le_trans hn (hfo f q).2
 . refine((hg.fr t3 (.box hz)).fr p2 (.box q8)).fr x3 ?_
   cases fo with
   |none=>exact fun _ q=>q.elim
   |some f=>exact Off.fam fun q=>hd f q rfl
 . exact x3.row _ _ (p2.aq (t3.aq hb k9) k3) (Ab0 (p2.aq (t3.aq hb k9) k3))
def Pre(X:Nat->Prop)(N:Nat)(B:AS)(b3:Nat)(v:V)(c:Co)(l:List Act):Prop:=∃fo,Cx (xo X fo) B b3 c/\Lst dp Hp.emp B v l fo/\∀f,fo=some f->¬X f/\N<=f
theorem xo0(h:Cx X A b c):Cx (xo X none) A b c:=h.sub fun f q=>q.elim id fun q=>by cases q
theorem Pre.nil(h:Cx X A b c):Pre X N A b .ah c []:=⟨none,xo0 h,.nil,fun f q=>by cases q⟩
theorem Cn2{m:Hp}{v:V}{l:List Int}(hm:m.on A)(h:Slc (eInt .i64) m v l){j:Nat}{p:Int}(hp:l[j]?=some p):∃b o,aj TP 39 v (.int .i64 (j:Int))=some (.ptr b o)/\aa TP 3 (.ptr b o) A=some (.int .i64 p):=by
 obtain⟨b,o,w,g1,g2,g3⟩:=h.at (P:=TP) (k:=.i64) hm Tryz.underlying39 sz3 ag3 hp
 rw[B77.1 g3]at g2
 exact⟨b,o,g1,g2⟩
theorem Cn3{m:Hp}{v:V}{l:List Bts}(hm:m.on A)(h:Slc eId m v l){j:Nat}{p:Bts}(hp:l[j]?=some p):∃b o,aj TP 32 v (.int .i64 (j:Int))=some (.ptr b o)/\aa TP 30 (.ptr b o) A=some (.agg (bc p))/\p.length=32:=by
 obtain⟨b,o,w,g1,g2,g3⟩:=h.at (P:=TP) (k:=.i64) hm Tryz.underlying32 Ap3 Av4 hp
 obtain⟨rfl,g4⟩:=Bf8.1 g3
 exact⟨b,o,g1,g2,g4⟩
theorem Au4(hr:Rng c.rd)(ha:c.rd.al=[])(hk:eI c)(who:Int)(ids:List Bts):∀i,Rng (c.cf who ids i).1.rd/\(c.cf who ids i).1.rd.al=[]/\(c.cf who ids i).2.length<=2000*i/\eI (c.cf who ids i).1/\(c.cf who ids i).1.bat=c.bat
 | 0=>⟨hr,ha,by simp[Co.cf],hk,rfl⟩
 |i+1=>by
  obtain⟨h1,h2,h3,h4,h5⟩:=Au4 hr ha hk who ids i
  rw[Az0]
  generalize c.cf who ids i=s at h1 h2 h3 h4 h5 ⊢
  unfold Co.fy
  split
  . exact⟨h1,h2,by omega,h4,h5⟩
  . obtain⟨y1,y2,y3⟩:=h1.dm ((i/2:Nat):Int) ((i%2:Nat):Int) who ((ids[i]?).getD z32)
    rw[h2]at y2
    refine⟨y1,y3,?_,{ h4 with },h5⟩
    rw[List.length_append]
    have y2:=Nat.le_trans y2 (show([]:List Act).length+2000<=2000 by simp)
    omega
theorem B53:bsl TP 39 0 (some [])=some (.aB [] 0 1):=by kernel_rfl
theorem B54(k:Int):bsl TP 39 1 (some [(0,.int .i64 k)])=some (.aB [.int .i64 k] 1 1):=by kernel_rfl
set_option maxRecDepth 20000 in
set_option maxHeartbeats 64000000 in
theorem Cn4{m:Hp}{x:M}{dv iv lv:V}{who:Int}(hw:WF A)(hX:∀f,X f->f<A.blk.length)(h:RCs X A c w)(hr:Rng c.rd)(ha:c.rd.al=[])(hk:eI c)(hl:c.bat.length<=10000)(hg:c.cG.length<=10000)(hm:m.on A)(hx:cw m x dv iv lv)(hil:x.ids.length<=1000000)(hdl:x.data.length<=1000000000):
 ∃u A',EvF TP HH 11 [w,.int .i64 who,.agg (mc x dv iv lv)] A u A'/\Fr S0 A A'/\MOu X A.blk.length A' (c.kG who x) u:=by
 refine Aa4 rfl Tryz.func11 (by unfold Tryz.f11;rfl) Tryz.ntmps11 (by unfold Tryz.f11;rfl) (by simp) ?_
 obtain⟨cs,rfl,A1,e1,f1,hB1⟩:=h.new
 obtain⟨b3,hb3⟩:∃b,b=A.blk.length:=⟨_,rfl⟩
 rw[<- hb3]at hB1
 obtain⟨A2,e2,f2,r5,n2⟩:=Aa3 A1 (mc x dv iv lv)
 obtain⟨b5,hb5⟩:∃b,b=A1.blk.length:=⟨_,rfl⟩
 rw[<- hb5]at r5
 obtain⟨A3,e3,f3,r6,n3⟩:=Aa3 A2 rcZ
 obtain⟨b6,hb6⟩:∃b,b=A2.blk.length:=⟨_,rfl⟩
 rw[<- hb6]at r6
 have l3:b3<b5/\b5<b6:=by have:=hB1.lt;have:=Ab3 r5;omega
 have f13:=(f1.ab f2).ab f3
 have w3:=f13.wf hw
 have hB3:=(hB1.fr0 f2).fr0 f3
 have r5':=f3.af r5
 obtain⟨s,hb,hI⟩:=hB3
 have hB3:Cx X A3 b3 c:=⟨s,hb,hI⟩
 have fa:=Bf4 b3
 have fr:=AJ1 b3
 have fm:=faM b5
 have ld:=At4 hb hI
 have lm:=ldM r5' hx.id
 have hlnD:=fun B=>hx.data.len (P:=TP) Tryz.underlying45 B
 have hlnI:=fun B=>hx.ids.len (P:=TP) Tryz.underlying32 B
 have hX3:∀{B:AS},Fr S0 A B->∀f,X f->f<B.blk.length:=fun {B} hf f q=>Nat.lt_of_lt_of_le (hX f q) hf.len
 have deafF:∃u D,aa TP 41 (.ptr b3 0) A3=some u/\ag TP 41 (.ptr b6 0) u A3=some D/\aa TP 41 (.ptr b6 0) D=some u/\Fr S0 A D/\MOu X b3 D (c,[]) (.tup [u,.ah]):=by
  obtain⟨u,o1,o2⟩:=hB3.out
  obtain⟨u1,v1,D,hu,y1,y2,y3,y4⟩:=(o2.none (N:=b3)).fin w3 r6 Ad9
  cases hu
  exact⟨u,D,o1,y1,y2,f13.ar y3 (by omega),y4⟩
 have tailF:∀{B:AS} {v:V} {c':Co} {l:List Act},Fr S0 A B->B.blk[b6]?=some ⟨rcZ,.var⟩->Pre X b3 B b3 v c' l->Rng c'.rd->eI c'->c'.bat.length<=100000->l.length<=1000000->∃u B2 u10 v11 D,aa TP 41 (.ptr b3 0) B=some u/\EvF TP HH 34 [u,v] B (.tup [u10,v11]) B2/\ag TP 41 (.ptr b6 0) u10 B2=some D/\aa TP 41 (.ptr b6 0) D=some u10/\Fr S0 A D/\MOu X b3 D (c'.act l) (.tup [u10,v11]):=by
  intro B v c' l hf hz ⟨fo,hp1,hp2,hp3⟩ hr' hk' hb' hl'
  have wB:=hf.wf hw
  obtain⟨u,o1,o2⟩:=hp1.out
  have hX1:∀f,xo X fo f->f<B.blk.length:=fun f q=>q.elim (hX3 hf f) (hp2.bO f)
  obtain⟨_,B2,m1,m2,hM⟩:=B47 (m:=dq B) wB hX1 o2 hr' hk' hb' (Ai2 B) (hp2.gK (fun b cs q=>by cases q)) hl'
  have hM:=hM.sub (Y:=X) (N':=b3) (fun f q=>.inl q) (by rw[hb3];exact hf.len)
  obtain⟨u10,v11,D,rfl,d1,d2,d3,d4⟩:=hM.fin (m2.wf wB) (m2.af hz) Ad9
  exact⟨u,B2,u10,v11,D,o1,m1,d1,d2,(hf.ab m2).ar d3 (by omega),d4⟩
 obtain⟨ud,Dd,dd1,dd2,dd3,dd4,dd5⟩:=deafF
 simp only[RT,Q0,Q1,Q2,Q3,Q4,Q5,Q6,Q7,Q8,<- e1,<- hb3]
 simp only[RT,Q0,Q1,Q2,Q3,Q4,Q5,Q6,Q7,Q8,<- hb5,<- e2]
 simp only[RT,Q0,Q1,Q2,Q3,Q4,Q5,Q6,Q7,Q8,Bc5,<- hb6,<- e3,fm,fa,fr,ld,lm]
 unfold Co.kG
 by_cases q1:x.ai=c.rd.ai
 rotate_left
 . simp only[RT,Q0,Q1,Q2,Q3,Q4,Q5,Q6,Q7,Q8,DT (show ¬x.ai=c.rd.ai from q1),dd1,dd2,dd3]
   rw[if_pos (.inl q1)]
   exact⟨dd4,dd5⟩
 by_cases q2:who<0
 . simp only[RT,Q0,Q1,Q2,Q3,Q4,Q5,Q6,Q7,Q8,DF (show ¬ ¬x.ai=c.rd.ai from fun z=>z q1),DT q2,dd1,dd2,dd3]
   rw[if_pos (.inr (.inl q2))]
   exact⟨dd4,dd5⟩
 by_cases q3:who>=c.rd.n
 . simp only[RT,Q0,Q1,Q2,Q3,Q4,Q5,Q6,Q7,Q8,DF (show ¬ ¬x.ai=c.rd.ai from fun z=>z q1),DF q2,fa,fr,ld,DT q3,dd1,dd2,dd3]
   rw[if_pos (.inr (.inr (.inl q3)))]
   exact⟨dd4,dd5⟩
 by_cases q4:who=c.rd.me
 . simp only[RT,Q0,Q1,Q2,Q3,Q4,Q5,Q6,Q7,Q8,DF (show ¬ ¬x.ai=c.rd.ai from fun z=>z q1),DF q2,fa,fr,ld,DF q3,DT q4,dd1,dd2,dd3]
   rw[if_pos (.inr (.inr (.inr (.inl q4))))]
   exact⟨dd4,dd5⟩
 by_cases q5:x.data.length>4096
 . simp only[RT,Q0,Q1,Q2,Q3,Q4,Q5,Q6,Q7,Q8,DF (show ¬ ¬x.ai=c.rd.ai from fun z=>z q1),DF q2,fa,fr,ld,fm,lm,hlnD,DF q3,DF q4,DT (show(x.data.length:Int)>4096 by omega),dd1,dd2,dd3]
   rw[if_pos (.inr (.inr (.inr (.inr q5))))]
   exact⟨dd4,dd5⟩
 rw[if_neg (by rintro(z |z |z |z |z);exact z q1;exact q2 z;exact q3 z;exact q4 z;exact q5 z)]
 simp only[RT,Q0,Q1,Q2,Q3,Q4,Q5,Q6,Q7,Q8,DF (show ¬ ¬x.ai=c.rd.ai from fun z=>z q1),DF q2,fa,fr,ld,fm,lm,hlnD,DF q3,DF q4,DF (show ¬(x.data.length:Int)>4096 by omega)]
 have hcv:∀{B:AS},Fr S0 A B->cnv TP 45 9 (some dv) B=some (.val (.str x.data)):=fun {B} hf=>Ah2 (by decide) hx.data (hm.fr0 hf) Tryz.underlying45 Tryz.underlying5 Tryz.underlying9
 have hX4:x.data.length<=1000000:=by omega
 by_cases k3:x.kind=3
 . rw[if_pos k3]
   have hno:∀P:Prop,P->(c.nL who x)->P:=fun _ h _=>h
   by_cases d1:x.round<0
   . simp only[RT,Q0,Q1,Q2,Q3,Q4,Q5,Q6,Q7,Q8,DT k3,fm,lm,DT d1,dd1,dd2,dd3]
     rw[if_pos (.inl d1)]
     exact⟨dd4,dd5⟩
   by_cases d2:x.round>=12
   . simp only[RT,Q0,Q1,Q2,Q3,Q4,Q5,Q6,Q7,Q8,DT k3,fm,lm,DF d1,DT d2,dd1,dd2,dd3]
     rw[if_pos (.inr (.inl d2))]
     exact⟨dd4,dd5⟩
   have hn:(c.rd.n:Int)<=7/\(0:Int)<=c.rd.n:=by have:=hI.rr.n;unfold okN at this;omega
   obtain⟨_,_,p1,hA,rfl⟩:=Am6 A3 (n:=c.rd.n) (h:=c.rd.ai) (k:=x.round) hn.1 hn.2
   rw[hA]at p1
   simp only[RT,Q0,Q1,Q2,Q3,Q4,Q5,Q6,Q7,Q8,DT k3,fm,lm,DF d1,DF d2,fa,fr,ld]
   refine Aa0 p1 ?_
   by_cases d3:aP c.rd.n c.rd.ai x.round=who
   rotate_left
   . simp only[RT,Q0,Q1,Q2,Q3,Q4,Q5,Q6,Q7,Q8,DT (show ¬(aP (c.rd.n:Int) c.rd.ai x.round=who)from d3),dd1,dd2,dd3]
     rw[if_pos (.inr (.inr (.inl d3)))]
     exact⟨dd4,dd5⟩
   obtain⟨lo,hSo,hO⟩:=hI.rr.ov
   have hol:=hO.len
   obtain⟨_,_,m1,hE,rfl⟩:=Ak3 (R:=x.round) (Ab5 X A3) hSo (by omega)
   rw[hE]at m1
   simp only[RT,Q0,Q1,Q2,Q3,Q4,Q5,Q6,Q7,Q8,DF (show ¬ ¬(aP (c.rd.n:Int) c.rd.ai x.round=who)from fun z=>z d3),fa,fr,ld,fm,lm]
   refine Aa0 m1 ?_
   rcases OLn.eZ hO x.round with⟨hth,hpl⟩ |⟨hth,_,_,j,p,hpl,hjp,hfp⟩
   rotate_left
   . simp only[RT,Q0,Q1,Q2,Q3,Q4,Q5,Q6,Q7,Q8,hpl,DT (show(j:Int)>=0 by omega),dd1,dd2,dd3]
     rw[if_pos (.inr (.inr (.inr hth)))]
     exact⟨dd4,dd5⟩
   rw[if_neg (by rintro(z |z |z |z);exact d1 z;exact d2 z;exact z d3;rw[hth]at z;cases z)]
   unfold Co.nK
   obtain⟨u,o1,o2⟩:=hB3.out
   obtain⟨_,A4,g4,f4,u4,v4,fo,rfl,h4,hv4,hn4⟩:=A77 (t:=x.data) w3 o2 hr ha (by omega) (by omega)
   obtain⟨z1,z2,z3,z4,z5⟩:=AC8 hr ha hk hX4
   have f14:=f13.ab f4
   have w4:=f14.wf hw
   obtain⟨cB,qB,lB⟩:=(hB3.fr0 f4).box
   obtain⟨A5,s1,_,s2,s3,_⟩:=h4.put w4 qB lB
   have f15:=f14.ar s2 (by omega)
   have w5:=f15.wf hw
   have hv5:=hv4.fr s2 (.box qB)
   have r55:=s2.aq (f4.af r5') (by omega)
   have r65:=s2.aq (f4.af r6) (by omega)
   obtain⟨s5,mQ,Z,hZ⟩:=s3
   have s3:CxZ (xo X fo) Z A5 b3 (c.a6 x.data).1:=⟨s5,mQ,hZ⟩
   have ld5:=At4 mQ ⟨Z,hZ⟩
   have lm5:=ldM r55 hx.id
   obtain⟨A6,e6,f6,r9,n6⟩:=Aa3 A5 rrZ.cs
   obtain⟨b9,hb9⟩:∃b,b=A5.blk.length:=⟨_,rfl⟩
   rw[<- hb9]at r9
   have l9:b6<b9:=by have:=Ab3 r65;omega
   have w6:=f6.wf w5
   obtain⟨_,A7,k7,f7,rfl⟩:=rId (s:=x.data) w6 (by omega)
   have f57:=f6.ab f7
   have f17:=f15.ab f57
   have w7:=f17.wf hw
   have ld7:=At4 (f57.af mQ) (bW.fr0 ⟨Z,hZ⟩ f57)
   have lm7:=ldM (f57.af r55) hx.id
   obtain⟨_,A8,k8,f8,hR⟩:=Bt6 (R:=x.round) (W:=x.valid) (id:=az x.data) w7 (⟨_,_,_,_,_,rfl,(hZ.fr0 f57).rr.fresh z3 f17.len⟩:RRs (xz (xo X fo) Z) A.blk.length A7 (c.a6 x.data).1.rd (.agg (s5.rr (c.a6 x.data).1.rd))) z1 (Ab4 x.data) (by rw[z3];simp)
   obtain⟨y1,y2,y3⟩:=z1.bZ x.round x.valid (az x.data)
   rw[z3]at y2
   have y2:((c.a6 x.data).1.rd.bZ x.round x.valid (az x.data)).2.length<=2000:=by simpa using y2
   have f18:=f17.ab f8
   have f58:=f57.ab f8
   obtain⟨u8,v8,_,rfl,_⟩:=id hR
   obtain⟨D1,D2,v9,D3,fo3,t1,t2,t3,t4,t5,t6,t7,t8,t10,t9⟩:=Bj5 (f18.wf hw) (hX3 f18) (s3.fr0 f58) hR (f8.af (f7.af r9)) (by omega) f18.len (hv5.fr0 f58) (fun f q=>⟨(hn4 f q).1,by have:=(hn4 f q).2;have:=f13.len;omega⟩) (by omega)
   have f1D:=t8 hw f18 (by omega) (by omega) (Nat.le_refl _)
   have rD6:=t9 b6 _ (f58.af r65) (by omega) (by omega)
   obtain⟨u10,B2,u11,v11,D,x1,x2,x3,x4,x5,x6⟩:=tailF f1D rD6 ⟨fo3,t5,t6,by rw[hb3];exact t7⟩ y1 z4.rd (by have:=z5;show(c.a6 x.data).1.bat.length<=_;omega) (by rw[List.length_append];omega)
   simp only[RT,Q0,Q1,Q2,Q3,Q4,Q5,Q6,Q7,Q8,hpl,DF (show ¬(-1:Int)>=0 by omega),o1,fm,lm,hcv f13]
   refine Aa0 g4 ?_
   simp only[RT,Q0,Q1,Q2,Q3,Q4,Q5,Q6,Q7,Q8,s1]
   simp only[RT,Q0,Q1,Q2,Q3,Q4,Q5,Q6,Q7,Q8,BS0,fa,ld5,fm,lm5,hcv f15,AI9,Aa1]
   simp only[RT,Q0,Q1,Q2,Q3,Q4,Q5,Q6,Q7,Q8,<- hb9,<- e6]
   refine Aa0 k7 ?_
   simp only[RT,Q0,Q1,Q2,Q3,Q4,Q5,Q6,Q7,Q8]
   refine⟨Aa5 (ha:=rfl) rfl ld7.2.2.2.2.2.2.2.2.2.2.2.2.1 rfl <| Aa5 (ha:=rfl) rfl lm7.2.2.2.1 rfl <| Aa5 (ha:=rfl) rfl lm7.2.2.2.2.1 rfl Aa1,?_⟩
   refine Aa0 k8 ?_
   simp only[RT,Q0,Q1,Q2,Q3,Q4,Q5,Q6,Q7,Q8,t1,Aa1,t2,fa,t3,t4,x1]
   refine Aa0 x2 ?_
   simp only[RT,Q0,Q1,Q2,Q3,Q4,Q5,Q6,Q7,Q8,x3,x4]
   exact⟨x5,x6⟩
 rw[if_neg k3]
 by_cases k4:x.kind=4
 . rw[if_pos k4]
   simp only[RT,Q0,Q1,Q2,Q3,Q4,Q5,Q6,Q7,Q8,DF k3,DT k4]
   refine Aa6 (fun z e B=>∃(i:Nat) (v:V),z=x.ids.length-i/\i<=x.ids.length/\i<=24/\e.get 11=.int .i64 i/\e.get 1=.int .i64 who/\e.get 3=.ptr b3 0/\e.get 5=.ptr b5 0/\e.get 6=.ptr b6 0/\e.get 8=v/\Fr S0 A B/\B.blk[b5]?=some ⟨mc x dv iv lv,.var⟩/\B.blk[b6]?=some ⟨rcZ,.var⟩/\Pre X b3 B b3 v (c.cf who x.ids i).1 (c.cf who x.ids i).2)
    (fun z e B=>Is z (.exit 1)/\∃(v:V),e.get 3=.ptr b3 0/\e.get 6=.ptr b6 0/\e.get 8=v/\Fr S0 A B/\B.blk[b6]?=some ⟨rcZ,.var⟩/\Pre X b3 B b3 v (c.eK who x.ids).1 (c.eK who x.ids).2)
    ⟨_,0,.ah,rfl,by omega,by omega,rfl,rfl,rfl,rfl,rfl,rfl,f13,r5',r6,.nil hB3⟩ ?_ ?_
   rotate_left
   . rintro z e B hz ⟨rfl,v,g3,g6,g8,hf,rb6,hP⟩
     obtain⟨y1,y2,y3,y4,y5⟩:=Au4 hr ha hk who x.ids (min x.ids.length 24)
     obtain⟨u10,B2,u11,v11,D,x1,x2,x3,x4,x5,x6⟩:=tailF hf rb6 hP y1 y4 (by show(c.cf who x.ids (min x.ids.length 24)).1.bat.length<=_;rw[y5];omega) (by show(c.cf who x.ids (min x.ids.length 24)).2.length<=_;omega)
     simp only[RT,Q0,Q1,Q2,Q3,Q4,Q5,Q6,Q7,Q8,g3,g8,x1]
     refine Aa0 x2 ?_
     simp only[RT,Q0,Q1,Q2,Q3,Q4,Q5,Q6,Q7,Q8,g6,x3,x4]
     exact⟨x5,x6⟩
   rintro z e B ⟨i,v,rfl,hi,sR,g11,g1,g3,g5,g6,g8,hf,rb5,rb6,hP⟩
   have wB:=hf.wf hw
   have lmB:=ldM rb5 hx.id
   have hwi:IntKind.i64.wrap ((i:Int)+1)=((i+1:Nat):Int):=by rw[Ac2 (by omega)]
   obtain⟨y1,y2,y3,y4,y5⟩:=Au4 hr ha hk who x.ids i
   have em:=Az0 c who x.ids i
   by_cases c1:i<x.ids.length
   rotate_left
   . have e:c.eK who x.ids=c.cf who x.ids i:=by unfold Co.eK;rw[Nat.min_eq_left (by omega),show x.ids.length=i by omega]
     simp only[RT,Q0,Q1,Q2,Q3,Q4,Q5,Q6,Q7,Q8,g11,g5,fm,lmB,hlnI,DF (show ¬(i:Int)<(x.ids.length:Int) by omega)]
     rw[e]
     exact⟨rfl,v,g3,g6,g8,hf,rb6,hP⟩
   by_cases c2:i<24
   rotate_left
   . have e:c.eK who x.ids=c.cf who x.ids i:=by unfold Co.eK;rw[Nat.min_eq_right (by omega),show i=24 by omega]
     simp only[RT,Q0,Q1,Q2,Q3,Q4,Q5,Q6,Q7,Q8,g11,g5,fm,lmB,hlnI,DT (show(i:Int)<(x.ids.length:Int) by omega),DF (show ¬(i:Int)<24 by omega)]
     rw[e]
     exact⟨rfl,v,g3,g6,g8,hf,rb6,hP⟩
   obtain⟨y,hy⟩:=Ac7 (l:=x.ids) (i:=i) c1
   obtain⟨bb,oo,i1,i2,i3⟩:=Cn3 (hm.fr0 hf) hx.ids hy
   have hgd:(x.ids[i]?).getD z32=y:=by rw[hy];rfl
   obtain⟨s0,hs0⟩:∃s0,s0=c.cf who x.ids i:=⟨_,rfl⟩
   rw[<- hs0]at hP y1 y2 y3 y4 y5 em
   have e1:Co.fy who x.ids s0 i=if y=z32∨dN s0.1.rd.n s0.1.rd.v ((i/2:Nat):Int) ((i%2:Nat):Int) who≠z32 then s0 else({ s0.1 with rd:=(s0.1.rd.dm ((i/2:Nat):Int) ((i%2:Nat):Int) who y).1 },s0.2++(s0.1.rd.dm ((i/2:Nat):Int) ((i%2:Nat):Int) who y).2):=by
    unfold Co.fy;rw[hgd]
   rw[e1]at em
   clear e1 hgd
   have d1:aw TP .quo 3 (.int .i64 (i:Int)) (.int .i64 2)=some (.int .i64 ((i/2:Nat):Int)):=AA0 _ 2 (by decide) (by omega)
   have d2:aw TP .rem 3 (.int .i64 (i:Int)) (.int .i64 2)=some (.int .i64 ((i%2:Nat):Int)):=Av1 _ 2 (by decide)
   obtain⟨fo,hP1,hP2,hP3⟩:=hP
   obtain⟨Z,hPZ⟩:=hP1.z
   obtain⟨sB,hbB,hIB⟩:=hPZ
   have hPZ:CxZ (xo X fo) Z B b3 s0.1:=⟨sB,hbB,hIB⟩
   have ldB:=At4 hbB ⟨Z,hIB⟩
   by_cases c3:y=z32
   . rw[if_pos (.inl c3)]at em
     simp only[RT,Q0,Q1,Q2,Q3,Q4,Q5,Q6,Q7,Q8,g11,g5,fm,lmB,hlnI,DT (show(i:Int)<(x.ids.length:Int) by omega),DT (show(i:Int)<24 by omega),i1,i2,Ad8,eqZ i3 Aa9,DT c3,hwi]
     refine⟨x.ids.length-(i+1),by omega,i+1,v,rfl,by omega,by omega,rfl,?_⟩
     rw[em]
     exact⟨g1,g3,g6,g8,hf,rb5,rb6,fo,hP1,hP2,hP3⟩
   obtain⟨lv',hSv,hVv⟩:=cD.vv (bW.rr ⟨Z,hIB⟩)
   have hn7:s0.1.rd.n<=7:=by have:=(bW.rr ⟨Z,hIB⟩).n;unfold okN at this;omega
   have hlv:=hVv.len hn7
   obtain⟨_,C,j1,j2,rfl⟩:=Aq8 (r:=((i/2:Nat):Int)) (k:=((i%2:Nat):Int)) (w0:=who) (Ab5 _ B) hSv (by omega)
   have hgl:=Aw0 (Ab5 _ B) hSv ((i/2:Nat):Int) ((i%2:Nat):Int) who
   rw[hVv.vl.get]at j1 hgl
   have hfC:=hf.ab j2
   simp only[RT,Q0,Q1,Q2,Q3,Q4,Q5,Q6,Q7,Q8,g11,g5,fm,lmB,hlnI,DT (show(i:Int)<(x.ids.length:Int) by omega),DT (show(i:Int)<24 by omega),i1,i2,Ad8,eqZ i3 Aa9,DF c3,g3,fa,fr,ldB,d1,d2,g1]
   refine Aa0 j1 ?_
   by_cases c4:dN s0.1.rd.n s0.1.rd.v ((i/2:Nat):Int) ((i%2:Nat):Int) who=z32
   rotate_left
   . rw[if_pos (.inr c4)]at em
     simp only[RT,Q0,Q1,Q2,Q3,Q4,Q5,Q6,Q7,Q8,Ad8,eqZ hgl Aa9,DF c4,Bool.not_false,g11,hwi]
     refine⟨x.ids.length-(i+1),by omega,i+1,v,rfl,by omega,by omega,rfl,?_⟩
     rw[em]
     exact⟨g1,g3,g5,g6,g8,hfC,j2.af rb5,j2.af rb6,fo,hP1.fr0 j2,hP2.fr0 j2,hP3⟩
   rw[if_neg (by rintro(z |z);exact c3 z;exact z c4)]at em
   have wC:=hfC.wf hw
   obtain⟨bb',oo',i1',i2',i3'⟩:=Cn3 (hm.fr0 hfC) hx.ids hy
   rw[i1]at i1';cases i1'
   have ldC:=At4 (j2.af hbB) (bW.fr0 ⟨Z,hIB⟩ j2)
   have lmC:=ldM (j2.af rb5) hx.id
   obtain⟨C1,e6,f6,r12,n6⟩:=Aa3 C rrZ.cs
   obtain⟨b12,nN⟩:∃b,b=C.blk.length:=⟨_,rfl⟩
   rw[<- nN]at r12
   have l12:b6<b12:=by have:=Ab3 (j2.af rb6);omega
   have w6:=f6.wf wC
   have fB6:=j2.ab f6
   have f16:=hfC.ab f6
   obtain⟨_,A8,k8,f8,hR⟩:=B23 (R:=((i/2:Nat):Int)) (K:=((i%2:Nat):Int)) (W:=who) (id:=y) w6 (⟨_,_,_,_,_,rfl,(hIB.fr0 fB6).rr.fresh y2 f16.len⟩:RRs (xz (xo X fo) Z) A.blk.length C1 s0.1.rd (.agg (sB.rr s0.1.rd))) y1 i3 (by rw[y2];simp)
   obtain⟨o1,o2,o3⟩:=y1.dm ((i/2:Nat):Int) ((i%2:Nat):Int) who y
   rw[y2]at o2
   have o2:(s0.1.rd.dm ((i/2:Nat):Int) ((i%2:Nat):Int) who y).2.length<=2000:=by simpa using o2
   have f18:=f16.ab f8
   have fB8:=fB6.ab f8
   obtain⟨u8,v8,_,rfl,_⟩:=id hR
   obtain⟨D1,D2,v9,D3,fo3,t1,t2,t3,t4,t5,t6,t7,t8,t10,t9⟩:=Bj5 (f18.wf hw) (hX3 f18) (hPZ.fr0 fB8) hR (f8.af r12) (by omega) f18.len (hP2.fr0 fB8) (fun f q=>⟨(hP3 f q).1,by have:=(hP3 f q).2;omega⟩) (by omega)
   have f1D:=t8 hw f18 (by omega) (by omega) (Nat.le_refl _)
   simp only[RT,Q0,Q1,Q2,Q3,Q4,Q5,Q6,Q7,Q8,Ad8,eqZ hgl Aa9,DT c4,Bool.not_true,BA0,g3,fa,ldC,g11,d1,d2,g1,g5,fm,lmC,i1,i2',AI9,Aa1]
   simp only[RT,Q0,Q1,Q2,Q3,Q4,Q5,Q6,Q7,Q8,<- nN,<- e6]
   refine Aa0 k8 ?_
   simp only[RT,Q0,Q1,Q2,Q3,Q4,Q5,Q6,Q7,Q8,t1,Aa1,t2,g3,fa,t3,g8,t4,g11,hwi]
   refine⟨x.ids.length-(i+1),by omega,i+1,v9,rfl,by omega,by omega,rfl,?_⟩
   rw[em]
   exact⟨g1,g5,g6,rfl,f1D,t9 b5 _ (fB8.af rb5) (by omega) (by omega),t9 b6 _ (fB8.af rb6) (by omega) (by omega),fo3,t5,t6,by rw[hb3];exact t7⟩
 rw[if_neg k4]
 by_cases k5:x.kind=5
 rotate_left
 . rw[if_neg k5]
   obtain⟨u10,B2,u11,v11,D,x1,x2,x3,x4,x5,x6⟩:=tailF f13 r6 (.nil hB3) hr hk (by omega) (by simp)
   simp only[RT,Q0,Q1,Q2,Q3,Q4,Q5,Q6,Q7,Q8,DF k3,DF k4,DF k5,x1]
   refine Aa0 x2 ?_
   simp only[RT,Q0,Q1,Q2,Q3,Q4,Q5,Q6,Q7,Q8,x3,x4]
   exact⟨x5,x6⟩
 rw[if_pos k5]
 have hlnG:=fun B=>hI.gs.len (P:=TP) Tryz.underlying39 B
 simp only[RT,Q0,Q1,Q2,Q3,Q4,Q5,Q6,Q7,Q8,DF k3,DF k4,DT k5]
 refine Aa6 (fun z e B=>∃(j:Nat),z=c.cG.length-j/\j<=c.cG.length/\e.get 14=.int .i64 j/\(¬who∈c.cG.take j)/\e.get 1=.int .i64 who/\e.get 3=.ptr b3 0/\e.get 5=.ptr b5 0/\e.get 6=.ptr b6 0/\Is B A3)
  (fun z e B=>(Is z (.exit 3)/\e.get 1=.int .i64 who/\e.get 3=.ptr b3 0/\e.get 5=.ptr b5 0/\e.get 6=.ptr b6 0/\Is B A3/\¬who∈c.cG)∨(Is z .ret/\e.get 6=.ptr b6 0/\e.get 7=.ah/\Is B Dd/\who∈c.cG))
  ⟨_,0,rfl,by omega,rfl,by simp,rfl,rfl,rfl,rfl,rfl⟩ ?_ ?_
 . rintro z e B ⟨j,rfl,hj,g14,hno,g1,g3,g5,g6,rfl⟩
   simp only[RT,Q0,Q1,Q2,Q3,Q4,Q5,Q6,Q7,Q8,g14,g3,fa,ld,hlnG]
   refine Aa8 (fun q1=>?_) (fun q1=>?_)
   rotate_left
   . have:j=c.cG.length:=by omega
     subst this
     rw[List.take_length]at hno
     simp only[RT,Q0,Q1,Q2,Q3,Q4,Q5,Q6,Q7,Q8]
     exact .inl ⟨rfl,g1,g3,g5,g6,rfl,hno⟩
   obtain⟨p,hp⟩:=Ac7 (l:=c.cG) (i:=j) (by omega)
   obtain⟨bb,o,i1,i2⟩:=Cn2 (Ab5 X _) hI.gs hp
   have hwi:IntKind.i64.wrap ((j:Int)+1)=((j+1:Nat):Int):=by rw[Ac2 (by omega)]
   by_cases c1:p=who
   . simp only[RT,Q0,Q1,Q2,Q3,Q4,Q5,Q6,Q7,Q8,g3,fa,ld,g14,i1,i2,g1,DT c1,dd1,g6,dd2]
     exact .inr ⟨rfl,rfl,by rw[<- c1];exact List.mem_of_getElem? hp⟩
   . simp only[RT,Q0,Q1,Q2,Q3,Q4,Q5,Q6,Q7,Q8,g3,fa,ld,g14,i1,i2,g1,DF c1,hwi]
     refine⟨c.cG.length-(j+1),by omega,j+1,rfl,by omega,rfl,fun hq=>?_,?_⟩
     . rw[Ab6 hp]at hq
       rcases List.mem_append.1 hq with hq |hq
       . exact hno hq
       . exact c1 (List.mem_singleton.1 hq).symm
     . first |exact⟨g5,g6,rfl⟩ |exact⟨g1,g5,g6,rfl⟩ |exact⟨g1,g3,g5,g6,rfl⟩ |exact⟨g1,g5,g6⟩ |exact⟨g5,g6⟩ |exact⟨g3,g5,g6⟩
 rintro z e B hz (⟨rfl,g1,g3,g5,g6,rfl,hno⟩ |⟨rfl,g6,g7,rfl,hin⟩)
 rotate_left
 . simp only[RT,Q0,Q1,Q2,Q3,Q4,Q5,Q6,Q7,Q8,g6,g7,dd3]
   rw[if_pos hin]
   exact⟨dd4,dd5⟩
 rw[if_neg hno]
 unfold Co.ks
 obtain⟨v1,B1,v2,B2,p1,p2,p3,p4,hS2⟩:=Aq9 (P:=TP) (t:=39) (e:=3) (n:=1) (y:=who) (cs':=[.int .i64 who]) rfl (fun _ _ _ _ h=>h) CE3 w3 (Ab5 X _) hI.gs rfl (by omega) (by omega)
 have lP:=(At4 ((Fr.aF B []).af hb) (hI.fr0 (Fr.aF B []))).2.2.2.2.2.2.2.2.2.1
 obtain⟨C,t1,t2,t3⟩:=hB3.pH w3 p4 hS2
 have wB2:=p4.wf w3
 have fC:=(f13.ab p4).ar t2 (by omega)
 have wC:=fC.wf hw
 have rC5:=t2.aq (p4.af r5') (by omega)
 have rC6:=t2.aq (p4.af r6) (by omega)
 have lmC:=ldM rC5 hx.id
 obtain⟨u,o1,o2⟩:=t3.out
 obtain⟨_,A4,g4,f4,u4,v4,fo,rfl,h4,hv4,hn4⟩:=A77 (t:=x.data) wC o2 hr ha (by show x.data.length<=_;omega) (by show c.bat.length<=_;omega)
 obtain⟨z1,z2,z3,z4,z5⟩:=AC8 (c:={ c with cG:=c.cG++[who] }) hr ha { hk with } hX4
 have w4:=f4.wf wC
 obtain⟨cB,qB,lB⟩:=(t3.fr0 f4).box
 obtain⟨A5,s1,_,s2,s3,_⟩:=h4.put w4 qB lB
 have f15:=(fC.ab f4).ar s2 (by omega)
 have hv5:=hv4.fr s2 (.box qB)
 have r65:=s2.aq (f4.af rC6) (by omega)
 obtain⟨u10,D2,u11,v11,D,x1,x2,x3,x4,x5,x6⟩:=tailF f15 r65 ⟨fo,s3,hv5,fun f q=>⟨(hn4 f q).1,by have:=(hn4 f q).2;have:=fC.len;omega⟩⟩ z1 z4 (by have:=z5;have e:({ c with cG:=c.cG++[who] }:Co).bat.length=c.bat.length:=rfl;omega) (by omega)
 simp only[RT,Q0,Q1,Q2,Q3,Q4,Q5,Q6,Q7,Q8,B53,g3,fa,lP,p1,g1,B54,p2,t1,o1,g5,fm,lmC,hcv fC]
 refine Aa0 g4 ?_
 simp only[RT,Q0,Q1,Q2,Q3,Q4,Q5,Q6,Q7,Q8,g3,s1,x1]
 refine Aa0 x2 ?_
 simp only[RT,Q0,Q1,Q2,Q3,Q4,Q5,Q6,Q7,Q8,g6,x3,x4]
 exact⟨x5,x6⟩
end
end Go.Sv.Tryz
namespace Go.Sv
open Go
abbrev ew(now:Int)(x:bj):Prop:=x.1<=now
def cg(now:Int)(l:List bj):List bj:=l.filter fun x=>decide (ew now x)
def jv(now:Int)(l:List bj):List bj:=l.filter fun x=>!decide (ew now x)
theorem A78{now:Int}{x:bj}(h:ew now x):[x].filter (fun x=>!decide (ew now x))=[]:=List.filter_eq_nil_iff.2 fun y hy=>by rw[List.mem_singleton.1 hy,DT h];decide
theorem BK9{now:Int}{x:bj}(h:¬ew now x):[x].filter (fun x=>!decide (ew now x))=[x]:=List.filter_eq_self.2 fun y hy=>by rw[List.mem_singleton.1 hy,DF h];rfl
theorem AP1{now:Int}{x:bj}(h:ew now x):[x].filter (fun x=>decide (ew now x))=[x]:=List.filter_eq_self.2 fun y hy=>by rw[List.mem_singleton.1 hy,DT h]
theorem Bj6{now:Int}{x:bj}(h:¬ew now x):[x].filter (fun x=>decide (ew now x))=[]:=List.filter_eq_nil_iff.2 fun y hy=>by rw[List.mem_singleton.1 hy,DF h];decide
end Go.Sv
namespace Go.Sv.Tryz
open Go Go.Proofs
structure TkE(A:AS)(cb tb ob:Nat)(cs:List V)(l:List bj)(fv:Option Nat):Prop where
 rc:A.blk[cb]?=some ⟨cs,.var⟩
 rt:A.blk[tb]?=some ⟨[.ptr cb 1],.var⟩
 ro:∃ov,A.blk[ob]?=some ⟨[ov],.var⟩/\Lst dQ Hp.emp A ov l fv
 ne:ob≠cb/\ob≠tb
def TkS(A:AS)(ob:Nat)(fv:Option Nat):Loc->Prop:=fun z=>z=.row ob∨aI A fv z
def mW(tb ob:Nat):V:=.fn 82 [] [.ptr tb 0,.ptr ob 0]
section
variable {A B C:AS} {cb tb ob rp mb mg:Nat} {n me hh now:Int} {tv dv:V} {bL:Bool} {l P:List bj} {fv fo fv':Option Nat} {S:Loc->Prop}
theorem TkE.fr{cs:List V}(h:TkE A cb tb ob cs l fv)(hf:Fr S A B)(h1:¬S (.row cb)/\¬S (.row tb)/\¬S (.row ob))(h2:Off fv A S):TkE B cb tb ob cs l fv:=by
 obtain⟨ov,y1,y2⟩:=h.ro
 exact⟨hf.row _ _ h.rc h1.1,hf.row _ _ h.rt h1.2.1,⟨ov,hf.row _ _ y1 h1.2.2,y2.fr hf h2⟩,h.ne⟩
theorem TkE.fr0{cs:List V}(h:TkE A cb tb ob cs l fv)(hf:Fr S0 A B):TkE B cb tb ob cs l fv:=h.fr hf ⟨fun q=>q,fun q=>q,fun q=>q⟩ .s0
theorem TkE.fam{cs:List V}(h:TkE A cb tb ob cs l fv)(hf:Fr (aI A fo) A B)(hd:∀f,fv=some f->fo≠some f):TkE B cb tb ob cs l fv:=by
 obtain⟨ov,y1,y2⟩:=h.ro
 refine h.fr hf ⟨Ab0 h.rc,Ab0 h.rt,Ab0 y1⟩ ?_
 cases fo with
 |none=>exact fun _ q=>q.elim
 |some f=>exact Off.fam fun q=>hd f q rfl
theorem TkS.off(h:∀f,fv=some f->fo≠some f){cs:List V}(hE:TkE A cb tb ob cs l fv):Off fo A (TkS A ob fv):=by
 obtain⟨ov,y1,y2⟩:=hE.ro
 refine Off.or (S:=(·=.row ob)) (T:=aI A fv) (Off.box y1) ?_
 cases fv with
 |none=>exact fun _ q=>q.elim
 |some g=>exact Off.fam fun q=>h g rfl q
theorem Cv6(b:Nat):ae TP 161 (.ptr b 0) 0=some (.ptr b 0)/\ae TP 161 (.ptr b 0) 1=some (.ptr b 1)/\ae TP 161 (.ptr b 0) 2=some (.ptr b 2):=⟨by kernel_rfl,by kernel_rfl,by kernel_rfl⟩
theorem B55{b:Nat}{k:BK}{x:bj}(h:A.blk[b]?=some ⟨de x,k⟩):aa TP 3 (.ptr b 0) A=some (.int .i64 x.1)/\aa TP 3 (.ptr b 1) A=some (.int .i64 x.2.1)/\aa TP 3 (.ptr b 2) A=some (.int .i64 x.2.2)/\aa TP 161 (.ptr b 0) A=some (.agg (de x)):=
 ⟨by rw[Ab2 ag3 h];rfl,by rw[Ab2 ag3 h];rfl,by rw[Ab2 ag3 h];rfl,At.load h (At.all _) BE4 AZ3 rfl⟩
theorem Cn5:(aC TP 161).bind V.cells=some (de (0,0,0)):=Ce9
theorem B56{x:bj}:∃A',ag TP 161 (.ptr A.blk.length 0) (.agg (de x)) (A.push ⟨de (0,0,0),.var⟩)=some A'/\Fr S0 A A'/\A'.blk[A.blk.length]?=some ⟨de x,.var⟩:=by
 obtain⟨A2,s1,s2,s3,s4⟩:=Ag5 (P:=TP) A (z:=de (0,0,0)) (t:=161) (x:=.agg (de x)) (cs:=de x) rfl AZ3 rfl rfl
 exact⟨A2,s1,s2,s3⟩
theorem A79{m:Hp}{w:V}{x:bj}(h:dQ.W m w x):w=.agg (de x):=by
 unfold Enc.W at h
 rw[if_pos (by rfl)]at h
 obtain⟨cs,rfl,h⟩:=h
 rw[show cs=de x from h]
set_option maxRecDepth 10000 in
set_option maxHeartbeats 8000000 in
theorem AL2(hw:WF A)(h:TkE A cb tb ob (coC rp n me hh now tv dv mb mg bL) l fv)(x:bj)(hl:l.length<=1000):
 ∃w A',EvF TP HH 82 [.agg (de x),.ptr tb 0,.ptr ob 0] A w A'/\w=.bool (decide (ew now x))/\Fr (TkS A ob fv) A A'/\∃fv',Gr A fv fv'/\TkE A' cb tb ob (coC rp n me hh now tv dv mb mg bL) (l++cg now [x]) fv':=by
 refine Aa4 rfl Tryz.func82 (by unfold Tryz.f82;rfl) Tryz.ntmps82 (by unfold Tryz.f82;rfl) (by simp) ?_
 obtain⟨A1,e1,f1,r1,n1⟩:=Aa3 A (de x)
 obtain⟨b3,hb3⟩:∃b,b=A.blk.length:=⟨_,rfl⟩
 rw[<- hb3]at r1 n1
 have h1:=h.fr0 f1
 have w1:=f1.wf hw
 have fd:=Cv6 b3
 have ldd:=B55 r1
 have ft:=Cf8 cb
 have lt:=Ab7 (P:=TP) Br2 h1.rt
 have lc:=Ap2 h1.rc
 obtain⟨ov,y1,y2⟩:=h1.ro
 have lo:=Ab7 (P:=TP) Cr3 y1
 by_cases q:ew now x
 rotate_left
 . have e:l++cg now [x]=l:=by unfold cg;rw[Bj6 q,List.append_nil]
   rw[e]
   simp only[RT,Q0,Q1,Q2,Q3,Q4,Q5,Q6,Q7,Q8,<- hb3,<- e1]
   rw[Bp9,Aa2 (by rfl)]
   simp only[RT,Q0,Q1,Q2,Q3,Q4,Q5,Q6,Q7,Q8,fd,ldd,lt,ft,lc,DF q]
   rw[Bq0,Aa2 (by rfl)]
   simp only[RT,Q0,Q1,Q2,Q3,Q4,Q5,Q6,Q7,Q8,fd,ldd,lt,ft,lc,DF q]
   exact⟨f1.mono fun _ q=>q.elim,fv,.da,h1⟩
 have e:l++cg now [x]=l++[x]:=by unfold cg;rw[AP1 q]
 rw[e]
 obtain⟨v',B,fv',p1,p2,p3,p4⟩:=y2.push (P:=TP) (t:=74) (tx:=74) (n:=3) rfl Cx6 Tryz.underlying74 w1 (y:=x) (cs':=de x) rfl (by omega) (by omega)
 have rob:=p3.row _ _ y1 (Ab0 y1)
 obtain⟨C,s1,s2,s3,s4⟩:=Ai6 (P:=TP) (t:=74) (x:=v') rob p2.nO Cx3 p2.one
 have rcC:=s2.row _ _ (p3.row _ _ h1.rc (Ab0 h1.rc)) (fun z=>h.ne.1 (by injection z with z;exact z.symm))
 have rtC:=s2.row _ _ (p3.row _ _ h1.rt (Ab0 h1.rt)) (fun z=>h.ne.2 (by injection z with z;exact z.symm))
 have hob:ob<A.blk.length:=by obtain⟨_,y,_⟩:=h.ro;exact Ab3 y
 have r3:=s2.row _ _ (p3.row _ _ r1 (Ab0 r1)) (fun z=>by injection z with z;omega)
 have lddC:=B55 r3
 have ltC:=Ab7 (P:=TP) Br2 rtC
 have lcC:=Ap2 rcC
 simp only[RT,Q0,Q1,Q2,Q3,Q4,Q5,Q6,Q7,Q8,<- hb3,<- e1]
 rw[Bp9,Aa2 (by rfl)]
 simp only[RT,Q0,Q1,Q2,Q3,Q4,Q5,Q6,Q7,Q8,fd,ldd,lt,ft,lc,DT q,lo,BG4 x,p1,s1]
 rw[Bq0,Aa2 (by rfl)]
 simp only[RT,Q0,Q1,Q2,Q3,Q4,Q5,Q6,Q7,Q8,fd,lddC,ltC,ft,lcC,DT q]
 have fB:Fr (fun z=>z=.row ob∨aI A1 fv z) A1 B:=p3.mono fun z q=>.inr q
 refine⟨(f1.mono (S':=TkS A ob fv) fun _ q=>q.elim).trans (fB.trans s2 fun z q=>.inl (.inl q)) fun z q=>?_,fv',p4.from f1.len,rcC,rtC,⟨v',s3,p2.fr s2 (.box rob)⟩,h.ne⟩
 rcases q with q |q
 . exact .inl (.inl q)
 . exact(Ae7 f1 q).imp .inr id
theorem TkS.back(hw:WF A)(hf:Fr (TkS A ob fv) A B)(g:Gr A fv fv'){z:Loc}(q:TkS B ob fv' z):TkS A ob fv z∨z.dK A:=by
 rcases q with q |q
 . exact .inl (.inl q)
 . rcases g with rfl |⟨rfl,f,rfl,hl⟩
   . exact(Ae7 hf q).imp .inr id
   . right
     cases z with
     |row b =>
      obtain⟨k,base,z1,z2⟩:=q
      show A.blk.length<=b
      apply Nat.not_lt.1;intro w
      obtain⟨cs,k1,k2⟩:=hf.kind b _ (LH w)
      rw[z1]at k1;cases k1
      have:=hw b _ f base (LH w) z2
      omega
     |fam g=>rw[show g=f from q];exact hl
     |map r=>exact q.elim
     |loop r=>exact q.elim
     |it r=>exact q.elim
set_option maxRecDepth 10000 in
set_option maxHeartbeats 8000000 in
theorem A14{lv:V}(hw:WF A)(h:TkE A cb tb ob (coC rp n me hh now tv dv mb mg bL) [] none)(hL:Lst dQ Hp.emp A lv P fo)(hP:P.length<=1000):
 ∃w A',EvF TP HH 101 [lv,mW tb ob] A w A'/\∃fv',Gr A none fv'/\Fr (TkS A ob none) A A'/\((w=.int .i64 (-1)/\(∀x∈P,¬ew now x)/\TkE A' cb tb ob (coC rp n me hh now tv dv mb mg bL) [] fv')∨∃(i:Nat) (x:bj),w=.int .i64 i/\P[i]?=some x/\ew now x/\(∀x∈P.take i,¬ew now x)/\TkE A' cb tb ob (coC rp n me hh now tv dv mb mg bL) [x] fv'):=by
 refine Aa4 rfl Tryz.func101 (by unfold Tryz.f101;rfl) Tryz.ntmps101 (by unfold Tryz.f101;rfl) (by simp) ?_
 have hlen:=fun B=>hL.len (P:=TP) Tryz.underlying74 B
 simp only[RT,Q0,Q1,Q2,Q3,Q4,Q5,Q6,Q7,Q8,hlen]
 refine Aa6 (fun z e B=>∃(i:Nat) (fv':Option Nat),z=P.length-i/\i<=P.length/\e.get 8=.int .i64 i/\e.get 7=.int .i64 P.length/\e.get 0=lv/\e.get 1=mW tb ob/\Gr A none fv'/\Fr (TkS A ob none) A B/\TkE B cb tb ob (coC rp n me hh now tv dv mb mg bL) [] fv'/\∀x∈P.take i,¬ew now x)
  (fun z e B=>∃fv',Gr A none fv'/\Fr (TkS A ob none) A B/\((Is z (.exit 0)/\(∀x∈P,¬ew now x)/\TkE B cb tb ob (coC rp n me hh now tv dv mb mg bL) [] fv')∨(Is z .ret/\∃(i:Nat) (x:bj),e.get 4=.int .i64 i/\P[i]?=some x/\ew now x/\(∀x∈P.take i,¬ew now x)/\TkE B cb tb ob (coC rp n me hh now tv dv mb mg bL) [x] fv')))
  ⟨_,0,none,rfl,by omega,rfl,rfl,rfl,rfl,.da,.refl _ _,h,by simp⟩ ?_ ?_
 rotate_left
 . rintro z e B hz ⟨fv',hg,hf,⟨rfl,hn,hE⟩ |⟨rfl,i,x,h4,hx,hp,hn,hE⟩⟩
   . simp only[RT,Q0,Q1,Q2,Q3,Q4,Q5,Q6,Q7,Q8]
     exact⟨fv',hg,hf,.inl ⟨hn,hE⟩⟩
   . simp only[RT,Q0,Q1,Q2,Q3,Q4,Q5,Q6,Q7,Q8,h4]
     exact⟨fv',hg,hf,.inr ⟨i,x,rfl,hx,hp,hn,hE⟩⟩
 rintro z e B ⟨i,fv',rfl,hi,h8,h7,h0,h1,hg,hf,hE,hn⟩
 simp only[RT,Q0,Q1,Q2,Q3,Q4,Q5,Q6,Q7,Q8,h8,h7]
 refine Aa8 (fun q1=>?_) (fun q1=>?_)
 rotate_left
 . have:i=P.length:=by omega
   subst this
   rw[List.take_length]at hn
   simp only[RT,Q0,Q1,Q2,Q3,Q4,Q5,Q6,Q7,Q8]
   exact⟨fv',hg,hf,.inl ⟨rfl,hn,hE⟩⟩
 obtain⟨x,hx⟩:=Ac7 (l:=P) (i:=i) (by omega)
 have hfo:∀f,fv'=some f->fo≠some f:=fun f q w=>by
  rcases hg.or q with z |z
  . cases z
  . have:=hL.bO f w;omega
 have hLB:=hL.fr hf (TkS.off (fun f q=>by cases q) h)
 obtain⟨bb,o,c,g3,g4,g5⟩:=hLB.at (P:=TP) (k:=.i64) (Hp.ji B) Tryz.underlying74 AZ3 BE4 hx
 rw[A79 g5]at g4
 obtain⟨_,C,k1,rfl,f1,fv2,hg2,hE2⟩:=AL2 (hf.wf hw) hE x (by simp)
 have hwi:IntKind.i64.wrap ((i:Int)+1)=((i+1:Nat):Int):=by rw[Ac2 (by omega)]
 have hfC:=hf.trans f1 fun z q=>TkS.back hw hf hg q
 have hgC:=hg.trans hg2 hf.len
 simp only[RT,Q0,Q1,Q2,Q3,Q4,Q5,Q6,Q7,Q8,h8,h1,mW,h0,g3,g4]
 refine Aa0 k1 ?_
 by_cases c1:ew now x
 . simp only[RT,Q0,Q1,Q2,Q3,Q4,Q5,Q6,Q7,Q8,DT c1,h8]
   have e:[]++cg now [x]=[x]:=by unfold cg;rw[AP1 c1];rfl
   rw[e]at hE2
   refine⟨fv2,hgC,hfC,.inr ⟨rfl,i,x,rfl,hx,c1,hn,hE2⟩⟩
 . have hn':∀y∈P.take (i+1),¬ew now y:=fun y hy=>by
    rw[Ab6 hx]at hy
    rcases List.mem_append.1 hy with hy |hy
    . exact hn y hy
    . rw[List.mem_singleton.1 hy];exact c1
   have e:[]++cg now [x]=[]:=by unfold cg;rw[Bj6 c1];rfl
   rw[e]at hE2
   simp only[RT,Q0,Q1,Q2,Q3,Q4,Q5,Q6,Q7,Q8,DF c1,h8,hwi]
   refine⟨P.length-(i+1),by omega,i+1,fv2,rfl,by omega,?_⟩
   and_intros<;>first |rfl |assumption
set_option maxRecDepth 10000 in
set_option maxHeartbeats 32000000 in
theorem AV1{lv:V}(hw:WF A)(h:TkE A cb tb ob (coC rp n me hh now tv dv mb mg bL) [] none)(hL:Lst dQ Hp.emp A lv P fo)(hP:P.length<=1000):
 ∃w A',EvF TP HH 81 [lv,mW tb ob] A w A'/\∃fv',Gr A none fv'/\Fr (fun z=>z=.row ob∨aI A fo z) A A'/\Lst dQ Hp.emp A' w (jv now P) fo/\TkE A' cb tb ob (coC rp n me hh now tv dv mb mg bL) (cg now P) fv':=by
 refine Aa4 rfl Tryz.func81 (by unfold Tryz.f81;rfl) Tryz.ntmps81 (by unfold Tryz.f81;rfl) (by simp) ?_
 obtain⟨_,A1,k1,fv1,g1,f1,mX⟩:=A14 hw h hL hP
 have f1':Fr (fun z=>z=.row ob∨aI A fo z) A A1:=f1.mono fun z q=>q.elim .inl fun q=>q.elim
 have hL1:=hL.fr f1 (TkS.off (fun f q=>by cases q) h)
 simp only[RT,Q0,Q1,Q2,Q3,Q4,Q5,Q6,Q7,Q8]
 refine Aa0 k1 ?_
 rcases mX with⟨rfl,hno,hE1⟩ |⟨i,x0,rfl,hx0,hp0,hno,hE1⟩
 . have e:jv now P=P:=List.filter_eq_self.2 fun x hx=>by rw[DF (hno x hx)];rfl
   have e2:cg now P=[]:=List.filter_eq_nil_iff.2 fun x hx=>by rw[DF (hno x hx)];decide
   simp only[RT,Q0,Q1,Q2,Q3,Q4,Q5,Q6,Q7,Q8]
   rw[e,e2]
   exact⟨fv1,g1,f1',hL1,hE1⟩
 have hi0:=(LG.1 hx0).1
 have wi:IntKind.i64.wrap ((i:Int)+1)=((i+1:Nat):Int):=by rw[Ac2 (by omega)]
 have hne:¬((i:Int) = -1):=by omega
 simp only[RT,Q0,Q1,Q2,Q3,Q4,Q5,Q6,Q7,Q8,DF hne,wi]
 have pI:(P.take (i+1)).filter (fun x=>!decide (ew now x))=P.take i:=by
  rw[Ab6 hx0,List.filter_append,List.filter_eq_self.2 (fun x hx=>by rw[DF (hno x hx)];rfl),A78 hp0,List.append_nil]
 have pJ:cg now (P.take (i+1))=[x0]:=by
  unfold cg
  rw[Ab6 hx0,List.filter_append,List.filter_eq_nil_iff.2 (fun x hx=>by rw[DF (hno x hx)];decide),AP1 hp0];rfl
 rw[<- pJ]at hE1
 refine Aa6 (fun z e B=>∃(j k:Nat) (cur:List bj) (fv':Option Nat),z=P.length-j/\j<=P.length/\k<j/\cur.length=P.length/\cur.take k=(P.take j).filter (fun x=>!decide (ew now x))/\cur.drop j=P.drop j/\e.get 6=.int .i64 j/\e.get 5=.int .i64 k/\e.get 0=lv/\e.get 1=mW tb ob/\Gr A none fv'/\Fr (fun z=>z=.row ob∨aI A fo z) A B/\Lst dQ Hp.emp B lv cur fo/\TkE B cb tb ob (coC rp n me hh now tv dv mb mg bL) (cg now (P.take j)) fv')
  (fun z e B=>Is z (.exit 0)/\∃(k:Nat) (cur:List bj) (fv':Option Nat),k<=cur.length/\cur.take k=jv now P/\e.get 5=.int .i64 k/\e.get 0=lv/\Gr A none fv'/\Fr (fun z=>z=.row ob∨aI A fo z) A B/\Lst dQ Hp.emp B lv cur fo/\TkE B cb tb ob (coC rp n me hh now tv dv mb mg bL) (cg now P) fv')
  ⟨_,i+1,i,P,fv1,rfl,by omega,by omega,rfl,pI.symm,rfl,rfl,rfl,rfl,rfl,g1,f1',hL1,hE1⟩ ?_ ?_
 . rintro z e B ⟨j,k,cur,fv',rfl,hj,hkj,hcl,htk,hdr,h6,h5,h0,h1,hg,hf,hLB,hE⟩
   have hlen:=fun X=>hLB.len (P:=TP) Tryz.underlying74 X
   rw[hcl]at hlen
   simp only[RT,Q0,Q1,Q2,Q3,Q4,Q5,Q6,Q7,Q8,h6,h0,hlen]
   refine Aa8 (fun q1=>?_) (fun q1=>?_)
   rotate_left
   . have:j=P.length:=by omega
     subst this
     rw[List.take_length]at htk hE
     simp only[RT,Q0,Q1,Q2,Q3,Q4,Q5,Q6,Q7,Q8]
     refine⟨rfl,k,cur,fv',by omega,htk,?_⟩
     and_intros<;>first |rfl |assumption
   have wB:=hf.wf hw
   obtain⟨x,hx⟩:=Ac7 (l:=P) (i:=j) (by omega)
   have hcx:cur[j]?=some x:=by
    have:=congrArg (fun l=>l[0]?) hdr
    simp only[List.getElem?_drop]at this
    rw[Nat.add_zero]at this
    rw[this,hx]
   have rb:cur.drop (j+1)=P.drop (j+1):=by rw[<- List.drop_drop,<- List.drop_drop,hdr]
   obtain⟨bb,o,c,g3,g4,g5⟩:=hLB.at (P:=TP) (k:=.i64) (Hp.ji B) Tryz.underlying74 AZ3 BE4 hcx
   rw[A79 g5]at g4
   have hfo:∀f,fv'=some f->fo≠some f:=fun f q w=>by
    rcases hg.or q with z |z
    . cases z
    . have:=hL.bO f w;omega
   obtain⟨C,s1,s2,s3⟩:=B56 (A:=B) (x:=x)
   have hEC:=hE.fr0 s2
   have hLC:=hLB.fr0 s2
   have ldw:=(B55 s3).2.2.2
   have wC:=s2.wf wB
   obtain⟨_,D,k2,rfl,f2,fv2,hg2,hE2⟩:=AL2 wC hEC x (by have:(cg now (P.take j)).length<=(P.take j).length:=List.length_filter_le _ _;rw[List.length_take]at this;omega)
   have hob:ob<B.blk.length:=by obtain⟨_,y,_⟩:=hE.ro;exact Ab3 y
   have sD:=f2.row _ _ s3 (by
    rintro(q |q)
    . injection q with q;omega
    . exact Ab0 s3 q)
   have ldw2:=(B55 sD).2.2.2
   have hfC:Fr (fun z=>z=.row ob∨aI A fo z) A C:=hf.ab s2
   have hfD:Fr (fun z=>z=.row ob∨aI A fo z) A D:=hfC.trans f2 fun z q=>by
    rcases q with q |q
    . exact .inl (.inl q)
    . right
      cases hfv:fv' with
      |none=>rw[hfv]at q;exact q.elim
      |some f =>
       have hlf:A.blk.length<=f:=by
        rcases hg.or hfv with y |y
        . cases y
        . exact y
       rw[hfv]at q
       cases z with
       |row b =>
        obtain⟨k,base,z1,z2⟩:=q
        show A.blk.length<=b
        apply Nat.not_lt.1;intro w
        obtain⟨cs,y1,y2⟩:=hfC.kind b _ (LH w)
        rw[z1]at y1;cases y1
        have:=hw b _ f base (LH w) z2
        omega
       |fam g=>rw[show g=f from q];exact hlf
       |map r=>exact q.elim
       |loop r=>exact q.elim
       |it r=>exact q.elim
   have wD:=hfD.wf hw
   have hgD:=hg.trans (hg2.from s2.len) hf.len
   have hLD:=hLC.fr f2 (TkS.off hfo hEC)
   have wj:IntKind.i64.wrap ((j:Int)+1)=((j+1:Nat):Int):=by rw[Ac2 (by omega)]
   have wk:IntKind.i64.wrap ((k:Int)+1)=((k+1:Nat):Int):=by rw[Ac2 (by omega)]
   have eo:cg now (P.take (j+1))=cg now (P.take j)++cg now [x]:=by unfold cg;rw[Ab6 hx,List.filter_append]
   rw[<- eo]at hE2
   simp only[RT,Q0,Q1,Q2,Q3,Q4,Q5,Q6,Q7,Q8,h0,h6,g3,g4,Cn5,s1,h1,mW,ldw]
   refine Aa0 k2 ?_
   by_cases c1:ew now x
   . have pK:cur.take k=(P.take (j+1)).filter (fun x=>!decide (ew now x)):=by rw[Ab6 hx,List.filter_append,<- htk,A78 c1,List.append_nil]
     simp only[RT,Q0,Q1,Q2,Q3,Q4,Q5,Q6,Q7,Q8,DT c1,h6,wj]
     refine⟨P.length-(j+1),by omega,j+1,k,cur,fv2,rfl,by omega,by omega,hcl,pK,rb,?_⟩
     and_intros<;>first |rfl |assumption
   . obtain⟨b5,o5,E,t1,t2,t3,t4⟩:=hLD.set (P:=TP) (k:=.i64) Tryz.underlying74 AZ3 (i:=k) (by omega) (x:=x) (xv:=.agg (de x)) (c:=de x) rfl rfl
     have pK:(cur.set k x).take (k+1)=(P.take (j+1)).filter (fun x=>!decide (ew now x)):=by
      rw[Ab6 hx,List.filter_append,<- htk,List.take_set]
      have:(cur.take (k+1)).set k x=cur.take k++[x]:=by
       obtain⟨y,hy⟩:=Ac7 (l:=cur) (i:=k) (by omega)
       rw[Ab6 hy,List.set_append_right _ _ (by rw[List.length_take];omega)]
       rw[List.length_take,show k-min k cur.length=0 by omega];rfl
      rw[this,BK9 c1]
     have sU:(cur.set k x).drop (j+1)=P.drop (j+1):=by rw[List.drop_set_of_lt (by omega),rb]
     have sV:(cur.set k x).length=P.length:=by rw[List.length_set,hcl]
     have fE:Fr (fun z=>z=.row ob∨aI A fo z) A E:=hfD.trans t4 fun z q=>(Ae7 hfD q).imp .inr id
     have jM:∀f,fv2=some f->fo≠some f:=fun f q w=>by
      rcases hgD.or q with z |z
      . cases z
      . have:=hL.bO f w;omega
     have hE3:=hE2.fam t4 jM
     simp only[RT,Q0,Q1,Q2,Q3,Q4,Q5,Q6,Q7,Q8,DF c1,h0,h5,ldw2,t1,t2,wk,h6,wj]
     refine⟨P.length-(j+1),by omega,j+1,k+1,cur.set k x,fv2,rfl,by omega,by omega,sV,pK,sU,?_⟩
     and_intros<;>first |rfl |assumption
 . rintro z e B hz ⟨rfl,k,cur,fv',hk,htk,h5,h0,hg,hf,hLB,hE⟩
   obtain⟨w,u,C,t1,t2,t3,t4,t5⟩:=hLB.nP (P:=TP) (k:=.i64) (k':=.i64) Tryz.underlying74 AZ3 (by decide) Cn5 rfl rfl (by kernel_rfl) (n:=k) hk B
   rw[htk]at t4
   have jM:∀f,fv'=some f->fo≠some f:=fun f q w=>by
    rcases hg.or q with z |z
    . cases z
    . have:=hL.bO f w;omega
   have hE3:=hE.fam t5 jM
   simp only[RT,Q0,Q1,Q2,Q3,Q4,Q5,Q6,Q7,Q8,h0,h5,t1,BR1,t2,t3 C]
   exact⟨fv',hg,hf.trans t5 fun z q=>(Ae7 hf q).imp .inr id,t4,hE3⟩
end
end Go.Sv.Tryz
namespace Go.Sv
open Go
def nrf(A:AS):Loc->Prop
 |.row b=>A.blk.length<=b
 |.fam f=>A.blk.length<=f
 |.map r=>A.maps.length<=r
 | _=>False
theorem TM.re{Bx X Mp Bx' X' Mp':Nat->Prop}{A B:AS}{S:Loc->Prop}(hw:WF A)(hf:Fr S A B)(h1:∀b,Bx' b->Bx b∨A.blk.length<=b)(h2:∀f,X' f->X f∨A.blk.length<=f)(h3:∀r,Mp' r->Mp r∨A.maps.length<=r){x:Loc}(h:TM Bx' X' Mp' B x):TM Bx X Mp A x∨nrf A x:=by
 rcases TM.back hw hf h1 h2 h3 h with q |q
 . exact .inl q
 . cases x<;>first |exact .inr q |exact h.elim
theorem Bc7{A B:AS}{S:Loc->Prop}{fo:Option Nat}(hw:WF A)(hf:Fr S A B)(hfo:∀f,fo=some f->A.blk.length<=f){x:Loc}(q:aI B fo x):nrf A x:=by
 cases h:fo with
 |none=>rw[h]at q;exact q.elim
 |some f =>
  rw[h]at q
  have hlf:=hfo f h
  cases x with
  |row b =>
   obtain⟨k,base,z1,z2⟩:=q
   show A.blk.length<=b
   apply Nat.not_lt.1;intro w
   obtain⟨cs,y1,y2⟩:=hf.kind b _ (LH w)
   rw[z1]at y1;cases y1
   have:=hw b _ f base (LH w) z2
   omega
  |fam g=>rw[show g=f from q];exact hlf
  |map r=>exact q.elim
  |loop r=>exact q.elim
  |it r=>exact q.elim
end Go.Sv
namespace Go.Sv.Tryz
open Go Go.Proofs
section
variable {X Y:Nat->Prop} {A B C:AS} {K:CoK} {c c1 c2:Co} {fk ft fk1 ft1 fk2 ft2 fo fo2:Option Nat} {S:Loc->Prop}
theorem CB3:(aC TP 74).bind V.cells=some [.ah]:=CD8
set_option maxRecDepth 10000 in
set_option maxHeartbeats 8000000 in
theorem AJ2(hw:WF A)(h:bV X A K fk ft c)(hn:c.now<1000000):
 ∃w A',EvF TP HH 45 [.ptr K.cb 1] A w A'/\∃ob ov fv,w=.fn 83 [] [.ptr ob 0]/\aA X A K fk ft A' fk ft none { c with now:=c.now+1,tim:=jv (c.now+1) c.tim }/\A.blk.length<=ob/\A'.blk[ob]?=some ⟨[ov],.var⟩/\Lst dQ Hp.emp A' ov (cg (c.now+1) c.tim) fv/\∀f,fv=some f->A.blk.length<=f:=by
 refine Aa4 rfl Tryz.func45 (by unfold Tryz.f45;rfl) Tryz.ntmps45 (by unfold Tryz.f45;rfl) (by simp) ?_
 obtain⟨A1,e1,f1,r1,n1⟩:=Aa3 A [.ptr K.cb 1]
 obtain⟨tb,htb⟩:∃b,b=A.blk.length:=⟨_,rfl⟩
 rw[<- htb]at r1 n1
 obtain⟨tv,dv,bl,x1,x2,x3,x4,x5,x6⟩:=h.cm.ex
 have hcb:=h.lt.1
 have x1':=f1.af x1
 have ld1:=Ap2 x1'
 have wn:IntKind.i64.wrap (c.now+1)=c.now+1:=Ac6 (by have:=h.lim.now;omega) (by have:=h.lim.now;omega)
 obtain⟨A2,s1,s2,s3⟩:=Cl0 x1' (c.now+1)
 have r2:=s2.row _ _ r1 (fun q=>by injection q with q;omega)
 obtain⟨A3,e3,f3,r3,n3⟩:=Aa3 A2 [.ah]
 obtain⟨ob,hob⟩:∃b,b=A2.blk.length:=⟨_,rfl⟩
 rw[<- hob]at r3 n3
 have hl2:=s2.len
 have w3:=f3.wf (s2.wf (f1.wf hw))
 have x3':=f3.af s3
 have r23:=f3.af r2
 have l3:Lst dQ Hp.emp A3 tv c.tim ft:=((x2.fr0 f1).fr s2 (.box x1')).fr0 f3
 have hE:TkE A3 K.cb tb ob _ [] none:=⟨x3',r23,⟨.ah,r3,.nil⟩,by omega,by omega⟩
 obtain⟨w4,A4,k4,fv,g4,f4,l4,hE4⟩:=AV1 w3 hE l3 (by have:=h.lim.tim;omega)
 obtain⟨A5,t1,t2,t3⟩:=Ck9 hE4.rc l4.one
 obtain⟨ov,y1,y2⟩:=hE4.ro
 have ld3:=Ap2 x3'
 have lt1:=Ab7 (P:=TP) Br2 r1
 have lt3:=Ab7 (P:=TP) Br2 r23
 have lt4:=Ab7 (P:=TP) Br2 hE4.rt
 have ft1:=Cf8 K.cb
 have k4:EvF TP HH 81 [tv,.fn 82 [] [.ptr tb 0,.ptr ob 0]] A3 w4 A4:=k4
 simp only[RT,Q0,Q1,Q2,Q3,Q4,Q5,Q6,Q7,Q8,<- htb,<- e1,lt1,ft1,ld1,wn,s1,CB3]
 simp only[RT,Q0,Q1,Q2,Q3,Q4,Q5,Q6,Q7,Q8,<- hob,<- e3,BT9,Aa1,lt3,ft1,ld3]
 refine Aa0 k4 ?_
 simp only[RT,Q0,Q1,Q2,Q3,Q4,Q5,Q6,Q7,Q8,Aa1]
 refine⟨Aa5 (ha:=rfl) rfl lt4 rfl Aa1,?_⟩
 simp only[RT,Q0,Q1,Q2,Q3,Q4,Q5,Q6,Q7,Q8,ft1,t1,Aa1]
 have hlt:∀f,ft=some f->f<A.blk.length:=x2.bO
 have fA3:Fr (fun z=>z=.row K.cb∨aI A ft z) A A3:=((f1.mono (S':=fun z=>z=.row K.cb∨aI A ft z) fun _ q=>q.elim).trans s2 fun z q=>.inl (.inl q)).ab f3
 have fA4:Fr (fun z=>z=.row K.cb∨aI A ft z) A A4:=fA3.trans f4 fun z q=>by
  rcases q with rfl |q
  . exact .inr (by show A.blk.length<=ob;have:=f1.len;omega)
  . exact(Ae7 fA3 q).imp .inr id
 have fA5:Fr (fun z=>z=.row K.cb∨aI A ft z) A A5:=fA4.trans t2 fun z q=>.inl (.inl q)
 have oblt:ob≠K.cb:=by have:=f1.len;omega
 refine⟨ob,ov,fv,rfl,h.mB (c1:={ c with now:=c.now+1,tim:=jv (c.now+1) c.tim }) hw fA5 (fun x q=>?_) .da rfl (fun Y hle=>⟨⟨w4,dv,bl,t3,l4.fr t2 (.box hE4.rc),x3.fr fA5 (fun q=>?_),x4,fun p q=>⟨(x5 p q).1.mono hle,(x5 p q).2⟩,x6.mono hle⟩,h.cm.gv.fr fA5 (fun q=>?_),h.cm.mm⟩) ⟨⟨by have:=h.lim.now;show 0<=c.now+1;omega,by show c.now+1<=1000000;omega⟩,Nat.le_trans (List.length_filter_le _ _) h.lim.tim,h.lim.bat,h.lim.done⟩ (fun f q=>Nat.lt_of_lt_of_le (hlt f q) fA5.len),by have:=f1.len;omega,t2.row _ _ y1 (fun q=>oblt (by injection q)),y2.fr t2 (.box hE4.rc),fun f q=>?_⟩
 . rcases q with rfl |q
   . exact .inl ⟨_,x1,rfl⟩
   . exact TM.ts (TS.lX (fun f q=>q) q)
 . rcases q with q |q
   . cases q
   . cases ft<;>exact q.elim
 . rcases q with q |q
   . cases q
   . cases ft<;>exact q.elim
 . rcases g4.or q with z |z
   . cases z
   . have:=fA3.len;omega
def rf(_:AS)(args:List V)(x:bj):Prop:=args=[.int .i64 x.2.1,.int .i64 x.2.2]
set_option maxRecDepth 10000 in
set_option maxHeartbeats 8000000 in
theorem Bc8{ob:Nat}{ov:V}{L:List bj}{fv:Option Nat}(h1:A.blk[ob]?=some ⟨[ov],.var⟩)(hL:Lst dQ Hp.emp A ov L fv)(hS:Off fv A S)(hn:L.length<=1000):
 pL TP HH 83 [] [.ptr ob 0] A S rf L:=by
 intro lo J D hJ hD dA hJ0
 refine Aa4 rfl Tryz.func83 (by unfold Tryz.f83;rfl) Tryz.ntmps83 (by unfold Tryz.f83;rfl) (by simp) ?_
 have hlen:=fun B=>hL.len (P:=TP) Tryz.underlying74 B
 simp only[RT,Q0,Q1,Q2,Q3,Q4,Q5,Q6,Q7,Q8,Ab7 Cr3 h1,hlen]
 refine Aa6 (fun z e B=>∃i:Nat,z=L.length-i/\i<=L.length/\e.get 7=.int .i64 i/\e.get 0=.yield lo/\e.get 5=ov/\e.get 6=.int .i64 L.length/\Fr S A B/\J i B)
  (fun z e B=>Fr S A B/\((Is z (.exit 0)/\J L.length B)∨(Is z .ret/\∃i,i<L.length/\D i B)))
  ⟨_,0,rfl,by omega,rfl,rfl,rfl,rfl,.refl _ _,hJ0⟩ ?_ ?_
 rotate_left
 . rintro z e B hz ⟨q1,⟨rfl,q2⟩ |⟨rfl,q2⟩⟩
   . simp only[RT,Q0,Q1,Q2,Q3,Q4,Q5,Q6,Q7,Q8]
     exact⟨q1,.inl q2⟩
   . simp only[RT,Q0,Q1,Q2,Q3,Q4,Q5,Q6,Q7,Q8]
     exact⟨q1,.inr q2⟩
 rintro z e B ⟨i,rfl,hi,h7,h0,h5,h6,hf,hj⟩
 simp only[RT,Q0,Q1,Q2,Q3,Q4,Q5,Q6,Q7,Q8,h7,h6]
 refine Aa8 (fun q1=>?_) (fun q1=>?_)
 rotate_left
 . have:i=L.length:=by omega
   subst this
   simp only[RT,Q0,Q1,Q2,Q3,Q4,Q5,Q6,Q7,Q8]
   exact⟨hf,.inl ⟨rfl,hj⟩⟩
 obtain⟨x,hx⟩:=Ac7 (l:=L) (i:=i) (by omega)
 have hLB:=hL.fr hf hS
 obtain⟨bb,o,c,g3,g4,g5⟩:=hLB.at (P:=TP) (k:=.i64) (Hp.ji B) Tryz.underlying74 AZ3 BE4 hx
 rw[A79 g5]at g4
 obtain⟨B1,s1,s2,s3⟩:=B56 (A:=B) (x:=x)
 have fa:=Cv6 B.blk.length
 have ld:=B55 s3
 have hwi:IntKind.i64.wrap ((i:Int)+1)=((i+1:Nat):Int):=by rw[Ac2 (by omega)]
 have hfB:=hf.ab s2
 obtain⟨y,E,y1,y2,y3,y4⟩:=dA i x B1 _ hx (hJ _ _ _ hj s2) hfB rfl
 have hfE:=hfB.thn y2
 simp only[RT,Q0,Q1,Q2,Q3,Q4,Q5,Q6,Q7,Q8,h5,h7,g3,g4,Cn5,s1,fa,ld,h0]
 refine⟨_,E,y1,?_⟩
 cases y with
 |true =>
  have y3:=y3 rfl
  simp only[RT,Q0,Q1,Q2,Q3,Q4,Q5,Q6,Q7,Q8,h7,hwi]
  refine⟨L.length-(i+1),by omega,i+1,rfl,by omega,?_⟩
  and_intros<;>first |rfl |assumption
 |false =>
  simp only[RT,Q0,Q1,Q2,Q3,Q4,Q5,Q6,Q7,Q8]
  exact⟨hfE,.inr ⟨rfl,i,by omega,y4 rfl⟩⟩
theorem bV.loop{l:Nat}(hw:WF A)(h:bV X A K fk ft c)(hf:Fr (·=.loop l) A B):bV X B K fk ft c:=by
 have hle:(qHp X A).le (qHp X B):=Ae4 hf (fun b k q=>by cases q) hw fun f q=>.inl q
 exact { h with rd:=h.rd.fr hf (fun q=>by cases q) (fun q=>by cases q) (fun j hj=>⟨fun q=>(by cases q),fun q=>(by cases q)⟩) (fun b q=>by cases q) (fun b q=>by cases q),cm:=h.cm.fr hf (fun q=>by cases q) (fun q=>by cases q) (fun q=>by cases q) (fun b q=>by cases q) hle,xlt:=fun f q=>Nat.lt_of_lt_of_le (h.xlt f q) hf.len }
theorem aA.loop{l:Nat}(hw:WF A)(h:aA X A K fk ft B fk1 ft1 fo c)(hf:Fr (·=.loop l) B C)(hl:A.loops.length<=l):aA X A K fk ft C fk1 ft1 fo c :=
 { h with fr:=h.fr.trans hf fun x q=>.inr (by subst q;exact hl),co:=h.co.loop (h.wf hw) hf,le:=Hp.le_trans h.le (Ae4 hf (fun b k q=>by cases q) (h.wf hw) fun f q=>.inl q) }
end
end Go.Sv.Tryz
namespace Go.Sv
open Go
def Co.ku(s:Co×List Act)(x:bj):Co×List Act:=({ s.1 with rd:=(s.1.rd.cj x.2.1 x.2.2).1 },s.2++(s.1.rd.cj x.2.1 x.2.2).2)
def Co.mD(c:Co):Co:={ c with now:=c.now+1,tim:=jv (c.now+1) c.tim }
def Co.cF(c:Co)(i:Nat):Co×List Act:=((cg (c.now+1) c.tim).take i).foldl Co.ku (c.mD,[])
def Co.cP(c:Co):Co×List Act:=(cg (c.now+1) c.tim).foldl Co.ku (c.mD,[])
def fY(c:Co):M:=⟨5,c.rd.me,c.rd.ai,0,0,0,gF,(aQ c.bat c.rd.a7).getD [],[],[]⟩
def o1(c:Co)(l:List M):List M:=if (c.offer c.rd.now).2=true then l++[(c.offer c.rd.now).1] else l
def o2(c:Co)(l:List M):List M:=if c.rd.valid>0/\aQ c.bat c.rd.a7≠none then l++[fY c] else l
def o3(c:Co)(l:List M):List M:=if 0<(cW c.rd).length then l++[dC c.rd] else l
def again(c:Co)(l:List M):List M:=o3 c (o2 c (o1 c l))
def Co.cX(c:Co):Co×List M:=c.cP.1.act c.cP.2
def Co.lf(c:Co):Co×List M:=(c.cX.1,again c.cX.1 c.cX.2)
end Go.Sv
namespace Go.Sv.Tryz
open Go Go.Proofs
section
variable {r:Rd}
theorem Rng.cj(h:Rng r)(R K:Int):Rng (r.cj R K).1/\(r.cj R K).2.length<=r.al.length+2001/\(r.cj R K).1.al=[]:=by
 unfold Rd.cj
 have key:∀r':Rd,Rng r'->r'.al.length<=r.al.length+1->Rng r'.settle.1/\r'.settle.2.length<=r.al.length+2001/\r'.settle.1.al=[]:=fun r' h' hl=>by
  have:=h'.ib
  exact⟨h'.settle,by omega,rfl⟩
 split
 . split
   . have k:=h.vote (k:=0) (by omega) n32;exact key _ k.1 k.2
   split
   . have k:=h.vote (k:=1) (by omega) n32;exact key _ k.1 k.2
   split
   . rename_i q _ _ _
     have k:=h.begin (R:=R+1) (by have:=h.now;omega);exact key _ k.1 k.2
   . exact key _ h (by omega)
 . exact key _ h (by omega)
end
section
variable {X Y:Nat->Prop} {A B C:AS} {K:CoK} {c c1 c2:Co} {fk ft fk1 ft1 fk2 ft2 fo fo2:Option Nat} {S:Loc->Prop}
theorem B57(a b:Int)(i j k l:Nat):au TP 48 [(0,.int .i64 5),(1,.int .i64 a),(2,.int .i64 b),(7,.sl i j k l)]=some (.agg (mc ⟨5,a,b,0,0,0,gF,[],[],[]⟩ (.sl i j k l) .ah .ah)):=by kernel_rfl
theorem CB4:(aC TP 81).bind V.cells=some [.ah]:=CD9
theorem CB5(b o n z:Nat):aw TP .neq 45 (.sl b o n z) .ah=some (.bool true):=by kernel_rfl
theorem CB6:aw TP .neq 45 .ah .ah=some (.bool false):=by kernel_rfl
def tkT(K:CoK)(fk ft:Option Nat)(b:Nat)(A:AS):Loc->Prop:=fun z=>LCo K fk ft A z∨z=.row b∨nrf A z
structure TkI(X:Nat->Prop)(A A3:AS)(K:CoK)(fk ft:Option Nat)(b1 b3:Nat)(s:Co×List Act)(B:AS):Prop where
 ex:∃fk' fo w,aA X A K fk ft B fk' ft fo s.1/\B.blk[b3]?=some ⟨[w],.var⟩/\Lst dp Hp.emp B w s.2 fo/\Gr A3 fk fk'/\∀f,fo=some f->A3.blk.length<=f
 r1:B.blk[b1]?=some ⟨[.ptr K.cb 0],.var⟩
theorem TkI.loop{A3:AS}{l:Nat}{b1 b3:Nat}{s:Co×List Act}(hw:WF A)(h:TkI X A A3 K fk ft b1 b3 s B)(hf:Fr (·=.loop l) B C)(hl:A.loops.length<=l):TkI X A A3 K fk ft b1 b3 s C:=by
 obtain⟨fk',fo,w,h1,h2,h3,h4⟩:=h.ex
 exact⟨⟨fk',fo,w,h1.loop hw hf hl,hf.row _ _ h2 (fun q=>by cases q),h3.fr hf (fun b q=>by cases q),h4⟩,hf.row _ _ h.r1 (fun q=>by cases q)⟩
theorem Bv1(l:List Act):∀s:Co×List M×Bool,(l.foldl Co.bp s).2.1.length<=s.2.1.length+l.length:=by
 induction l with
 |nil=>exact fun s=>Nat.le_refl _
 |cons a l ih =>
  intro s
  have h:=ih (Co.bp s a)
  have k:=A74 s a
  show(l.foldl Co.bp (Co.bp s a)).2.1.length<=_
  rw[List.length_cons];omega
theorem Am7(c:Co)(l:List Act):(c.act l).2.length<=l.length+1:=by
 have h:=Bv1 l (c,[],false)
 have h:(c.al l).2.1.length<=0+l.length:=h
 unfold Co.act
 show(if _ then _ else _:List M).length<=_
 split
 . rw[List.length_append];simp;omega
 . omega
theorem Az1{c:Co}{i:Nat}{x:bj}(h:(cg (c.now+1) c.tim)[i]?=some x):c.cF (i+1)=Co.ku (c.cF i) x:=by
 unfold Co.cF;exact As6 h
theorem Ar2{c:Co}(h:Rng c.rd)(ha:c.rd.al=[]):∀i,Rng (c.cF i).1.rd/\(c.cF i).1.rd.al=[]/\(c.cF i).2.length<=2001*i
 | 0=>⟨h,ha,by show([]:List Act).length<=_;simp⟩
 |i+1=>by
  obtain⟨h1,h2,h3⟩:=Ar2 h ha i
  cases hx:(cg (c.now+1) c.tim)[i]? with
  |none =>
   have e:c.cF (i+1)=c.cF i:=by
    have hl:=List.getElem?_eq_none_iff.1 hx
    unfold Co.cF;rw[List.take_of_length_le (by omega),List.take_of_length_le hl]
   rw[e];exact⟨h1,h2,by omega⟩
  |some x =>
   rw[Az1 hx]
   have k:=h1.cj x.2.1 x.2.2
   rw[h2]at k
   refine⟨k.1,k.2.2,?_⟩
   show((c.cF i).2++((c.cF i).1.rd.cj x.2.1 x.2.2).2).length<=_
   rw[List.length_append]
   have:=k.2.1;simp at this;omega
set_option maxRecDepth 10000 in
set_option maxHeartbeats 32000000 in
theorem A15(hw:WF A)(h:bV X A K fk ft c)(hn:c.now<1000000):
 ∃w A',EvF TP HH 12 [.ptr K.cb 0] A w A'/\iG X A K fk ft A' c.lf w:=by
 refine Aa4 rfl Tryz.func12 (by unfold Tryz.f12;rfl) Tryz.ntmps12 (by unfold Tryz.f12;rfl) (by simp) ?_
 obtain⟨A1,e1,f1,r1,n1⟩:=Aa3 A [.ptr K.cb 0]
 obtain⟨b1,hb1⟩:∃b,b=A.blk.length:=⟨_,rfl⟩
 rw[<- hb1]at r1 n1
 obtain⟨A2,e2,f2,r2,n2⟩:=Aa3 A1 [.ah]
 obtain⟨b3,hb3⟩:∃b,b=A1.blk.length:=⟨_,rfl⟩
 rw[<- hb3]at r2 n2
 have f12:=f1.ab f2
 have h2:=h.fr0 f12
 have w2:=f12.wf hw
 have lp1:=Ab7 (P:=TP) BE1 (f2.af r1)
 obtain⟨_,A3,k3,ob,ov,fv,rfl,s3,hob,r3,l3,hfv⟩:=AJ2 w2 h2 hn
 have w3:=s3.wf w2
 have hcb:=h.lt
 have hl1:=f1.len
 have ne1:b1≠K.cb/\b1≠K.rp/\b3≠K.cb/\b3≠K.rp/\b1≠b3/\ob≠b1/\ob≠b3:=by omega
 have r13:=s3.fr.row _ _ (f2.af r1) (TM.box (f2.af r1) (by rintro(q |q);exact ne1.1 q;exact ne1.2.1 q))
 have r33:=s3.fr.row _ _ r2 (TM.box r2 (by rintro(q |q);exact ne1.2.2.1 q;exact ne1.2.2.2.1 q))
 have hC3:=s3.co
 obtain⟨L,hL⟩:∃L,L=cg (c.now+1) c.tim:=⟨_,rfl⟩
 rw[<- hL]at l3
 have hL40:L.length<=40:=by rw[hL];exact Nat.le_trans (List.length_filter_le _ _) h.lim.tim
 have hfl:∀f,fv=some f->f<A3.blk.length:=l3.bO
 simp only[RT,Q0,Q1,Q2,Q3,Q4,Q5,Q6,Q7,Q8,<- hb1,<- e1,CB4]
 simp only[RT,Q0,Q1,Q2,Q3,Q4,Q5,Q6,Q7,Q8,<- hb3,<- e2,lp1,An0 K.cb]
 refine Aa0 k3 ?_
 simp only[RT,Q0,Q1,Q2,Q3,Q4,Q5,Q6,Q7,Q8]
 have w1:=f1.wf hw
 have s13:=s3.br w1 f2
 have hll:A1.loops.length<=A3.loops.length:=by
  apply Nat.not_lt.1;intro z
  obtain⟨mo,q⟩:=Ac7 z
  have:=s13.fr.loop _ _ q (fun w=>w.elim)
  have:=(LG.1 this).1
  omega
 refine Be8 (S:=tkT K fk ft b3 A3) (AR:=rf) (xs:=L) (fun i B=>TkI X A1 A3 K fk ft b1 b3 (c.cF i) B) (fun B=>TkI X A1 A3 K fk ft b1 b3 c.cP B)
  rfl (fun q=>by
   rcases q with q |q |q
   . exact q.elim
   . cases q
   . exact q.elim) ?_ ⟨⟨fk,none,.ah,s13,r33,.nil,.inl rfl,fun f q=>by cases q⟩,r13⟩ (fun _ _ _ q z=>q.loop w1 z hll) (fun _ _ q z=>q.loop w1 z hll) Tryz.func12 Tryz.ntmps12 (by simp) ?_ ?_ ?_
 . intro A0 hf0
   refine Bc8 (hf0.af r3) (l3.fr0 hf0) ?_ (by omega)
   rintro b (q |q) f k base hf hk hkk
   . have hff:=hfl f hf
     have hfg:=hfv f hf
     rcases q with(⟨cs,q,w⟩ |⟨cs,g,base',q,w⟩) |q |q
     . rw[hf0.af q]at hk;cases hk;cases hkk
     . rw[hf0.af q]at hk;cases hk;cases hkk
       have:=h2.xlt f (h2.sub f w)
       omega
     . injection q with q;subst q
       rw[hf0.af r33]at hk;cases hk;cases hkk
     . have q:A3.blk.length<=b:=q
       have:=(hf0.new b k f base hk q hkk).2
       rcases this with y |y
       . omega
       . exact y.elim
   . cases q
 . rintro i x B args hi hI hfB rfl
   refine⟨_,rfl,?_⟩
   simp only[RT,Q0,Q1,Q2,Q3,Q4,Q5,Q6,Q7,Q8]
   refine⟨rfl,.refl _ _,fun B1 hB1=>?_⟩
   have hI:=hI.loop w1 hB1 hll
   have hfB1:Fr (bS (tkT K fk ft b3 A3) A3.loops.length) A3 B1:=hfB.trans hB1 fun z q=>.inl (.inr q)
   rw[Az1 (by rw[<- hL];exact hi)]
   have hlen:=Ar2 h.rng h.al i
   have hil:=(LG.1 hi).1
   obtain⟨s,hs⟩:∃s,s=c.cF i:=⟨_,rfl⟩
   rw[<- hs]at hI hlen ⊢
   obtain⟨⟨fk',fo,w,x1,x2,x3,x5,x6⟩,x4⟩:=hI
   have wB:=x1.wf w1
   have lpB:=Ab7 (P:=TP) BE1 x4
   have laB:=Ab7 (P:=TP) Cg4 x2
   obtain⟨tv,dv,bl,y1,_⟩:=x1.co.cm.ex
   have ld:=Ap2 y1
   obtain⟨u,C,m1,m2⟩:=AU5 wB x1.co.rd x1.co.rng (by rw[x1.co.al];simp) (R:=x.2.1) (K:=x.2.2)
   have hO:=x1.co.rng.cj x.2.1 x.2.2
   rw[x1.co.al]at hO
   obtain⟨fk5,fo5,o1,o2⟩:=x1.co.lK wB m2 (Bc4 _ _ _) hO.1 hO.2.2
   obtain⟨v6,D,fo6,j1,j2,j3,j4,j5⟩:=x1.ph w1 x3 o1 o2 (by have:=hlen.2.2;have:=hO.2.1;simp at this;omega)
   have x2C:=o1.fr.row _ _ x2 (TM.box x2 (by rintro(q |q);exact ne1.2.2.1 q;exact ne1.2.2.2.1 q))
   have x4C:=o1.fr.row _ _ x4 (TM.box x4 (by rintro(q |q);exact ne1.1 q;exact ne1.2.1 q))
   have laC:=Ab7 (P:=TP) Cg4 x2C
   have x2D:=j4.row _ _ x2C (Ab0 x2C)
   have x4D:=j4.row _ _ x4C (Ab0 x4C)
   obtain⟨E,t1,t2,t3,t4⟩:=Ai6 (P:=TP) (t:=81) (x:=v6) x2D j3.nO Cx4 j3.one
   have x4E:=t2.row _ _ x4D (fun q=>ne1.2.2.2.2.1 (by injection q))
   have k2:=j2.box w1 x2D t2 (by omega) (by omega)
   simp only[RT,Q0,Q1,Q2,Q3,Q4,Q5,Q6,Q7,Q8,BS1,Aa1,laB,lpB,An0 K.cb,ld]
   refine Aa0 m1 ?_
   simp only[RT,Q0,Q1,Q2,Q3,Q4,Q5,Q6,Q7,Q8,Aa1]
   refine⟨Aa5 (ha:=rfl) rfl laC rfl Aa1,?_⟩
   simp only[RT,Q0,Q1,Q2,Q3,Q4,Q5,Q6,Q7,Q8,j1,t1,Aa1]
   have hS1:∀z,LCo K fk' ft B1 z->tkT K fk ft b3 A3 z:=fun z q=>by
    rcases TM.re (Bx:=fun b=>b=K.cb∨b=K.rp) (X:=XCo K fk ft) (Mp:=fun r=>r=K.mb∨r=K.mg) w3 hfB1 (fun b q=>.inl q) (fun f q=>by
     rcases q with(q |q) |q
     . exact .inl (.inl (.inl q))
     . exact(x5.or q).imp (fun z=>.inl (.inr z)) id
     . exact .inl (.inr q)) (fun r q=>.inl q) q with q |q
    . exact .inl q
    . exact .inr (.inr q)
   have fC:Fr (tkT K fk ft b3 A3) B1 C:=o1.fr.mono hS1
   have fAC:=hfB1.trans fC fun z q=>.inl (.inl q)
   have fD:Fr (tkT K fk ft b3 A3) C D:=j4.mono fun z q=>.inr (.inr (Bc7 w3 fAC x6 q))
   have fE:Fr (tkT K fk ft b3 A3) D E:=t2.mono fun z q=>.inr (.inl q)
   refine⟨(fC.thn fD).thn fE,.inl ⟨rfl,⟨fk5,fo6,v6,k2,t3,j3.fr t2 (.box x2D),x5.trans o1.g1 hfB1.len,fun f q=>?_⟩,x4E⟩⟩
   rcases j5.or q with z |z
   . exact x6 f z
   . have:=fAC.len;omega
 . intro A2' q
   have e:c.cF L.length=c.cP:=by unfold Co.cF Co.cP;rw[<- hL,List.take_length]
   rw[e]at q;exact q
 intro A4 hI hf
 have hlS:c.cP.2.length<=100000:=by
  have e:c.cF L.length=c.cP:=by unfold Co.cF Co.cP;rw[<- hL,List.take_length]
  have:=(Ar2 h.rng h.al L.length).2.2
  rw[e]at this;omega
 obtain⟨⟨fk4,fo4,w4',x1,x2,x3,_,_⟩,x4⟩:=hI
 have lp4:=Ab7 (P:=TP) BE1 x4
 have la4:=Ab7 (P:=TP) Cg4 x2
 obtain⟨u5,A5,k5,fk5,ft5,fo5,y1,y2⟩:=x1.act w1 x3 (by omega)
 have w5:=y1.wf w1
 have hl5:c.cX.2.length<=200000:=Nat.le_trans (Am7 _ _) (by omega)
 have eT:c.lf=(c.cX.1,again c.cX.1 c.cX.2):=rfl
 rw[eT]
 have y1:aA X A1 K fk ft A5 fk5 ft5 fo5 c.cX.1:=y1
 have y2:Lst eMsg (qHp (nz X fk5 ft5 fo5) A5) A5 u5 c.cX.2 fo5:=y2
 obtain⟨c5,hc5⟩:∃x,x=c.cX.1:=⟨_,rfl⟩
 obtain⟨l5,sW⟩:∃x,x=c.cX.2:=⟨_,rfl⟩
 rw[<- hc5]at y1 ⊢
 rw[<- sW]at y2 hl5 ⊢
 have rowb:∀{B:AS} {fo:Option Nat} {c':Co} {fk' ft':Option Nat},aA X A1 K fk ft B fk' ft' fo c'->B.blk[b1]?=some ⟨[.ptr K.cb 0],.var⟩:=fun q=>q.fr.row _ _ r1 (TM.box r1 (by rintro(q |q);exact ne1.1 q;exact ne1.2.1 q))
 have lp5:=Ab7 (P:=TP) BE1 (rowb y1)
 obtain⟨_,_,k6,hA6,rfl⟩:=Bb2 y1.co.rd
 rw[hA6]at k6
 obtain⟨tv5,dv5,bl5,z5,_⟩:=y1.co.cm.ex
 have ld5:=Ap2 z5
 obtain⟨_,A7,k7,f7,dv7,rfl,q7,i7,j7,m7⟩:=AK9 w5 y1.co c5.rd.now
 have rh:cw (qHp (nz X fk5 ft5 fo5) A7) (c5.offer c5.rd.now).1 dv7 .ah .ah:=⟨i7,q7,.inl ⟨rfl,j7⟩,.inl ⟨rfl,m7⟩⟩
 obtain⟨A8,s8,f8,r8⟩:=Au3 rh
 have y8:=(y1.ab f7).ab f8
 have z8:=aA.jk (aA.jk y2 f7) f8
 have w8:=y8.wf w1
 have oL:=rh.mono (Ac8 f8)
 obtain⟨bo,hbo⟩:∃b,b=(c5.offer c5.rd.now).2:=⟨_,rfl⟩
 rw[<- hbo]at k7
 simp only[RT,Q0,Q1,Q2,Q3,Q4,Q5,Q6,Q7,Q8,lp4,la4]
 refine Aa0 k5 ?_
 simp only[RT,Q0,Q1,Q2,Q3,Q4,Q5,Q6,Q7,Q8,lp5,An0 K.cb,ld5]
 refine Aa0 k6 ?_
 simp only[RT,Q0,Q1,Q2,Q3,Q4,Q5,Q6,Q7,Q8,lp5]
 refine Aa0 k7 ?_
 simp only[RT,Q0,Q1,Q2,Q3,Q4,Q5,Q6,Q7,Q8,zcM,s8]
 refine Ah4 (fun z e B=>Is z .normal/\e.get 1=.ptr b1 0/\∃w fo,e.get 6=w/\aA X A1 K fk ft B fk5 ft5 fo c5/\Lst eMsg (qHp (nz X fk5 ft5 fo) B) B w (o1 c5 l5) fo) ?_ ?_
 . cases bo with
   |false =>
    have e:o1 c5 l5=l5:=by unfold o1;rw[<- hbo,if_neg (by decide)]
    rw[e]
    simp only[RT,Q0,Q1,Q2,Q3,Q4,Q5,Q6,Q7,Q8]
    exact⟨rfl,u5,fo5,rfl,y8,z8⟩
   |true =>
    have e:o1 c5 l5=l5++[(c5.offer c5.rd.now).1]:=by unfold o1;rw[<- hbo,if_pos rfl]
    rw[e]
    obtain⟨v',E,fo2,p1,p2,p3,p4⟩:=y8.msg w1 z8 oL (by omega)
    simp only[RT,Q0,Q1,Q2,Q3,Q4,Q5,Q6,Q7,Q8,ldM r8 i7,A13 i7,p1]
    exact⟨rfl,v',fo2,rfl,p2,p3⟩
 rintro z e B ⟨rfl,h1,w,fo,h6,yB,zB⟩
 have sX:(o1 c5 l5).length<=300000:=by
  unfold o1;split
  . rw[List.length_append];simp;omega
  . omega
 obtain⟨lo1,hlo⟩:∃x,x=o1 c5 l5:=⟨_,rfl⟩
 have eA:again c5 l5=o3 c5 (o2 c5 lo1):=by rw[hlo];rfl
 rw[eA]
 rw[<- hlo]at zB sX
 have wB:=yB.wf w1
 have lpB:=Ab7 (P:=TP) BE1 (rowb yB)
 obtain⟨tvB,dvB,blB,xB,_⟩:=yB.co.cm.ex
 have ldB:=Ap2 xB
 obtain⟨_,C,k9,f9,rfl⟩:=Bc2 wB yB.co.rd
 have hbl:=yB.co.rd.ok.a7
 obtain⟨D,s10,f10,r10⟩:=BX9 (A:=C) c5.rd.a7 hbl
 obtain⟨b12,nN⟩:∃b,b=C.blk.length:=⟨_,rfl⟩
 rw[<- nN]at s10 r10
 have yD:=(yB.ab f9).ab f10
 have zD:=aA.jk (aA.jk zB f9) f10
 have wD:=yD.wf w1
 have lpD:=Ab7 (P:=TP) BE1 (rowb yD)
 obtain⟨tvD,dvD,blD,xD,_⟩:=yD.co.cm.ex
 have ldD:=Ap2 xD
 have lbD:=ldI r10 hbl
 obtain⟨v,lk1,lk2,lk3⟩:=yD.co.cm.look hbl
 simp only[RT,Q0,Q1,Q2,Q3,Q4,Q5,Q6,Q7,Q8,h1,lpB,An0 K.cb,ldB]
 refine Aa0 k9 ?_
 simp only[RT,Q0,Q1,Q2,Q3,Q4,Q5,Q6,Q7,Q8,Av8,<- nN,s10]
 refine Ag0 (fun z e' B'=>Is z .normal/\B'=D/\e'.get 70=.bool (decide (c5.rd.valid>0/\aQ c5.bat c5.rd.a7≠none))/\e'.get 6=w/\e'.get 1=.ptr b1 0/\e'.get 12=.ptr b12 0) ?_ ?_
 . rw[BA1,Aa2 (by rfl)]
   by_cases q1:c5.rd.valid>0
   rotate_left
   . simp only[RT,Q0,Q1,Q2,Q3,Q4,Q5,Q6,Q7,Q8,DF q1,h6,h1]
     rw[DF (fun z=>q1 z.1)]
     and_intros<;>first |rfl |assumption
   by_cases q2:aQ c5.bat c5.rd.a7=none
   . have hv:=lk3.2 q2
     subst hv
     simp only[RT,Q0,Q1,Q2,Q3,Q4,Q5,Q6,Q7,Q8,DT q1,h1,lpD,An0 K.cb,ldD,lbD,lk1,CB6,h6]
     rw[DF (fun z=>z.2 q2)]
     and_intros<;>first |rfl |assumption
   . rcases AO8 lk2 with rfl |⟨bb,oo,nn,zz,rfl⟩
     . exact absurd (lk3.1 rfl) q2
     simp only[RT,Q0,Q1,Q2,Q3,Q4,Q5,Q6,Q7,Q8,DT q1,h1,lpD,An0 K.cb,ldD,lbD,lk1,CB5,h6]
     rw[DT ⟨q1,q2⟩]
     and_intros<;>first |rfl |assumption
 rintro z e' B' ⟨rfl,rfl,h70,h6',h1',h12⟩
 simp only[RT,Q0,Q1,Q2,Q3,Q4,Q5,Q6,Q7,Q8,h70]
 refine Ah4 (fun z e F=>Is z .normal/\e.get 1=.ptr b1 0/\∃w fo,e.get 6=w/\aA X A1 K fk ft F fk5 ft5 fo c5/\Lst eMsg (qHp (nz X fk5 ft5 fo) F) F w (o2 c5 lo1) fo) ?_ ?_
 . by_cases q:c5.rd.valid>0/\aQ c5.bat c5.rd.a7≠none
   rotate_left
   . have e:o2 c5 lo1=lo1:=by unfold o2;rw[if_neg q]
     rw[e]
     simp only[RT,Q0,Q1,Q2,Q3,Q4,Q5,Q6,Q7,Q8,DF q,h1',h6']
     exact⟨rfl,w,fo,rfl,yD,zD⟩
   have e:o2 c5 lo1=lo1++[fY c5]:=by unfold o2;rw[if_pos q]
   rw[e]
   obtain⟨c',E,g1,g2,g3,g4,g5⟩:=At1 (P:=TP) (t:=45) (tx:=45) wD BX5 Tryz.underlying45 lk2 (Ab5 _ B') (by have:=yD.co.lim.look c5.rd.a7;omega) (by have:=yD.co.lim.look c5.rd.a7;omega)
   have f11:=Fr.aF B' []
   have yP:=yD.ab f11
   have lpP:=Ab7 (P:=TP) BE1 (f11.af (rowb yD))
   have ldP:=Ap2 (f11.af xD)
   have lbP:=ldI (f11.af r10) hbl
   have lkP:cL TP 72 (.map K.mb) (.agg (bc c5.rd.a7)) false (B'.push ⟨[],.arr B'.blk.length 0⟩)=some v:=lk1
   have yE:=yD.ab g5
   have zE:=aA.jk zD g5
   have lpE:=Ab7 (P:=TP) BE1 (rowb yE)
   have ldE:=Ap2 (g5.af xD)
   have hnX:¬nz X fk5 ft5 fo B'.blk.length:=fun q=>by have:=yD.co.xlt _ q;omega
   have hin:cw (qHp (nz X fk5 ft5 fo) E) (fY c5) (.sl c' 0 ((aQ c5.bat c5.rd.a7).getD []).length 1) .ah .ah:=⟨rfl,Br3 (Aj1 g2 hnX) rfl,.inl ⟨rfl,rfl⟩,.inl ⟨rfl,rfl⟩⟩
   obtain⟨v',F,fo2,p1,p2,p3,p4⟩:=yE.msg w1 zE hin (by omega)
   have bv:=B57 (c5.rd.me:Int) c5.rd.ai c' 0 ((aQ c5.bat c5.rd.a7).getD []).length 1
   have bv:au TP 48 [(0,.int .i64 5),(1,.int .i64 (c5.rd.me:Int)),(2,.int .i64 c5.rd.ai),(7,.sl c' 0 ((aQ c5.bat c5.rd.a7).getD []).length 1)]=some (.agg (mc (fY c5) (.sl c' 0 ((aQ c5.bat c5.rd.a7).getD []).length 1) .ah .ah)):=bv
   simp only[RT,Q0,Q1,Q2,Q3,Q4,Q5,Q6,Q7,Q8,DT q]
   simp only[RT,Q0,Q1,Q2,Q3,Q4,Q5,Q6,Q7,Q8,BA2,Aa1,h6',h1',h12,lpD,An0 K.cb,ldD,Bu2,lpP,ldP,lbP,lkP,g1]
   refine⟨Aa5 (ha:=h1') rfl lpE rfl (Aa5 (ha:=rfl) rfl ldE.2.2.2.2.1 rfl (Aa5 (ha:=h1') rfl lpE rfl (Aa5 (ha:=rfl) rfl ldE.2.2.2.2.2.1 rfl Aa1))),?_⟩
   simp only[RT,Q0,Q1,Q2,Q3,Q4,Q5,Q6,Q7,Q8,bv,A13 (x:=fY c5) rfl,p1,Aa1,h1']
   exact⟨rfl,v',fo2,rfl,p2,p3⟩
 rintro z e F ⟨rfl,h1'',w',fo',h6'',yF,zF⟩
 have sY:(o2 c5 lo1).length<=400000:=by
  unfold o2;split
  . rw[List.length_append];simp;omega
  . omega
 obtain⟨lo2,rj⟩:∃x,x=o2 c5 lo1:=⟨_,rfl⟩
 rw[<- rj]at zF sY ⊢
 have wF:=yF.wf w1
 have lpF:=Ab7 (P:=TP) BE1 (rowb yF)
 obtain⟨tvF,dvF,blF,xF,_⟩:=yF.co.cm.ex
 obtain⟨_,G,k13,f13,iv,fi,rfl,m3,m4⟩:=Ay9 wF yF.co.rd xF
 have yG:=yF.ab f13
 have zG:=aA.jk zF f13
 have hin:cw (qHp (nz X fk5 ft5 fo') G) (dC c5.rd) .ah iv .ah:=⟨rfl,.inl ⟨rfl,rfl⟩,m3.mO (fun b cs q=>by cases q) (fun f q w=>by have:=yF.co.xlt f w;have:=m4 f q;omega),.inl ⟨rfl,rfl⟩⟩
 obtain⟨J,n1,n2,n3⟩:=Au3 hin
 have n1:ag TP 48 (.ptr G.blk.length 0) (.agg (mc (fc c5.rd.me c5.rd.ai (cW c5.rd)) .ah iv .ah)) (G.push ⟨mcZ,.var⟩)=some J:=n1
 have yJ:=yG.ab n2
 have zJ:=aA.jk zG n2
 have hil:(dC c5.rd).id.length=32:=rfl
 simp only[RT,Q0,Q1,Q2,Q3,Q4,Q5,Q6,Q7,Q8,h1'',lpF]
 refine Aa0 k13 ?_
 by_cases q:0<(cW c5.rd).length
 rotate_left
 . have e:o3 c5 lo2=lo2:=by unfold o3;rw[if_neg q]
   rw[e]
   simp only[RT,Q0,Q1,Q2,Q3,Q4,Q5,Q6,Q7,Q8,zcM,n1,DF q,h6'']
   exact⟨fk5,ft5,fo',yJ.br hw f1,zJ⟩
 have e:o3 c5 lo2=lo2++[dC c5.rd]:=by unfold o3;rw[if_pos q]
 rw[e]
 obtain⟨v',P,fo2,p1,p2,p3,p4⟩:=yJ.msg w1 zJ (hin.mono (Ac8 n2)) (by omega)
 have lm:=ldM n3 hil
 simp only[RT,Q0,Q1,Q2,Q3,Q4,Q5,Q6,Q7,Q8,zcM,n1,DT q,h6'',lm,A13 hil,p1]
 exact⟨fk5,ft5,fo2,p2.br hw f1,p3⟩
end
end Go.Sv.Tryz
namespace Go.Sv
def iH(x:bj):bj:=(x.1-1,x.2.1,x.2.2)
def gV(l:List bj):List bj:=(l.map iH).filter fun x=>!decide (x.1<=0)
def gW(l:List bj):List bj:=(l.map iH).filter fun x=>decide (x.1<=0)
theorem Bc9(l:List bj)(x:bj):gV (l++[x])=if x.1-1<=0 then gV l else gV l++[iH x]:=by
 unfold gV
 rw[List.map_append,List.filter_append]
 by_cases q:x.1-1<=0
 . rw[if_pos q];simp[iH,q]
 . rw[if_neg q];simp[iH,q]
theorem Bd0(l:List bj)(x:bj):gW (l++[x])=if x.1-1<=0 then gW l++[iH x] else gW l:=by
 unfold gW
 rw[List.map_append,List.filter_append]
 by_cases q:x.1-1<=0
 . rw[if_pos q];simp[iH,q]
 . rw[if_neg q];simp[iH,q]
theorem Bj7(l:List bj)(n:Int):gV (l.map fun x=>(x.1-n,x.2.1,x.2.2))=(jv (n+1) l).map fun x=>(x.1-(n+1),x.2.1,x.2.2):=by
 unfold gV jv
 have e1:(iH ∘ fun x:bj=>(x.1-n,x.2.1,x.2.2))=fun x=>(x.1-(n+1),x.2.1,x.2.2):=by
  funext x;show(x.1-n-1,x.2.1,x.2.2)=_;rw[Int.sub_sub]
 rw[List.map_map,List.filter_map,e1]
 congr 1
 congr 1
 funext x
 show(!decide (x.1-(n+1)<=0))=(!decide (ew (n+1) x))
 congr 1;exact decide_eq_decide.2 (by show _↔x.1<=n+1;omega)
theorem Bj8(l:List bj)(n:Int):gW (l.map fun x=>(x.1-n,x.2.1,x.2.2))=(cg (n+1) l).map fun x=>(x.1-(n+1),x.2.1,x.2.2):=by
 unfold gW cg
 have e1:(iH ∘ fun x:bj=>(x.1-n,x.2.1,x.2.2))=fun x=>(x.1-(n+1),x.2.1,x.2.2):=by
  funext x;show(x.1-n-1,x.2.1,x.2.2)=_;rw[Int.sub_sub]
 rw[List.map_map,List.filter_map,e1]
 congr 1
 congr 1
 funext x
 show decide (x.1-(n+1)<=0)=decide (ew (n+1) x)
 exact decide_eq_decide.2 (by show _↔x.1<=n+1;omega)
end Go.Sv
namespace Go.Sv.Tryz
open Go Go.Proofs
section
variable {X Y Z:Nat->Prop} {A B C D:AS} {c c':Co} {s:RcV} {w:V} {b:Nat} {r:Rd} {S:Loc->Prop} {fo fo2:Option Nat} {N N':Nat}
theorem Cv7:(aC TP 116).bind V.cells=some (de (0,0,0)):=by kernel_rfl
theorem Cv8(b o:Nat):ae TP 116 (.ptr b o) 0=some (.ptr b o)/\ae TP 116 (.ptr b o) 1=some (.ptr b (o+1))/\ae TP 116 (.ptr b o) 2=some (.ptr b (o+2)):=⟨by kernel_rfl,by kernel_rfl,by kernel_rfl⟩
theorem Cv9{m:Hp}{v:V}{l:List bj}(hm:m.on A)(h:Slc dQ m v l){j:Nat}{p:bj}(hp:l[j]?=some p):∃b o,aj TP 37 v (.int .i64 (j:Int))=some (.ptr b o)/\aa TP 116 (.ptr b o) A=some (.agg (de p))/\jh A b o (de p):=by
 obtain⟨b,o,w,g1,g2,g3⟩:=h.at (P:=TP) (k:=.i64) hm Tryz.underlying37 Bq9 BW8 hp
 rw[A79 g3]at g2
 exact⟨b,o,g1,g2,(AD8 BW8 Bq9 g2).1⟩
theorem Cn6{x:bj}:∃A',ag TP 116 (.ptr A.blk.length 0) (.agg (de x)) (A.push ⟨de (0,0,0),.var⟩)=some A'/\Fr S0 A A'/\A'.blk[A.blk.length]?=some ⟨de x,.var⟩:=by
 obtain⟨A2,s1,s2,s3,s4⟩:=Ag5 (P:=TP) A (z:=de (0,0,0)) (t:=116) (x:=.agg (de x)) (cs:=de x) rfl Bq9 rfl rfl
 exact⟨A2,s1,s2,s3⟩
set_option maxRecDepth 10000 in
set_option maxHeartbeats 16000000 in
theorem B58{m:Hp}{v:V}{l:List bj}(hw:WF A)(hm:m.on A)(h:Slc dQ m v l)(hl:l.length<=1000)(hb:∀x∈l,-1000000<=x.1/\x.1<=1000000):
 ∃u A',EvF TP HH 50 [v] A u A'/\Fr S0 A A'/\∃v1 v2,u=.tup [v1,v2]/\eM dQ A.blk.length A' v1 (gV l)/\eM dQ A.blk.length A' v2 (gW l):=by
 refine Aa4 rfl Tryz.func50 (by unfold Tryz.f50;rfl) Tryz.ntmps50 (by unfold Tryz.f50;rfl) (by simp) ?_
 have hln:=fun B=>h.len (P:=TP) Tryz.underlying37 B
 simp only[RT,Q0,Q1,Q2,Q3,Q4,Q5,Q6,Q7,Q8]
 refine Aa6 (fun z e B=>∃(j:Nat) (v1 v2:V) (f1 f2:Option Nat),z=l.length-j/\j<=l.length/\e.get 6=.int .i64 j/\e.get 0=v/\e.get 4=v1/\e.get 5=v2/\Fr S0 A B/\Lst dQ Hp.emp B v1 (gV (l.take j)) f1/\Lst dQ Hp.emp B v2 (gW (l.take j)) f2/\(∀f,f1=some f->A.blk.length<=f/\f2≠some f)/\(∀f,f2=some f->A.blk.length<=f)/\(gV (l.take j)).length<=j/\(gW (l.take j)).length<=j)
  (fun z e B=>Is z (.exit 0)/\∃(v1 v2:V),e.get 4=v1/\e.get 5=v2/\Fr S0 A B/\eM dQ A.blk.length B v1 (gV l)/\eM dQ A.blk.length B v2 (gW l))
  ⟨_,0,.ah,.ah,none,none,rfl,by omega,rfl,rfl,rfl,rfl,.refl _ _,.nil,.nil,(fun f q=>by cases q),(fun f q=>by cases q),by simp[gV],by simp[gW]⟩ ?_ ?_
 rotate_left
 . rintro z e B hz ⟨rfl,v1,v2,h4,h5,hf,hn1,hn2⟩
   simp only[RT,Q0,Q1,Q2,Q3,Q4,Q5,Q6,Q7,Q8,h4,h5]
   exact⟨hf,v1,v2,rfl,hn1,hn2⟩
 rintro z e B ⟨j,v1,v2,f1,f2,rfl,hj,h6,h0,h4,h5,hf,hL1,hL2,hf1,hf2,hl1,hl2⟩
 simp only[RT,Q0,Q1,Q2,Q3,Q4,Q5,Q6,Q7,Q8,h6,h0,hln]
 refine Aa8 (fun q1=>?_) (fun q1=>?_)
 rotate_left
 . have:j=l.length:=by omega
   subst this
   rw[List.take_length]at hL1 hL2
   simp only[RT,Q0,Q1,Q2,Q3,Q4,Q5,Q6,Q7,Q8]
   exact⟨rfl,v1,v2,h4,h5,hf,⟨f1,hL1,fun f q=>(hf1 f q).1⟩,⟨f2,hL2,hf2⟩⟩
 obtain⟨p,hp⟩:=Ac7 (l:=l) (i:=j) (by omega)
 have hpb:=hb p (List.mem_of_getElem? hp)
 obtain⟨bb,o,g1,g2,_⟩:=Cv9 (hm.fr0 hf) h hp
 obtain⟨C,e1,f7,r7⟩:=Cn6 (A:=B) (x:=p)
 obtain⟨b7,hb7⟩:∃b,b=B.blk.length:=⟨_,rfl⟩
 rw[<- hb7]at e1 r7
 have fa:=Cv8 b7 0
 simp only[Nat.zero_add]at fa
 have ld7:aa TP 3 (.ptr b7 0) C=some (.int .i64 p.1):=by rw[Ab2 ag3 r7];rfl
 have hwd:IntKind.i64.wrap (p.1-1)=p.1-1:=Ac6 (by omega) (by omega)
 have es:=An1 (a:=p.1) (b:=1) (by omega) (by omega)
 obtain⟨D,s1,s2,s3,s4⟩:=Ab1 (P:=TP) (t:=3) (o:=0) (x:=.int .i64 (p.1-1)) (cs:=[.int .i64 (p.1-1)]) r7 rfl sz3 (by simp[de]) rfl
 have s3:D.blk[b7]?=some ⟨de (iH p),.var⟩:=s3
 have ldD:aa TP 3 (.ptr b7 0) D=some (.int .i64 (p.1-1)):=by rw[Ab2 ag3 s3];rfl
 have lwD:aa TP 116 (.ptr b7 0) D=some (.agg (de (iH p))):=At.load s3 (.all _) BW8 Bq9 rfl
 have fBD:Fr S0 B D:=f7.ar s2 (by omega)
 have hfD:=hf.ab fBD
 have wD:=hfD.wf hw
 have hwi:IntKind.i64.wrap ((j:Int)+1)=((j+1:Nat):Int):=by rw[Ac2 (by omega)]
 have en1:=Bc9 (l.take j) p
 have en2:=Bd0 (l.take j) p
 rw[<- Ab6 hp]at en1 en2
 by_cases c1:p.1-1<=0
 . rw[if_pos c1]at en1 en2
   obtain⟨v3,E,f3,p1,p2,p3,p4⟩:=(hL2.fr0 fBD).push (P:=TP) (t:=37) (tx:=37) (n:=3) rfl Ct7 Tryz.underlying37 wD (y:=iH p) (cs':=de (iH p)) rfl (by omega) (by omega)
   have hO:Lst dQ Hp.emp E v1 (gV (l.take j)) f1:=(hL1.fr0 fBD).fr p3 (by
    cases f2 with
    |none=>exact fun _ q=>q.elim
    |some g=>exact Off.fam fun q=>(hf1 g q).2 rfl)
   simp only[RT,Q0,Q1,Q2,Q3,Q4,Q5,Q6,Q7,Q8,h0,h6,g1,g2,Cv7,<- hb7,e1,fa,ld7,es,s1,ldD,DT c1,h5,lwD,BK6,p1,hwi]
   refine⟨l.length-(j+1),by omega,j+1,v1,v3,f1,f3,rfl,by omega,rfl,?_⟩
   rw[en1,en2]
   refine⟨h4,rfl,hfD.eh hw p3 hf2,hO,p2,fun f q=>⟨(hf1 f q).1,fun z=>?_⟩,fun f q=>?_,by omega,by rw[List.length_append];simp;omega⟩
   . rcases p4.or z with y |y
     . exact(hf1 f q).2 y
     . have:=hL1.bO f q;have:=fBD.len;omega
   . rcases p4.or q with y |y
     . exact hf2 f y
     . have:=hfD.len;omega
 . rw[if_neg c1]at en1 en2
   obtain⟨v3,E,f3,p1,p2,p3,p4⟩:=(hL1.fr0 fBD).push (P:=TP) (t:=37) (tx:=37) (n:=3) rfl Ct7 Tryz.underlying37 wD (y:=iH p) (cs':=de (iH p)) rfl (by omega) (by omega)
   have hO:Lst dQ Hp.emp E v2 (gW (l.take j)) f2:=(hL2.fr0 fBD).fr p3 (by
    cases f1 with
    |none=>exact fun _ q=>q.elim
    |some g=>exact Off.fam fun q=>(hf1 g rfl).2 q)
   simp only[RT,Q0,Q1,Q2,Q3,Q4,Q5,Q6,Q7,Q8,h0,h6,g1,g2,Cv7,<- hb7,e1,fa,ld7,es,s1,ldD,DF c1,h4,lwD,BK6,p1,hwi]
   refine⟨l.length-(j+1),by omega,j+1,v3,v2,f3,f2,rfl,by omega,rfl,?_⟩
   rw[en1,en2]
   refine⟨rfl,h5,hfD.eh hw p3 fun f q=>(hf1 f q).1,p2,hO,fun f q=>?_,hf2,by rw[List.length_append];simp;omega,by omega⟩
   rcases p4.or q with y |y
   . exact hf1 f y
   . exact⟨by have:=hfD.len;omega,fun z=>by have:=hL2.bO f z;have:=fBD.len;omega⟩
end
end Go.Sv.Tryz
namespace Go.Sv.Tryz
open Go Go.Proofs
section
variable {X Y Z:Nat->Prop} {A B C D:AS} {c c':Co} {s:RcV} {w:V} {b:Nat} {r:Rd} {S:Loc->Prop} {fo fo2:Option Nat} {N N':Nat}
theorem Cx.rk{l:List bj}{k:Int}(h:Cx X A b c)(hw:WF A)(hf:Fr S0 A B)(hs:eM dQ A.blk.length B w (l.map fun x=>(x.1-k,x.2.1,x.2.2)))(hl:∀x∈l,k<x.1/\x.1<=k+2003):∃A',ag TP 37 (.ptr b 108) w B=some A'/\Fr (·=.row b) B A'/\Cx X A' b { c with now:=k,tim:=l }:=by
 obtain⟨Z,h⟩:=h.z
 have hs':=h.mV hs
 obtain⟨s,e,h⟩:=h.grow hw hf
 have wB:=hf.wf hw
 obtain⟨A',s1,s2,s3,s4⟩:=Ab1 (P:=TP) (t:=37) (o:=108) (x:=w) (cs:=[w]) e (Ad5 hs'.one) Cw9 (by rw[h.len];simp) (by simp[hs'.one])
 rw[h.put (j:=0) (by omega)]at s3
 have h':=h.row wB e s2
 exact⟨A',s1,s2,{ s with dv:=w },s3,_,h'.rr,hs'.mono (Ae4 s2 (.box e) wB fun f q=>.inl q),hl,h'.bs,h'.gs⟩
theorem Cn7(a b:Int)(i j k l:Nat):au TP 48 [(0,.int .i64 5),(1,.int .i64 a),(2,.int .i64 b),(7,.sl i j k l)]=some (.agg (mc ⟨5,a,b,0,0,0,gF,[],[],[]⟩ (.sl i j k l) .ah .ah)):=by kernel_rfl
theorem AV2(hr:Rng c.rd)(ha:c.rd.al=[])(hk:eI c)(hn:c.now<1000000)(i:Nat):Rng (c.cF i).1.rd/\(c.cF i).1.rd.al=[]/\(c.cF i).2.length<=2001*i/\eI (c.cF i).1/\(c.cF i).1.bat=c.bat:=by
 obtain⟨h1,h2,h3⟩:=Ar2 hr ha i
 have key:∀(l:List bj) (s:Co×List Act),eI s.1/\s.1.bat=c.bat->eI (l.foldl Co.ku s).1/\(l.foldl Co.ku s).1.bat=c.bat:=by
  intro l
  induction l with
  |nil=>exact fun s h=>h
  |cons a l ih=>exact fun s h=>ih _ ⟨{ h.1 with },h.2⟩
 obtain⟨k1,k2⟩:=key ((cg (c.now+1) c.tim).take i) (c.mD,[]) ⟨⟨⟨by have:=hk.now;show 0<=c.now+1;omega,by show c.now+1<=1000000;omega⟩,Nat.le_trans (List.length_filter_le _ _) hk.tim,hk.bat,hk.done⟩,rfl⟩
 exact⟨h1,h2,h3,k1,k2⟩
set_option maxRecDepth 20000 in
set_option maxHeartbeats 64000000 in
theorem B59(hw:WF A)(hX:∀f,X f->f<A.blk.length)(h:RCs X A c w)(hr:Rng c.rd)(ha:c.rd.al=[])(hk:eI c)(hn:c.now<1000000)(hl:c.bat.length<=10000):
 ∃u A',EvF TP HH 13 [w] A u A'/\Fr S0 A A'/\MOu X A.blk.length A' c.lf u:=by
 refine Aa4 rfl Tryz.func13 (by unfold Tryz.f13;rfl) Tryz.ntmps13 (by unfold Tryz.f13;rfl) (by simp) ?_
 obtain⟨cs,rfl,A1,e1,f1,hB1⟩:=h.new
 obtain⟨b1,hb1⟩:∃b,b=A.blk.length:=⟨_,rfl⟩
 rw[<- hb1]at hB1
 obtain⟨A2,e2,f2,r2,n2⟩:=Aa3 A1 rcZ
 obtain⟨b2,hb2⟩:∃b,b=A1.blk.length:=⟨_,rfl⟩
 rw[<- hb2]at r2
 have l2:b1<b2:=by have:=hB1.lt;omega
 have f12:=f1.ab f2
 have w2:=f12.wf hw
 have hB2:=hB1.fr0 f2
 obtain⟨s,hb,hI⟩:=hB2
 have hB2:Cx X A2 b1 c:=⟨s,hb,hI⟩
 have fa:=Bf4 b1
 have fr:=AJ1 b1
 have ld:=At4 hb hI
 have hX3:∀{B:AS},Fr S0 A B->∀f,X f->f<B.blk.length:=fun {B} hf f q=>Nat.lt_of_lt_of_le (hX f q) hf.len
 have htl:(jl c).length<=40:=by unfold jl;rw[List.length_map];exact hk.tim
 obtain⟨_,A3,k3,f3,v1,v2,rfl,hn1,hn2⟩:=B58 w2 (Ab5 X A2) hI.ds (by omega) (fun x hx=>by
  obtain⟨y,hy,rfl⟩:=List.mem_map.1 hx
  have:=hI.dl y hy
  show -1000000<=y.1-c.now/\y.1-c.now<=1000000
  omega)
 unfold jl at hn1 hn2
 rw[Bj7]at hn1
 rw[Bj8]at hn2
 obtain⟨A4,s1,s2,s3⟩:=hB2.rk (k:=c.now+1) w2 f3 hn1 (fun x hx=>by
  have h1:=List.mem_filter.1 hx
  have h2:=hI.dl x h1.1
  have h3:¬x.1<=c.now+1:=by have:=h1.2;simpa[ew] using this
  omega)
 have w3:=f3.wf w2
 have f14:=(f12.ab f3).ar s2 (by omega)
 have w4:=f14.wf hw
 have r24:=s2.aq (f3.af r2) (by omega)
 have s3:Cx X A4 b1 c.mD:=s3
 have hv2:=hn2.row (f3.af hb) s2
 obtain⟨L,hL⟩:∃L,L=cg (c.now+1) c.tim:=⟨_,rfl⟩
 rw[<- hL]at hv2
 have hL40:L.length<=40:=by rw[hL];exact Nat.le_trans (List.length_filter_le _ _) hk.tim
 obtain⟨L',hL'⟩:∃L':List bj,L'=L.map fun x=>(x.1-(c.now+1),x.2.1,x.2.2):=⟨_,rfl⟩
 rw[<- hL']at hv2
 have hLL:L'.length=L.length:=by rw[hL',List.length_map]
 obtain⟨fov,pM,tS⟩:=hv2
 have hlnV:=fun B=>pM.len (P:=TP) Tryz.underlying37 B
 simp only[RT,Q0,Q1,Q2,Q3,Q4,Q5,Q6,Q7,Q8,<- e1,<- hb1]
 simp only[RT,Q0,Q1,Q2,Q3,Q4,Q5,Q6,Q7,Q8,Bc5,<- hb2,<- e2,fa,ld]
 refine Aa0 k3 ?_
 simp only[RT,Q0,Q1,Q2,Q3,Q4,Q5,Q6,Q7,Q8,fa,s1]
 refine Aa6 (fun z e B=>∃(i:Nat) (v:V),z=L.length-i/\i<=L.length/\e.get 7=.int .i64 i/\e.get 1=.ptr b1 0/\e.get 2=.ptr b2 0/\e.get 5=v2/\e.get 6=v/\Fr S0 A B/\A4.blk.length<=B.blk.length/\Lst dQ Hp.emp B v2 L' fov/\B.blk[b2]?=some ⟨rcZ,.var⟩/\Pre X A4.blk.length B b1 v (c.cF i).1 (c.cF i).2)
  (fun z e B=>Is z (.exit 0)/\∃(v:V),e.get 1=.ptr b1 0/\e.get 2=.ptr b2 0/\e.get 6=v/\Fr S0 A B/\A4.blk.length<=B.blk.length/\B.blk[b2]?=some ⟨rcZ,.var⟩/\Pre X A4.blk.length B b1 v c.cP.1 c.cP.2)
  ⟨_,0,.ah,rfl,by omega,rfl,rfl,rfl,rfl,rfl,f14,Nat.le_refl _,pM,r24,.nil s3⟩ ?_ ?_
 . rintro z e B ⟨i,v,rfl,hi,g7,g1,g2,g5,g6,hf,hA4,hv,rb2,hP⟩
   simp only[RT,Q0,Q1,Q2,Q3,Q4,Q5,Q6,Q7,Q8,g7,g5,hlnV]
   have hwi:IntKind.i64.wrap ((i:Int)+1)=((i+1:Nat):Int):=by rw[Ac2 (by omega)]
   refine Aa8 (fun q1=>?_) (fun q1=>?_)
   rotate_left
   . have:i=L.length:=by omega
     subst this
     have e:c.cP=c.cF L.length:=by unfold Co.cP Co.cF;rw[<- hL,List.take_length]
     simp only[RT,Q0,Q1,Q2,Q3,Q4,Q5,Q6,Q7,Q8]
     rw[e]
     exact⟨rfl,v,g1,g2,g6,hf,hA4,rb2,hP⟩
   obtain⟨x,hx⟩:=Ac7 (l:=L) (i:=i) (by omega)
   have hx':L'[i]?=some (x.1-(c.now+1),x.2.1,x.2.2):=by rw[hL',List.getElem?_map,hx];rfl
   obtain⟨bb,oo,i1,_,hh⟩:=Cv9 (Ai2 B) (hv.gK (fun b cs q=>by cases q)) hx'
   have em:=Az1 (c:=c) (i:=i) (x:=x) (by rw[<- hL];exact hx)
   have hfa:=Cv8 bb oo
   have lo1:aa TP 3 (.ptr bb (oo+1)) B=some (.int .i64 x.2.1):=hh.cC (j:=1) rfl ag3
   have lo2:aa TP 3 (.ptr bb (oo+2)) B=some (.int .i64 x.2.2):=hh.cC (j:=2) rfl ag3
   obtain⟨y1,y2,y3,y4,y5⟩:=AV2 hr ha hk hn i
   obtain⟨s0,hs0⟩:∃s0,s0=c.cF i:=⟨_,rfl⟩
   rw[<- hs0]at hP y1 y2 y3 y4 y5 em
   have wB:=hf.wf hw
   obtain⟨fo,hP1,hP2,hP3⟩:=hP
   obtain⟨Z,hPZ⟩:=hP1.z
   obtain⟨sB,hbB,hIB⟩:=hPZ
   have hPZ:CxZ (xo X fo) Z B b1 s0.1:=⟨sB,hbB,hIB⟩
   have ldB:=At4 hbB ⟨Z,hIB⟩
   obtain⟨C1,e6,f6,r8,n6⟩:=Aa3 B rrZ.cs
   obtain⟨b8,hb8⟩:∃b,b=B.blk.length:=⟨_,rfl⟩
   rw[<- hb8]at r8
   have l8:b2<b8:=by have:=Ab3 rb2;omega
   have w6:=f6.wf wB
   have fA6:=hf.ab f6
   obtain⟨_,A8,k8,f8,hR⟩:=Bt5 (R:=x.2.1) (K:=x.2.2) w6 (⟨_,_,_,_,_,rfl,(hIB.fr0 f6).rr.fresh y2 (Nat.le_trans hA4 f6.len)⟩:RRs (xz (xo X fo) Z) A4.blk.length C1 s0.1.rd (.agg (sB.rr s0.1.rd))) y1 (by rw[y2];simp)
   obtain⟨o1',o2',o3'⟩:=y1.cj x.2.1 x.2.2
   rw[y2]at o2'
   have o2':(s0.1.rd.cj x.2.1 x.2.2).2.length<=2001:=by simpa using o2'
   have fA8:=fA6.ab f8
   have fB8:=f6.ab f8
   obtain⟨u8,v8,_,rfl,_⟩:=id hR
   obtain⟨D1,D2,v9,D3,fo3,t1,t2,t3,t4,t5,t6,t7,t8,t10,t9⟩:=Bj5 (fA8.wf hw) (hX3 fA8) (hPZ.fr0 fB8) hR (f8.af r8) (by omega) (Nat.le_trans hA4 fB8.len) (hP2.fr0 fB8) (fun f q=>hP3 f q) (by omega)
   have f1D:=t8 hw fA8 (by have:=hf.len;omega) (by omega) f14.len
   have hvD:=t10.2 (hv.fr0 fB8) (fun f q z=>by have:=pM.bO f q;have:=(hP3 f z).2;omega)
   simp only[RT,Q0,Q1,Q2,Q3,Q4,Q5,Q6,Q7,Q8]
   simp only[RT,Q0,Q1,Q2,Q3,Q4,Q5,Q6,Q7,Q8,BS2,g1,fa,ldB,g5,g7,i1,hfa,lo1,lo2,AI9,Aa1]
   simp only[RT,Q0,Q1,Q2,Q3,Q4,Q5,Q6,Q7,Q8,<- hb8,<- e6]
   refine Aa0 k8 ?_
   simp only[RT,Q0,Q1,Q2,Q3,Q4,Q5,Q6,Q7,Q8,t1,Aa1,t2,g1,fa,t3,g6,t4,g7,hwi]
   refine⟨L.length-(i+1),by omega,i+1,v9,rfl,by omega,rfl,?_⟩
   rw[em]
   exact⟨g2,g5,rfl,f1D,by have:=fB8.len;have:=t10.1;omega,hvD,t9 b2 _ (fB8.af rb2) (by omega) (by omega),fo3,t5,t6,t7⟩
 rintro z e B hz ⟨rfl,v,g1,g2,g6,hf,hA4,rb2,fo,hP1,hP2,hP3⟩
 have wB:=hf.wf hw
 obtain⟨y1,y2,y3,y4,y5⟩:=AV2 hr ha hk hn L.length
 have e:c.cF L.length=c.cP:=by unfold Co.cP Co.cF;rw[<- hL,List.take_length]
 rw[e]at y1 y2 y3 y4 y5
 obtain⟨u,ob1,ob2⟩:=hP1.out
 have hX1:∀f,xo X fo f->f<B.blk.length:=fun f q=>q.elim (hX3 hf f) (hP2.bO f)
 obtain⟨_,B2,m1,m2,u10,v11,fo1,rfl,m3,m4,m5⟩:=B47 (m:=dq B) wB hX1 ob2 y1 y4 (by rw[y5];omega) (Ai2 B) (hP2.gK (fun b cs q=>by cases q)) (by omega)
 have hfB2:=hf.ab m2
 have wB2:=hfB2.wf hw
 obtain⟨cA,hcA⟩:∃cA,cA=c.cX.1:=⟨_,rfl⟩
 obtain⟨oA,hoA⟩:∃oA,oA=c.cX.2:=⟨_,rfl⟩
 have hTick:c.lf=(cA,o3 cA (o2 cA (o1 cA oA))):=by unfold Co.lf again;rw[<- hcA,<- hoA]
 rw[hTick]
 have hol:oA.length<=90000:=by rw[hoA];have:=Am7 c.cP.1 c.cP.2;unfold Co.cX;omega
 have hrA:cA.rd=c.cP.1.rd/\cA.bat=c.cP.1.bat:=by rw[hcA];exact⟨(A12 c.cP.2 (c.cP.1,[],false)).1,(A12 c.cP.2 (c.cP.1,[],false)).2.1⟩
 have m3:RCs (xo X fo1) B2 cA u10:=by rw[hcA];exact m3.sub fun f q=>q.imp .inl id
 have m4:Lst eMsg (qHp (xo X fo1) B2) B2 v11 oA fo1:=by rw[hoA];exact m4.mono (Ae8 fun f q=>q.imp .inl id)
 have m5:∀f,fo1=some f->A.blk.length<=f:=fun f q=>by have:=m5 f q;have:=hf.len;omega
 have hrn:Rng cA.rd:=by rw[hrA.1];exact y1
 have hbt:cA.bat.length<=10000:=by rw[hrA.2,y5];exact hl
 clear hcA hoA hTick hrA
 obtain⟨cB,qB,lB⟩:=(hP1.fr0 m2).box
 obtain⟨C,s4,_,s5,s6,_⟩:=m3.put wB2 qB lB
 have fC:=hfB2.ar s5 (by omega)
 have wC:=fC.wf hw
 have m4:=An5 m4 wB2 qB s5
 have rc2:=s5.aq (m2.af rb2) (by omega)
 have hmZ:mcZ=mc (eU 0) .ah .ah .ah:=rfl
 obtain⟨sC,hbC,hIC⟩:=s6
 have s6:Cx (xo X fo1) C b1 cA:=⟨sC,hbC,hIC⟩
 have ldC:=At4 hbC hIC
 obtain⟨u12,o12,o13⟩:=s6.out
 obtain⟨_,C1,k4,f4,dv,rfl,hq⟩:=Bj1 (R:=cA.rd.now) wC o13 hrn (by omega)
 obtain⟨C2,e11,f11,r11,n11⟩:=Aa3 C1 mcZ
 obtain⟨b11,ka⟩:∃b,b=C1.blk.length:=⟨_,rfl⟩
 rw[<- ka]at r11
 obtain⟨C3,t1,t2,t3⟩:=An3 (y:=(cA.offer cA.rd.now).1) (dv':=dv) (iv':=.ah) (lv':=.ah) (hmZ ▸ r11) rfl hq.id (At3 hq.in_)
 have lm11:=ldM t3 hq.id
 have w11:=f11.wf (f4.wf wC)
 have fCC3:Fr S0 C C3:=(f4.ab f11).ar t2 (by have:=f4.len;omega)
 have fC3:=fC.ab fCC3
 have hin:cw (qHp (xo X fo1) C3) (cA.offer cA.rd.now).1 dv .ah .ah:=(hq.in_.mono (Ac8 f11)).mono (Ae4 t2 (.box r11) w11 fun f q=>.inl q)
 simp only[RT,Q0,Q1,Q2,Q3,Q4,Q5,Q6,Q7,Q8,g1,ob1,g6]
 refine Aa0 m1 ?_
 simp only[RT,Q0,Q1,Q2,Q3,Q4,Q5,Q6,Q7,Q8,g1,s4,o12,fa,fr,ldC]
 refine Aa0 k4 ?_
 simp only[RT,Q0,Q1,Q2,Q3,Q4,Q5,Q6,Q7,Q8,zcM]
 simp only[RT,Q0,Q1,Q2,Q3,Q4,Q5,Q6,Q7,Q8,<- ka,<- e11,t1]
 refine Ah4 (fun z e D=>Is z .normal/\e.get 1=.ptr b1 0/\e.get 2=.ptr b2 0/\∃v fo,e.get 10=v/\Fr S0 A D/\D.blk[b2]?=some ⟨rcZ,.var⟩/\Cx (xo X fo) D b1 cA/\Lst eMsg (qHp (xo X fo) D) D v (o1 cA oA) fo/\(∀f,fo=some f->A.blk.length<=f)/\(o1 cA oA).length<=90001) ?_ ?_
 . cases hb:(cA.offer cA.rd.now).2 with
   |true =>
    obtain⟨v',G,fo2,p1,p2,p3,p4,p5,p6,p7⟩:=AF7 (fC3.wf hw) (hX3 fC3) (Aq6 m4 fCC3) hin (by omega)
    have rd2:=fCC3.af rc2
    have hCG:Cx (xo X fo2) G b1 cA:=(s6.fr0 fCC3).go (fC3.wf hw) p3 p5 (by obtain⟨cs,q,_⟩:=(s6.fr0 fCC3).box;exact Ab0 q) p6 p7
    unfold o1
    rw[if_pos hb]
    simp only[RT,Q0,Q1,Q2,Q3,Q4,Q5,Q6,Q7,Q8,lm11,AU9 hq.id,p1]
    refine⟨rfl,g1,g2,v',fo2,rfl,fC3.eh hw p3 m5,p3.row _ _ rd2 (Ab0 rd2),hCG,p2,fun f q=>?_,by rw[List.length_append];simp;omega⟩
    rcases p4.or q with z |z
    . exact m5 f z
    . have:=fC3.len;omega
   |false =>
    unfold o1
    rw[if_neg (by rw[hb];simp)]
    simp only[RT,Q0,Q1,Q2,Q3,Q4,Q5,Q6,Q7,Q8]
    exact⟨rfl,g1,g2,v11,fo1,rfl,fC3,fCC3.af rc2,s6.fr0 fCC3,Aq6 m4 fCC3,m5,by omega⟩
 clear g1 g2 g6
 rintro z e D ⟨rfl,g1,g2,w1,fo2,g10,fD,rd2,hCD,hMD,jM,hl1⟩
 have wD:=fD.wf hw
 obtain⟨sD,hbD,hID⟩:=hCD
 have hCD:Cx (xo X fo2) D b1 cA:=⟨sD,hbD,hID⟩
 have ldD:=At4 hbD hID
 have hbe:cA.rd.a7.length=32:=(bW.rr hID).be
 obtain⟨_,E,k5,f5,rfl⟩:=A76 (id:=cA.rd.a7) (Ab5 _ D) hID.bs (by omega) hbe
 have fE:=fD.ab f5
 have wE:=fE.wf hw
 have ldE:=At4 (f5.af hbD) (hID.fr0 f5)
 simp only[RT,Q0,Q1,Q2,Q3,Q4,Q5,Q6,Q7,Q8,g1,fa,fr,ldD]
 refine Aa0 k5 ?_
 simp only[RT,Q0,Q1,Q2,Q3,Q4,Q5,Q6,Q7,Q8,g1,fa,fr,ldE]
 obtain⟨t,ht⟩:∃t,t=(aQ cA.bat cA.rd.a7).getD []:=⟨_,rfl⟩
 rw[<- ht]
 refine AZ2 rfl rfl rfl rfl (fun z e F=>Is z .normal/\e.get 1=.ptr b1 0/\e.get 2=.ptr b2 0/\e.get 10=w1/\e.get 13=.str t/\Is F E/\e.get 86=.bool (decide (cA.rd.valid>0/\aQ cA.bat cA.rd.a7≠none))) ?_ ?_
 . by_cases q:cA.rd.valid>0
   rotate_left
   . simp only[RT,Q0,Q1,Q2,Q3,Q4,Q5,Q6,Q7,Q8,DF q]
     refine⟨rfl,g1,g2,g10,rfl,?_⟩
     rw[DF (fun z=>q z.1)]
   . simp only[RT,Q0,Q1,Q2,Q3,Q4,Q5,Q6,Q7,Q8,DT q]
     refine⟨rfl,g1,g2,g10,rfl,?_⟩
     cases hlk:aQ cA.bat cA.rd.a7 with
     |none=>rw[DF (fun z=>z.2 rfl)];rfl
     |some y=>rw[DT ⟨q,by simp⟩];rfl
 clear g1 g2 g10
 rintro z e F ⟨rfl,g1,g2,g10,g13,rfl,g86⟩
 have hCE:=hCD.fr0 f5
 have hME:=Aq6 hMD f5
 have re2:=f5.af rd2
 simp only[RT,Q0,Q1,Q2,Q3,Q4,Q5,Q6,Q7,Q8,g86]
 refine Ah4 (fun z e D=>Is z .normal/\e.get 1=.ptr b1 0/\e.get 2=.ptr b2 0/\∃v fo,e.get 10=v/\Fr S0 A D/\D.blk[b2]?=some ⟨rcZ,.var⟩/\Cx (xo X fo) D b1 cA/\Lst eMsg (qHp (xo X fo) D) D v (o2 cA (o1 cA oA)) fo/\(∀f,fo=some f->A.blk.length<=f)/\(o2 cA (o1 cA oA)).length<=90002) ?_ ?_
 . refine Aa8 (fun q=>?_) (fun q=>?_)
   . obtain⟨A5,e5⟩:∃G,G=F.push ⟨bc t,.arr F.blk.length 0⟩:=⟨_,rfl⟩
     have f6:Fr S0 F A5:=by rw[e5];exact Fr.aF F _
     have r5:A5.blk[F.blk.length]?=some ⟨bc t,.arr F.blk.length 0⟩:=by rw[e5];exact Ab9 F _
     have f15:=fE.ab f6
     have hnX:¬xo X fo2 F.blk.length:=fun q=>by
      rcases q with q |q
      . have:=hX3 fE _ q;omega
      . have:=hMD.bO _ q;have:=f5.len;omega
     have hvm:fY cA=⟨5,cA.rd.me,cA.rd.ai,0,0,0,gF,t,[],[]⟩:=by unfold fY;rw[ht]
     have sZ:cw (qHp (xo X fo2) A5) (fY cA) (.sl F.blk.length 0 t.length 1) .ah .ah:=by
      rw[hvm]
      exact⟨rfl,Br3 (Aj1 r5 hnX) rfl,.inl ⟨rfl,rfl⟩,.inl ⟨rfl,rfl⟩⟩
     obtain⟨v',G,fo3,p1,p2,p3,p4,p5,p6,p7⟩:=AF7 (f15.wf hw) (hX3 f15) (Aq6 hME f6) sZ (by omega)
     have p1:aR TP 51 51 w1 (.sl A5.blk.length 0 1 41) (A5.push ⟨mc ⟨5,cA.rd.me,cA.rd.ai,0,0,0,gF,[],[],[]⟩ (.sl F.blk.length 0 t.length 1) .ah .ah,.arr A5.blk.length 0⟩)=some (v',G):=by rw[hvm]at p1;exact p1
     have rf2:=f6.af re2
     have hCG:Cx (xo X fo3) G b1 cA:=(hCE.fr0 f6).go (f15.wf hw) p3 p5 (by obtain⟨cs,q,_⟩:=(hCE.fr0 f6).box;exact Ab0 q) p6 p7
     obtain⟨sF,hbF,hIF⟩:=hCE
     have ldF:=At4 hbF hIF
     have bm:=AU9 (x:=⟨5,cA.rd.me,cA.rd.ai,0,0,0,gF,[],[],[]⟩) (dv:=.sl F.blk.length 0 t.length 1) (iv:=.ah) (lv:=.ah) rfl
     simp only[RT,Q0,Q1,Q2,Q3,Q4,Q5,Q6,Q7,Q8,g10,g1,fa,fr,ldF,g13,B46]
     simp only[RT,Q0,Q1,Q2,Q3,Q4,Q5,Q6,Q7,Q8,<- e5,Cn7,bm,p1]
     have en:o2 cA (o1 cA oA)=o1 cA oA++[fY cA]:=by unfold o2;rw[if_pos q]
     rw[en]
     refine⟨rfl,g1,g2,v',fo3,rfl,f15.eh hw p3 jM,p3.row _ _ rf2 (Ab0 rf2),hCG,p2,fun f q=>?_,by rw[List.length_append];simp;omega⟩
     rcases p4.or q with z |z
     . exact jM f z
     . have:=f15.len;omega
   . have en:o2 cA (o1 cA oA)=o1 cA oA:=by unfold o2;rw[if_neg q]
     rw[en]
     simp only[RT,Q0,Q1,Q2,Q3,Q4,Q5,Q6,Q7,Q8]
     exact⟨rfl,g1,g2,w1,fo2,g10,fE,re2,hCE,hME,jM,by omega⟩
 clear g1 g2 g10 g13 g86 hCE hME
 rintro z e D' ⟨rfl,g1,g2,w2',fo3,g10,fD',rd2',hCD',hMD',pN,hl2⟩
 have wD':=fD'.wf hw
 obtain⟨u13,o14,o15⟩:=hCD'.out
 obtain⟨_,E1,k6,f6,iv,rfl,hq6⟩:=AP0 wD' o15
 obtain⟨E2,e15,f15,r15,n15⟩:=Aa3 E1 mcZ
 obtain⟨b15,nQ⟩:∃b,b=E1.blk.length:=⟨_,rfl⟩
 rw[<- nQ]at r15
 have w15:=f15.wf (f6.wf wD')
 obtain⟨E3,x1,x2,x3⟩:=An3 (y:=dC cA.rd) (dv':=.ah) (iv':=iv) (lv':=.ah) (hmZ ▸ r15) rfl hq6.id (At3 hq6.in_)
 have lm15:=ldM x3 hq6.id
 have fDE:Fr S0 D' E3:=(f6.ab f15).ar x2 (by have:=f6.len;omega)
 have fE3:=fD'.ab fDE
 have s7:cw (qHp (xo X fo3) E3) (dC cA.rd) .ah iv .ah:=(hq6.in_.mono (Ac8 f15)).mono (Ae4 x2 (.box r15) w15 fun f q=>.inl q)
 have re2:=fDE.af rd2'
 have hCE3:=hCD'.fr0 fDE
 have hME3:=Aq6 hMD' fDE
 simp only[RT,Q0,Q1,Q2,Q3,Q4,Q5,Q6,Q7,Q8,g1,o14]
 refine Aa0 k6 ?_
 simp only[RT,Q0,Q1,Q2,Q3,Q4,Q5,Q6,Q7,Q8,zcM]
 simp only[RT,Q0,Q1,Q2,Q3,Q4,Q5,Q6,Q7,Q8,<- nQ,<- e15,x1]
 by_cases q:0<(cW cA.rd).length
 . obtain⟨v',G,fo4,p1,p2,p3,p4,p5,p6,p7⟩:=AF7 (fE3.wf hw) (hX3 fE3) hME3 s7 (by omega)
   have hCG:Cx (xo X fo4) G b1 cA:=hCE3.go (fE3.wf hw) p3 p5 (by obtain⟨cs,q,_⟩:=hCE3.box;exact Ab0 q) p6 p7
   have fG:=fE3.eh hw p3 pN
   have rG2:=p3.row _ _ re2 (Ab0 re2)
   obtain⟨u9,H,j1,j2,j3,j4,j5⟩:=hCG.fin (fG.wf hw) rG2 Ad9
   simp only[RT,Q0,Q1,Q2,Q3,Q4,Q5,Q6,Q7,Q8,DT q,g10,lm15,AU9 hq6.id,p1,g1,j1,g2,j2,j3]
   have en:o3 cA (o2 cA (o1 cA oA))=o2 cA (o1 cA oA)++[dC cA.rd]:=by unfold o3;rw[if_pos q]
   rw[en]
   refine⟨fG.ar j4 (by omega),u9,v',fo4,rfl,j5,An5 p2 (fG.wf hw) rG2 j4,fun f q=>?_⟩
   rcases p4.or q with z |z
   . have:=pN f z;omega
   . have:=fE3.len;omega
 . obtain⟨u9,H,j1,j2,j3,j4,j5⟩:=hCE3.fin (fE3.wf hw) re2 Ad9
   simp only[RT,Q0,Q1,Q2,Q3,Q4,Q5,Q6,Q7,Q8,DF q,g1,j1,g10,g2,j2,j3]
   have en:o3 cA (o2 cA (o1 cA oA))=o2 cA (o1 cA oA):=by unfold o3;rw[if_neg q]
   rw[en]
   exact⟨fE3.ar j4 (by omega),u9,w2',fo3,rfl,j5,An5 hME3 (fE3.wf hw) re2 j4,fun f q=>by have:=pN f q;omega⟩
end
end Go.Sv.Tryz
namespace Go.Sv
open Go
def oM(ids:List Bts)(r:Rd)(i:Nat):Rd:=r.cI ⟨2,((i/2:Nat):Int),((i%2:Nat):Int),0,(ids[i]?).getD z32⟩
def iW(r:Rd)(ids:List Bts)(i:Nat):Rd:=(List.range i).foldl (oM ids) r
def oN(r:Rd)(ids:List Bts):Rd:=iW r ids ids.length
def Co.pO(c:Co)(x:M):Co:={ c.eu x.data with rd:=(c.rd.cK (az x.data)).cI ⟨1,x.round,0,x.valid,az x.data⟩ }
def Co.dg(c:Co)(x:M):Co :=
 if x.ai≠c.rd.ai then c else if x.kind=3 then c.pO x else if x.kind=4 then { c with rd:=oN c.rd x.ids }else c
def Co.cI(c:Co)(l:List M):Co:=l.foldl Co.dg c
theorem AF9(r:Rd)(ids:List Bts)(i:Nat):iW r ids (i+1)=oM ids (iW r ids i) i:=by
 unfold iW;rw[List.range_succ,List.foldl_append];rfl
def rn(x:M):Prop:=x.ids.length<=1000000/\x.data.length<=1000000
end Go.Sv
namespace Go.Sv.Tryz
open Go Go.Proofs
section
variable {X Y:Nat->Prop} {A B C:AS} {K:CoK} {c c1 c2:Co} {fk ft fk1 ft1 fk2 ft2 fo fo2:Option Nat}
theorem aA.leK(hw:WF A)(h:aA X A K fk ft B fk1 ft1 fo c):(qHp (XCo K fk ft) A).le (qHp (XCo K fk1 ft1) B):=Ae4 h.fr TM.tch hw fun f q=>by
 rcases q with(⟨j,hj,rfl⟩ |q) |q
 . exact .inl (.inl (.inl ⟨j,hj,rfl⟩))
 . exact(h.g1.or q).imp (fun z=>.inl (.inr z)) id
 . exact(h.g2.or q).imp (fun z=>.inr z) id
theorem B60(g:Nat->V)(K R W:Int):au TP 123 [(0,.int .i64 K),(1,.int .i64 R),(3,.int .i64 W),(4,.agg ((List.range 32).map g))]=some (.agg (.int .i64 K::.int .i64 R::.int .i64 0::.int .i64 W::(List.range 32).map g)):=by kernel_rfl
theorem Cn8{x:Bts}(h:x.length=32)(R W:Int):au TP 123 [(0,.int .i64 1),(1,.int .i64 R),(3,.int .i64 W),(4,.agg (bc x))]=some (.agg (aX ⟨1,R,0,W,x⟩)):=by
 obtain⟨g,hg⟩:=Ac3 (l:=bc x) (n:=32) (by rw[Aa7,h])
 unfold aX;simp only[];rw[hg];exact B60 g 1 R W
theorem B61(g:Nat->V)(K R N:Int):au TP 123 [(0,.int .i64 K),(1,.int .i64 R),(2,.int .i64 N),(4,.agg ((List.range 32).map g))]=some (.agg (.int .i64 K::.int .i64 R::.int .i64 N::.int .i64 0::(List.range 32).map g)):=by kernel_rfl
theorem Cn9{x:Bts}(h:x.length=32)(R N:Int):au TP 123 [(0,.int .i64 2),(1,.int .i64 R),(2,.int .i64 N),(4,.agg (bc x))]=some (.agg (aX ⟨2,R,N,0,x⟩)):=by
 obtain⟨g,hg⟩:=Ac3 (l:=bc x) (n:=32) (by rw[Aa7,h])
 unfold aX;simp only[];rw[hg];exact B61 g 2 R N
theorem CB7(i:Nat)(hi:i<=1000000):aw TP .quo 3 (.int .i64 (i:Int)) (.int .i64 2)=some (.int .i64 ((i/2:Nat):Int)):=by
 rw[As2,if_neg (by omega)]
 have:(i:Int).tdiv 2=((i/2:Nat):Int):=rfl
 rw[this,Ac6 (by omega) (by omega)]
theorem CB8(i:Nat):aw TP .rem 3 (.int .i64 (i:Int)) (.int .i64 2)=some (.int .i64 ((i%2:Nat):Int)):=by
 rw[Al8,if_neg (by omega)];rfl
theorem BH1{m:Hp}{w:V}{x:M}(h:eMsg.W m w x):∃dv iv lv,w=.agg (mc x dv iv lv)/\cw m x dv iv lv:=by
 unfold Enc.W at h
 rw[if_pos (by rfl)]at h
 obtain⟨cs,rfl,dv,iv,lv,rfl,g⟩:=h
 exact⟨dv,iv,lv,rfl,g⟩
set_option maxRecDepth 10000 in
set_option maxHeartbeats 32000000 in
theorem AP2{v:V}{l:List M}(hw:WF A)(h:bV X A K fk ft c)(hl:Slc eMsg (qHp (XCo K fk ft) A) v l)(hb:∀x∈l,rn x)(hln:l.length<=1000000000):
 ∃u A',EvF TP HH 14 [.ptr K.cb 0,v] A u A'/\∃fk',aA X A K fk ft A' fk' ft none (c.cI l):=by
 refine Aa4 rfl Tryz.func14 (by unfold Tryz.f14;rfl) Tryz.ntmps14 (by unfold Tryz.f14;rfl) (by simp) ?_
 have s9:=fun B=>hl.len (P:=TP) Tryz.underlying51 B
 simp only[RT,Q0,Q1,Q2,Q3,Q4,Q5,Q6,Q7,Q8,s9]
 refine Aa6 (fun z e B=>∃(j:Nat) (fk':Option Nat),z=l.length-j/\j<=l.length/\e.get 10=.int .i64 j/\aA X A K fk ft B fk' ft none (c.cI (l.take j))/\e.get 0=.ptr K.cb 0/\e.get 8=v/\e.get 9=.int .i64 l.length)
  (fun z e B=>Is z (.exit 0)/\∃fk',aA X A K fk ft B fk' ft none (c.cI l))
  ⟨_,0,fk,rfl,by omega,rfl,.da h,rfl,rfl,rfl⟩ ?_ ?_
 rotate_left
 . rintro z e B hz ⟨rfl,fk',q⟩
   simp only[RT,Q0,Q1,Q2,Q3,Q4,Q5,Q6,Q7,Q8]
   exact⟨fk',q⟩
 rintro z e B ⟨j,fk',rfl,hj,h10,hS,h0,h8,h9⟩
 simp only[RT,Q0,Q1,Q2,Q3,Q4,Q5,Q6,Q7,Q8,h9,h10]
 refine Aa8 (fun g1=>?_) (fun g1=>?_)
 rotate_left
 . have:j=l.length:=by omega
   subst this
   rw[List.take_length]at hS
   simp only[RT,Q0,Q1,Q2,Q3,Q4,Q5,Q6,Q7,Q8]
   exact⟨rfl,fk',hS⟩
 obtain⟨x,hx⟩:=Ac7 (l:=l) (i:=j) (by omega)
 have hxm:=List.mem_of_getElem? hx
 have wB:=hS.wf hw
 have hlB:=hl.mono (hS.leK hw)
 obtain⟨b2,o2,c2,g3,g4,g5⟩:=hlB.at (P:=TP) (k:=.i64) (Ab5 _ B) Tryz.underlying51 Br4 BY2 hx
 obtain⟨dv,iv,lv,rfl,hin⟩:=BH1 g5
 obtain⟨C,e1,e2,e3⟩:=Au3 hin
 obtain⟨b5,hb5⟩:∃b,b=B.blk.length:=⟨_,rfl⟩
 rw[<- hb5]at e1 e3
 have hSC:=hS.ab e2
 have wC:=e2.wf wB
 have fm:=faM b5
 have lm:=ldM e3 hin.id
 have hwr:IntKind.i64.wrap ((j:Int)+1)=((j+1:Nat):Int):=by rw[Ac2 (by omega)]
 have ne5:b5≠K.cb/\b5≠K.rp:=by have:=hS.co.lt;omega
 have em:c.cI (l.take (j+1))=Co.dg (c.cI (l.take j)) x:=by unfold Co.cI;exact As6 hx
 obtain⟨s,hs⟩:∃s,s=c.cI (l.take j):=⟨_,rfl⟩
 rw[<- hs]at hSC em
 clear hS
 obtain⟨tv,dv0,bl,y1,_⟩:=hSC.co.cm.ex
 have ld:=Ap2 y1
 simp only[RT,Q0,Q1,Q2,Q3,Q4,Q5,Q6,Q7,Q8,h8,h10,g3,g4,zcM,<- hb5,e1]
 rw[BS3,Aa2 (by rfl)]
 by_cases q1:x.ai=s.rd.ai
 rotate_left
 . simp only[RT,Q0,Q1,Q2,Q3,Q4,Q5,Q6,Q7,Q8,fm,lm,h0,An0 K.cb,ld,DT (show ¬x.ai=s.rd.ai from q1),h10,hwr]
   refine⟨l.length-(j+1),by omega,j+1,fk',rfl,by omega,?_⟩
   have e:Co.dg s x=s:=by unfold Co.dg;rw[if_pos q1]
   rw[em,e]
   and_intros<;>first |rfl |assumption
 simp only[RT,Q0,Q1,Q2,Q3,Q4,Q5,Q6,Q7,Q8,fm,lm,h0,An0 K.cb,ld,DF (show ¬ ¬x.ai=s.rd.ai from fun z=>z q1)]
 have hinC:=hin.mono (Ac8 e2)
 have hrd:=hSC.co.rd
 by_cases k3:x.kind=3
 . obtain⟨D,m1,m2⟩:=hSC.co.eu wC (Ab5 _ C) hinC.data (hb x hxm).2
   have wD:=m2.wf wC
   have rD:=m2.fr.row _ _ e3 (TM.box e3 (by rintro(q |q);exact ne5.1 q;exact ne5.2 q))
   have lmD:=ldM rD hin.id
   obtain⟨tvD,dvD,blD,yD,_⟩:=m2.co.cm.ex
   have ldD:=Ap2 yD
   have hr:=m2.co.rng
   obtain⟨u1,E,n1,n2⟩:=Aw3 wD m2.co.rd hr (Ab4 x.data)
   have hrm:=hr.gh (az x.data)
   obtain⟨fkE,n3⟩:=m2.co.mC wD n2 (AF5 _ _) hrm.1 (hrm.2.trans m2.co.al)
   have wE:=n3.wf wD
   have rE:=n3.fr.row _ _ rD (TM.box rD (by rintro(q |q);exact ne5.1 q;exact ne5.2 q))
   have lmE:=ldM rE hin.id
   obtain⟨tvE,dvE,blE,yE,_⟩:=n3.co.cm.ex
   have ldE:=Ap2 yE
   have hinE:=(hinC.mono (m2.leK wC)).mono (n3.leK wD)
   obtain⟨_,F,o1,o2,rfl⟩:=AF1 wE (Ab5 _ E) hinE.data (by have:=(hb x hxm).2;omega)
   have n4:=n3.ab o2
   have wF:=o2.wf wE
   have lmF:=ldM (o2.af rE) hin.id
   have ldF:=Ap2 (o2.af yE)
   have hrF:=n4.co.rng
   obtain⟨u2,G,p1,p2⟩:=AF0 wF n4.co.rd hrF (a:=⟨1,x.round,0,x.valid,az x.data⟩) (Ab4 x.data)
   have hrc:=hrF.lR ⟨1,x.round,0,x.valid,az x.data⟩
   obtain⟨fkG,p3⟩:=n4.co.mC wF p2 (AU8 _ _) hrc.1 (hrc.2.trans n4.co.al)
   have p4:=hSC.next hw (m2.next wC (n4.next wD p3 (fo:=none) (fun f q=>by cases q)) (fo:=none) (fun f q=>by cases q)) (fo:=none) (fun f q=>by cases q)
   simp only[RT,Q0,Q1,Q2,Q3,Q4,Q5,Q6,Q7,Q8,DT k3,BS4,Aa1,h0,An0 K.cb,ld,fm,lm]
   refine Aa0 m1 ?_
   simp only[RT,Q0,Q1,Q2,Q3,Q4,Q5,Q6,Q7,Q8,Aa1]
   refine⟨Aa5 (ha:=rfl) rfl ldD.1 rfl Aa1,?_⟩
   refine Aa0 n1 ?_
   simp only[RT,Q0,Q1,Q2,Q3,Q4,Q5,Q6,Q7,Q8,BS5,Aa1,h0,An0 K.cb,ldE,fm,lmE]
   refine Aa0 o1 ?_
   simp only[RT,Q0,Q1,Q2,Q3,Q4,Q5,Q6,Q7,Q8,Aa1]
   refine⟨Aa5 (ha:=rfl) rfl ldF.1 rfl (Aa5 (ha:=rfl) rfl lmF.2.2.2.1 rfl (Aa5 (ha:=rfl) rfl lmF.2.2.2.2.1 rfl Aa1)),?_⟩
   simp only[RT,Q0,Q1,Q2,Q3,Q4,Q5,Q6,Q7,Q8,Cn8 (Ab4 x.data),Aa1]
   refine Aa0 p1 ?_
   simp only[RT,Q0,Q1,Q2,Q3,Q4,Q5,Q6,Q7,Q8,Aa1,h10,hwr]
   refine⟨l.length-(j+1),by omega,j+1,fkG,rfl,by omega,?_⟩
   have e:Co.dg s x=s.pO x:=by unfold Co.dg;rw[if_neg (fun z=>z q1),if_pos k3]
   rw[em,e]
   and_intros<;>first |rfl |assumption
 by_cases k4:x.kind=4
 rotate_left
 . simp only[RT,Q0,Q1,Q2,Q3,Q4,Q5,Q6,Q7,Q8,DF k3,DF k4,h10,hwr]
   refine⟨l.length-(j+1),by omega,j+1,fk',rfl,by omega,?_⟩
   have e:Co.dg s x=s:=by unfold Co.dg;rw[if_neg (fun z=>z q1),if_neg k3,if_neg k4]
   rw[em,e]
   and_intros<;>first |rfl |assumption
 have e:Co.dg s x={ s with rd:=oN s.rd x.ids }:=by unfold Co.dg;rw[if_neg (fun z=>z q1),if_neg k3,if_pos k4]
 rw[e]at em
 have hil:=fun B=>hinC.ids.len (P:=TP) Tryz.underlying32 B
 have hib:=(hb x hxm).1
 simp only[RT,Q0,Q1,Q2,Q3,Q4,Q5,Q6,Q7,Q8,DF k3,DT k4,fm,lm,hil]
 refine Aa6 (fun z e B=>∃(i:Nat) (fk2:Option Nat),z=x.ids.length-i/\i<=x.ids.length/\e.get 52=.int .i64 i/\aA X A K fk ft B fk2 ft none { s with rd:=iW s.rd x.ids i }/\(qHp (XCo K fk' ft) C).le (qHp (XCo K fk2 ft) B)/\e.get 0=.ptr K.cb 0/\e.get 8=v/\e.get 9=.int .i64 l.length/\e.get 10=.int .i64 j/\e.get 50=iv/\e.get 51=.int .i64 x.ids.length)
  (fun z e B=>Is z (.exit 3)/\∃fk',aA X A K fk ft B fk' ft none { s with rd:=oN s.rd x.ids }/\e.get 0=.ptr K.cb 0/\e.get 8=v/\e.get 9=.int .i64 l.length/\e.get 10=.int .i64 j)
  ⟨_,0,fk',rfl,by omega,rfl,hSC,Hp.le_refl _,h0,h8,h9,h10,rfl,rfl⟩ ?_ ?_
 rotate_left
 . rintro z e B' hz ⟨rfl,fk2,hS2,h0,h8,h9,h10⟩
   simp only[RT,Q0,Q1,Q2,Q3,Q4,Q5,Q6,Q7,Q8,h10,hwr]
   refine⟨l.length-(j+1),by omega,j+1,fk2,rfl,by omega,?_⟩
   rw[em]
   and_intros<;>first |rfl |assumption
 rintro z e B' ⟨i,fk2,rfl,hi,h52,hS2,hle,h0,h8,h9,h10,h50,h51⟩
 simp only[RT,Q0,Q1,Q2,Q3,Q4,Q5,Q6,Q7,Q8,h51,h52]
 refine Aa8 (fun g2=>?_) (fun g2=>?_)
 rotate_left
 . have:i=x.ids.length:=by omega
   subst this
   simp only[RT,Q0,Q1,Q2,Q3,Q4,Q5,Q6,Q7,Q8]
   refine⟨rfl,fk2,?_⟩
   and_intros<;>first |rfl |assumption
 obtain⟨id,hid⟩:=Ac7 (l:=x.ids) (i:=i) (by omega)
 have hgd:(x.ids[i]?).getD z32=id:=by rw[hid];rfl
 have w2:=hS2.wf hw
 obtain⟨b3,o3,c3,t3,t4,t5⟩:=(hinC.ids.mono hle).at (P:=TP) (k:=.i64) (Ab5 _ B') Tryz.underlying32 Ap3 Av4 hid
 obtain⟨rfl,dt⟩:=Bf8.1 t5
 obtain⟨E,x1,x2,x3⟩:=BX9 (A:=B') id dt
 have hSE:=hS2.ab x2
 have wE:=x2.wf w2
 have l3:=ldI x3 dt
 obtain⟨tvE,dvE,blE,yE,_⟩:=hSE.co.cm.ex
 have ldE:=Ap2 yE
 have hrE:=hSE.co.rng
 obtain⟨u2,G,p1,p2⟩:=AF0 wE hSE.co.rd hrE (a:=⟨2,((i/2:Nat):Int),((i%2:Nat):Int),0,id⟩) dt
 have hrc:=hrE.lR ⟨2,((i/2:Nat):Int),((i%2:Nat):Int),0,id⟩
 obtain⟨fkG,p3⟩:=hSE.co.mC wE p2 (AU8 _ _) hrc.1 (hrc.2.trans hSE.co.al)
 have p4:=hSE.next hw p3 (fo:=none) (fun f q=>by cases q)
 have ta:(qHp (XCo K fk' ft) C).le (qHp (XCo K fkG ft) G):=Hp.le_trans (Hp.le_trans hle (Ac8 x2)) (p3.leK wE)
 have hwi:IntKind.i64.wrap ((i:Int)+1)=((i+1:Nat):Int):=by rw[Ac2 (by omega)]
 have ei:iW s.rd x.ids (i+1)=(iW s.rd x.ids i).cI ⟨2,((i/2:Nat):Int),((i%2:Nat):Int),0,id⟩:=by rw[AF9,oM,hgd]
 simp only[RT,Q0,Q1,Q2,Q3,Q4,Q5,Q6,Q7,Q8,h50,h52,t3,t4,Av8,x1]
 rw[BA3,Aa2 (by rfl)]
 simp only[RT,Q0,Q1,Q2,Q3,Q4,Q5,Q6,Q7,Q8,h0,An0 K.cb,ldE,CB7 i (by omega),CB8 i,l3,Cn9 dt]
 refine Aa0 p1 ?_
 simp only[RT,Q0,Q1,Q2,Q3,Q4,Q5,Q6,Q7,Q8,h52,hwi]
 refine⟨x.ids.length-(i+1),by omega,i+1,fkG,rfl,by omega,?_⟩
 rw[ei]
 and_intros<;>first |rfl |assumption
end
end Go.Sv.Tryz
namespace Go.Sv.Tryz
open Go Go.Proofs
section
variable {X Y Z:Nat->Prop} {A B C D:AS} {c c':Co} {s:RcV} {w:V} {b:Nat} {r:Rd} {S:Loc->Prop} {fo fo2:Option Nat} {N N':Nat}
theorem AG0(hr:Rng r)(ids:List Bts):∀i,Rng (iW r ids i)/\(iW r ids i).al=r.al
 | 0=>⟨hr,rfl⟩
 |i+1=>by
  obtain⟨h1,h2⟩:=AG0 hr ids i
  rw[AF9]
  have k:=h1.lR ⟨2,((i/2:Nat):Int),((i%2:Nat):Int),0,(ids[i]?).getD z32⟩
  exact⟨k.1,k.2.trans h2⟩
set_option maxRecDepth 20000 in
set_option maxHeartbeats 64000000 in
theorem Bv2{m:Hp}{x:M}{dv iv lv:V}(hw:WF A)(hX:∀f,X f->f<A.blk.length)(h:RCs X A c w)(hr:Rng c.rd)(hl:c.bat.length<=10000)(hm:m.on A)(hx:cw m x dv iv lv)(hil:x.ids.length<=1000000)(hdl:x.data.length<=1000000):
 ∃u A',EvF TP HH 15 [w,.agg (mc x dv iv lv)] A u A'/\Fr S0 A A'/\RCs X A' (c.dg x) u:=by
 refine Aa4 rfl Tryz.func15 (by unfold Tryz.f15;rfl) Tryz.ntmps15 (by unfold Tryz.f15;rfl) (by simp) ?_
 obtain⟨cs,rfl,A1,e1,f1,hB1⟩:=h.new
 obtain⟨b2,hb2⟩:∃b,b=A.blk.length:=⟨_,rfl⟩
 rw[<- hb2]at hB1
 obtain⟨A2,e2,f2,r3,n2⟩:=Aa3 A1 (mc x dv iv lv)
 obtain⟨b3,hb3⟩:∃b,b=A1.blk.length:=⟨_,rfl⟩
 rw[<- hb3]at r3
 obtain⟨A3,e3,f3,r4,n3⟩:=Aa3 A2 rcZ
 obtain⟨b4,hb4⟩:∃b,b=A2.blk.length:=⟨_,rfl⟩
 rw[<- hb4]at r4
 have l3:b2<b3/\b3<b4:=by have:=hB1.lt;have:=Ab3 r3;omega
 have f13:=(f1.ab f2).ab f3
 have w3:=f13.wf hw
 have hB3:=(hB1.fr0 f2).fr0 f3
 have r3':=f3.af r3
 obtain⟨s,hb,hI⟩:=hB3
 have hB3:Cx X A3 b2 c:=⟨s,hb,hI⟩
 have fa:=Bf4 b2
 have fr:=AJ1 b2
 have fm:=faM b3
 have ld:=At4 hb hI
 have lm:=ldM r3' hx.id
 have hlnI:=fun B=>hx.ids.len (P:=TP) Tryz.underlying32 B
 have hcv:∀{B:AS},Fr S0 A B->cnv TP 45 9 (some dv) B=some (.val (.str x.data)):=fun {B} hf=>Ah2 (by decide) hx.data (hm.fr0 hf) Tryz.underlying45 Tryz.underlying5 Tryz.underlying9
 obtain⟨u0,D0,dd1,dd2,dd3,dd4,dd5⟩:=hB3.fin w3 r4 Ad9
 simp only[RT,Q0,Q1,Q2,Q3,Q4,Q5,Q6,Q7,Q8,<- e1,<- hb2]
 simp only[RT,Q0,Q1,Q2,Q3,Q4,Q5,Q6,Q7,Q8,<- hb3,<- e2]
 simp only[RT,Q0,Q1,Q2,Q3,Q4,Q5,Q6,Q7,Q8,Bc5,<- hb4,<- e3,fm,fa,fr,ld,lm]
 unfold Co.dg
 by_cases q1:x.ai=c.rd.ai
 rotate_left
 . simp only[RT,Q0,Q1,Q2,Q3,Q4,Q5,Q6,Q7,Q8,DT (show ¬x.ai=c.rd.ai from q1),dd1,dd2,dd3]
   rw[if_pos q1]
   exact⟨f13.ar dd4 (by omega),dd5⟩
 rw[if_neg (fun z=>z q1)]
 simp only[RT,Q0,Q1,Q2,Q3,Q4,Q5,Q6,Q7,Q8,DF (show ¬ ¬x.ai=c.rd.ai from fun z=>z q1),fm,lm]
 by_cases k3:x.kind=3
 . rw[if_pos k3]
   unfold Co.pO
   have k4:¬x.kind=4:=by omega
   obtain⟨u,o1,o2⟩:=hB3.out
   obtain⟨u4,A4,g4,f4,h4⟩:=B42 (t:=x.data) w3 o2 (by omega) (by omega)
   have f14:=f13.ab f4
   have w4:=f14.wf hw
   obtain⟨A5,s1,s2,s3⟩:=(hB3.fr0 f4).set w4 h4
   have f15:=f14.ar s2 (by omega)
   have w5:=f15.wf hw
   have r35:=s2.aq (f4.af r3') (by omega)
   have r45:=s2.aq (f4.af r4) (by omega)
   obtain⟨s5,hb5,Z,hZ⟩:=s3
   have s3:CxZ X Z A5 b2 (c.eu x.data):=⟨s5,hb5,hZ⟩
   have ld5:=At4 hb5 ⟨Z,hZ⟩
   have lm5:=ldM r35 hx.id
   obtain⟨_,A6,k6,f6,rfl⟩:=rId (s:=x.data) w5 (by omega)
   have f16:=f15.ab f6
   have w6:=f16.wf hw
   have ld6:=At4 (f6.af hb5) (bW.fr0 ⟨Z,hZ⟩ f6)
   have hh:(c.eu x.data).rd=c.rd:=rfl
   obtain⟨u7,A7,k7,f7,h7⟩:=AU3 (id:=az x.data) w6 (⟨_,_,_,_,_,rfl,(hZ.fr0 f6).rr⟩:RRs (xz X Z) 0 A6 c.rd (.agg (s5.rr c.rd))) hr (Ab4 x.data)
   have f57:=f6.ab f7
   have w7:=f57.wf w5
   obtain⟨A8,t1,t2,t3⟩:=(s3.fr0 f57).nH w7 h7
   have f18:=(f15.ab f57).ar t2 (by omega)
   have w8:=f18.wf hw
   have r38:=t2.aq (f57.af r35) (by omega)
   have r48:=t2.aq (f57.af r45) (by omega)
   obtain⟨s8,hb8,h8⟩:=t3
   have t3:CxZ X Z A8 b2 _:=⟨s8,hb8,h8⟩
   have ld8:=At4 hb8 ⟨Z,h8⟩
   have lm8:=ldM r38 hx.id
   obtain⟨_,A9,k9,f9,rfl⟩:=rId (s:=x.data) w8 (by omega)
   have w9:=f9.wf w8
   have ld9:=At4 (f9.af hb8) (bW.fr0 ⟨Z,h8⟩ f9)
   have lm9:=ldM (f9.af r38) hx.id
   obtain⟨y1,y2⟩:=hr.gh (az x.data)
   obtain⟨u10,A10,k10,f10,h10⟩:=Bi5 (a:=⟨1,x.round,0,x.valid,az x.data⟩) w9 (⟨_,_,_,_,_,rfl,(h8.fr0 f9).rr⟩:RRs (xz X Z) 0 A9 (c.rd.cK (az x.data)) (.agg (s8.rr (c.rd.cK (az x.data))))) y1 (Ab4 x.data)
   have f810:=f9.ab f10
   have w10:=f810.wf w8
   obtain⟨A11,v1,v2,v3⟩:=(t3.fr0 f810).nH w10 h10
   have w11:=v2.wf w10
   obtain⟨u12,D,j1,j2,j3,j4,j5⟩:=v3.cx.fin w11 (v2.aq (f810.af r48) (by omega)) Ad9
   have lm11:=ldM (v2.aq (f810.af r38) (by omega)) hx.id
   rw[hh]at ld5 ld6
   simp only[RT,Q0,Q1,Q2,Q3,Q4,Q5,Q6,Q7,Q8,DT k3,o1,fm,lm,hcv f13]
   refine Aa0 g4 ?_
   simp only[RT,Q0,Q1,Q2,Q3,Q4,Q5,Q6,Q7,Q8,s1]
   simp only[RT,Q0,Q1,Q2,Q3,Q4,Q5,Q6,Q7,Q8,BS6,fa,ld5,fm,lm5,hcv f15,Aa1]
   refine Aa0 k6 ?_
   simp only[RT,Q0,Q1,Q2,Q3,Q4,Q5,Q6,Q7,Q8]
   refine⟨Aa5 (ha:=rfl) rfl ld6.2.2.2.2.2.2.2.2.2.2.2.2.1 rfl Aa1,?_⟩
   refine Aa0 k7 ?_
   simp only[RT,Q0,Q1,Q2,Q3,Q4,Q5,Q6,Q7,Q8,fa,t1,Aa1]
   simp only[RT,Q0,Q1,Q2,Q3,Q4,Q5,Q6,Q7,Q8,BS7,fa,ld8,fm,lm8,hcv f18,Aa1]
   refine Aa0 k9 ?_
   simp only[RT,Q0,Q1,Q2,Q3,Q4,Q5,Q6,Q7,Q8]
   refine⟨Aa5 (ha:=rfl) rfl ld9.2.2.2.2.2.2.2.2.2.2.2.2.1 rfl <| Aa5 (ha:=rfl) rfl lm9.2.2.2.1 rfl <| Aa5 (ha:=rfl) rfl lm9.2.2.2.2.1 rfl Aa1,?_⟩
   simp only[RT,Q0,Q1,Q2,Q3,Q4,Q5,Q6,Q7,Q8,Bh6 (Ab4 x.data),Aa1]
   refine Aa0 k10 ?_
   simp only[RT,Q0,Q1,Q2,Q3,Q4,Q5,Q6,Q7,Q8,fa,v1,Aa1,fm,lm11,DF k4,j1,j2,j3]
   exact⟨((f18.ab f810).ar v2 (by omega)).ar j4 (by omega),j5⟩
 rw[if_neg k3]
 by_cases k4:x.kind=4
 rotate_left
 . rw[if_neg k4]
   simp only[RT,Q0,Q1,Q2,Q3,Q4,Q5,Q6,Q7,Q8,DF k3,fm,lm,DF k4,dd1,dd2,dd3]
   exact⟨f13.ar dd4 (by omega),dd5⟩
 rw[if_pos k4]
 simp only[RT,Q0,Q1,Q2,Q3,Q4,Q5,Q6,Q7,Q8,DF k3,fm,lm,DT k4]
 refine Aa6 (fun z e B=>∃(i:Nat),z=x.ids.length-i/\i<=x.ids.length/\e.get 5=.int .i64 i/\e.get 2=.ptr b2 0/\e.get 3=.ptr b3 0/\e.get 4=.ptr b4 0/\Fr S0 A B/\B.blk[b3]?=some ⟨mc x dv iv lv,.var⟩/\B.blk[b4]?=some ⟨rcZ,.var⟩/\Cx X B b2 { c with rd:=iW c.rd x.ids i })
  (fun z e B=>Is z (.exit 0)/\e.get 2=.ptr b2 0/\e.get 4=.ptr b4 0/\Fr S0 A B/\B.blk[b4]?=some ⟨rcZ,.var⟩/\Cx X B b2 { c with rd:=oN c.rd x.ids })
  ⟨_,0,rfl,by omega,rfl,rfl,rfl,rfl,f13,r3',r4,hB3⟩ ?_ ?_
 rotate_left
 . rintro z e B hz ⟨rfl,g2,g4,hf,rb4,hC⟩
   obtain⟨u,D,y1,y2,y3,y4,y5⟩:=hC.fin (hf.wf hw) rb4 Ad9
   simp only[RT,Q0,Q1,Q2,Q3,Q4,Q5,Q6,Q7,Q8,g2,y1,g4,y2,y3]
   exact⟨hf.ar y4 (by omega),y5⟩
 rintro z e B ⟨i,rfl,hi,g5,g2,g3,g4,hf,rb3,rb4,hC⟩
 have lmB:=ldM rb3 hx.id
 simp only[RT,Q0,Q1,Q2,Q3,Q4,Q5,Q6,Q7,Q8,g5,g3,fm,lmB,hlnI]
 refine Aa8 (fun q2=>?_) (fun q2=>?_)
 rotate_left
 . have:i=x.ids.length:=by omega
   subst this
   simp only[RT,Q0,Q1,Q2,Q3,Q4,Q5,Q6,Q7,Q8]
   exact⟨rfl,g2,g4,hf,rb4,hC⟩
 have wB:=hf.wf hw
 obtain⟨y,hy⟩:=Ac7 (l:=x.ids) (i:=i) (by omega)
 obtain⟨bb,oo,i1,i2,i3⟩:=Cn3 (hm.fr0 hf) hx.ids hy
 have hwi:IntKind.i64.wrap ((i:Int)+1)=((i+1:Nat):Int):=by rw[Ac2 (by omega)]
 have d1:aw TP .quo 3 (.int .i64 (i:Int)) (.int .i64 2)=some (.int .i64 ((i/2:Nat):Int)):=AA0 _ 2 (by decide) (by omega)
 have d2:aw TP .rem 3 (.int .i64 (i:Int)) (.int .i64 2)=some (.int .i64 ((i%2:Nat):Int)):=Av1 _ 2 (by decide)
 obtain⟨y1,y2⟩:=AG0 hr x.ids i
 obtain⟨Z,hCZ⟩:=hC.z
 obtain⟨sB,hbB,hIB⟩:=hCZ
 have hCZ:CxZ X Z B b2 _:=⟨sB,hbB,hIB⟩
 have ldB:=At4 hbB ⟨Z,hIB⟩
 obtain⟨u10,A10,k10,f10,h10⟩:=Bi5 (a:=⟨2,((i/2:Nat):Int),((i%2:Nat):Int),0,y⟩) wB (⟨_,_,_,_,_,rfl,hIB.rr⟩:RRs (xz X Z) 0 B (iW c.rd x.ids i) (.agg (sB.rr (iW c.rd x.ids i)))) y1 i3
 obtain⟨A11,v1,v2,v3⟩:=(hCZ.fr0 f10).nH (f10.wf wB) h10
 have er:(iW c.rd x.ids i).cI ⟨2,((i/2:Nat):Int),((i%2:Nat):Int),0,y⟩=iW c.rd x.ids (i+1):=by rw[AF9];unfold oM;rw[hy];rfl
 rw[er]at v3
 simp only[RT,Q0,Q1,Q2,Q3,Q4,Q5,Q6,Q7,Q8]
 rw[BA4,Aa2 (by rfl)]
 simp only[RT,Q0,Q1,Q2,Q3,Q4,Q5,Q6,Q7,Q8,g2,fa,ldB,g5,d1,d2,g3,fm,lmB,i1,i2,BG1 i3]
 refine Aa0 k10 ?_
 simp only[RT,Q0,Q1,Q2,Q3,Q4,Q5,Q6,Q7,Q8,g2,fa,v1,g5,hwi]
 refine⟨x.ids.length-(i+1),by omega,i+1,rfl,by omega,rfl,?_⟩
 exact⟨g3,g4,(hf.ab f10).ar v2 (by omega),v2.aq (f10.af rb3) (by omega),v2.aq (f10.af rb4) (by omega),v3.cx⟩
end
end Go.Sv.Tryz
namespace Go.Sv.Tryz
open Go Go.Proofs
section
variable {X Y:Nat->Prop} {A B C:AS} {K:CoK} {c c1 c2:Co} {fk ft fk1 ft1 fk2 ft2 fo fo2:Option Nat}
set_option maxRecDepth 10000 in
set_option maxHeartbeats 16000000 in
theorem AJ3{v:V}{b:Bts}(hw:WF A)(h:bV X A K fk ft c)(hv:Slc eU8 (qHp X A) v b)(hb:b.length<=1000000):
 ∃w A',EvF TP HH 18 [.ptr K.cb 0,v] A w A'/\iG X A K fk ft A' (c.fe b) w:=by
 refine Aa4 rfl Tryz.func18 (by unfold Tryz.f18;rfl) Tryz.ntmps18 (by unfold Tryz.f18;rfl) (by simp) ?_
 have hln:=fun B=>hv.len (P:=TP) Tryz.underlying45 B
 unfold Co.fe
 by_cases q:b.length>4096
 . simp only[RT,Q0,Q1,Q2,Q3,Q4,Q5,Q6,Q7,Q8,hln,DT (show(b.length:Int)>4096 by omega)]
   rw[if_pos q]
   exact .nil h (.refl _ _)
 rw[if_neg q]
 obtain⟨w1,A1,k1,fk1,fo1,k2,k3⟩:=As5 hw h (Ab5 X A) hv hb
 have w1':=k2.wf hw
 obtain⟨_,A2,m1,m2,rfl⟩:=AF1 w1' (Ab5 _ A1) (hv.mono k2.le) (by omega)
 have k2':=k2.ab m2
 have w2':=k2'.wf hw
 obtain⟨tv1,dv1,bl1,y1,_⟩:=k2.co.cm.ex
 have ld1:=Ap2 y1
 have ld2:=Ap2 (m2.af y1)
 have hr:=k2'.co.rng
 obtain⟨w3,A3,n1,n2⟩:=Bb1 (id:=az b) k2'.co.rd w2' (Ab4 b)
 obtain⟨fk3,o1⟩:=k2'.co.mC w2' n2 ⟨rfl,rfl,rfl⟩ { hr with } k2'.co.al
 have hC:=k2'.next hw o1 (fo:=fo1) (fun f q=>.inl q)
 have hL3:=(k3.fr0 m2).fr o1.fr (TM.off fun f q=>(k2'.new f q).2)
 have hll:(c.a6 b).2.length<=2000:=by
  have:=(h.rng.fX (az b)).2.1
  rw[h.al]at this;exact this
 obtain⟨w5,A5,u1,u2⟩:=hC.act hw hL3 (by omega)
 simp only[RT,Q0,Q1,Q2,Q3,Q4,Q5,Q6,Q7,Q8,hln,DF (show ¬(b.length:Int)>4096 by omega)]
 refine Aa0 k1 ?_
 simp only[RT,Q0,Q1,Q2,Q3,Q4,Q5,Q6,Q7,Q8,BS8,Aa1,An0 K.cb,ld1]
 refine Aa0 m1 ?_
 simp only[RT,Q0,Q1,Q2,Q3,Q4,Q5,Q6,Q7,Q8,Aa1]
 refine⟨Aa5 (ha:=rfl) rfl ld2.1 rfl Aa1,?_⟩
 refine Aa0 n1 ?_
 simp only[RT,Q0,Q1,Q2,Q3,Q4,Q5,Q6,Q7,Q8,Aa1]
 refine Aa0 u1 ?_
 simp only[RT,Q0,Q1,Q2,Q3,Q4,Q5,Q6,Q7,Q8]
 exact u2
end
end Go.Sv.Tryz
namespace Go.Sv
section
variable {n i:Nat} {Hn:Nat->Prop} {s s':Nat->Led}
end
end Go.Sv
namespace Go.Sv
open Go
def H4(l:Led)(i:Nat):Prop:=∀R K:Nat,l.v R K i≠z32->(R:Int)<=l.top
section
variable {n i:Nat} {kn:List Bts} {s:Led} {a:Act}
end
section
variable {n i:Nat} {Hn:Nat->Prop} {H:Int} {s s' s2:Nat->Led} {c:Co} {l:List Act}
theorem Bj9(r:Rd):(cW r).length<=24:=by unfold cW;rw[List.length_take];have:=AC7 (cy r) 24;omega
end
end Go.Sv
namespace Go.Sv
open Go
section
variable {n i:Nat} {Hn:Nat->Prop} {H:Int} {s s' s2:Nat->Led} {c:Co} {l:List Act}
end
end Go.Sv
namespace Go.Sv
open Go
section
variable {n i:Nat} {Hn:Nat->Prop} {H:Int} {s s' s2:Nat->Led} {c:Co} {r:Rd} {f a b:Nat->Bts}
end
end Go.Sv
