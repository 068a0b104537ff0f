/- The document's round: what one did before; a new one. -/
import Derived.Test.YtnikcplcdapjhaaGreatGc
import Derived.Test.YtnikcplcdapjhaaGreatGb
import Derived.Test.YtnikcplcdapjhaaGreatSv4
import Derived.Test.YtnikcplcdapjhaaGreatGa
open Go.Proofs.Tryz renaming prog → TP
set_option linter.unusedSimpArgs false
set_option linter.unusedVariables false
open Nat renaming reduceLT → Q0, reduceBEq → Q1, reduceEqDiff → Q2, reduceAdd → Q3
open Int renaming reduceEq → Q4, reduceLT → Q5, reduceLE → Q6, reduceGT → Q7, reduceGE → Q8
namespace Go.Sv.Tryz
open Go Go.Proofs
section
variable {X:Nat->Prop} {N:Nat} {A B C:AS} {r r':Rd} {ov kv vv tv av w:V} {b:Nat}
set_option maxRecDepth 10000 in
set_option maxHeartbeats 32000000 in
theorem Bi5{a:Act}(hw:WF A)(h:RRs X N A r w)(hr:Rng r)(hid:a.id.length=32):∃u A',EvF TP HH 59 [w,.agg (aX a)] A u A'/\Fr S0 A A'/\RRs X N A' (r.cI a) u:=by
 refine Aa4 rfl Tryz.func59 (by unfold Tryz.f59;rfl) Tryz.ntmps59 (by unfold Tryz.f59;rfl) (by simp) ?_
 obtain⟨cs,rfl,A1,e1,f1,hB1⟩:=h.new
 obtain⟨b2,hb2⟩:∃b,b=A.blk.length:=⟨_,rfl⟩
 rw[<- hb2]at hB1
 obtain⟨A2,e2,f2,r3,n2⟩:=Aa3 A1 (aX a)
 obtain⟨b3,hb3⟩:∃b,b=A1.blk.length:=⟨_,rfl⟩
 rw[<- hb3]at r3
 obtain⟨A3,e3,f3,r4,n3⟩:=Aa3 A2 rrZ.cs
 obtain⟨b4,hb4⟩:∃b,b=A2.blk.length:=⟨_,rfl⟩
 rw[<- hb4]at r4
 have hlt:b2<b3/\b3<b4:=by
  have:=hB1.lt (w:=.ah)
  have:=Ab3 r3
  omega
 have f13:Fr S0 A A3:=(f1.ab f2).ab f3
 have w3:=f13.wf hw
 have hB3:=(hB1.fr0 f2).fr0 f3
 have r3':=f3.af r3
 have fa:=AJ1 b2
 have fA:=Cu6 b3 0
 simp only[Nat.zero_add]at fA
 obtain⟨ov,kv,vv,tv,av,hb,hI⟩:=hB3
 have hB3:Bx X N A3 b2 r:=⟨_,_,_,_,_,hb,hI⟩
 have ld:=AA8 hb hI
 have la:=AS5 r3' hid
 obtain⟨lo,hSo,hO⟩:=hI.ov
 have hol:=hO.len
 have mR:=hr.now
 have fin:∀{C:AS} {r':Rd},Fr S0 A C->C.blk[b4]?=some ⟨rrZ.cs,.var⟩->Bx X N C b2 r'->∃w D,aa TP 36 (.ptr b2 0) C=some w/\ag TP 36 (.ptr b4 0) w C=some D/\aa TP 36 (.ptr b4 0) D=some w/\Fr S0 A D/\RRs X N D r' w:=fun {C r'} hf hz hx=>by
  obtain⟨w,D,y1,y2,y3,y4,y5⟩:=hx.fin (hf.wf hw) hz
  exact⟨w,D,y1,y2,y3,hf.ar y4 (by omega),y5⟩
 obtain⟨u0,D0,i1,i2,i3,i4,i5⟩:=fin f13 r4 hB3
 unfold Rd.cI
 simp only[RT,Q0,Q1,Q2,Q3,Q4,Q5,Q6,Q7,Q8,<- e1,<- hb2]
 simp only[RT,Q0,Q1,Q2,Q3,Q4,Q5,Q6,Q7,Q8,<- hb3,<- e2]
 simp only[RT,Q0,Q1,Q2,Q3,Q4,Q5,Q6,Q7,Q8,AI9,<- hb4,<- e3]
 by_cases q1:a.round<0
 . simp only[RT,Q0,Q1,Q2,Q3,Q4,Q5,Q6,Q7,Q8,fA,la,DT q1,i1,i2,i3]
   rw[if_pos (.inl q1)]
   exact⟨i4,i5⟩
 by_cases q2:a.round>=12
 . simp only[RT,Q0,Q1,Q2,Q3,Q4,Q5,Q6,Q7,Q8,fA,la,DF q1,DT q2,i1,i2,i3]
   rw[if_pos (.inr (.inl q2))]
   exact⟨i4,i5⟩
 by_cases q3:a.id=z32
 . simp only[RT,Q0,Q1,Q2,Q3,Q4,Q5,Q6,Q7,Q8,fA,la,DF q1,DF q2,Ad8,eqZ hid Aa9,DT q3,i1,i2,i3]
   rw[if_pos (.inr (.inr q3))]
   exact⟨i4,i5⟩
 rw[if_neg (by rintro(z |z |z);exact q1 z;exact q2 z;exact q3 z)]
 have h0:0<=a.round:=by omega
 simp only[RT,Q0,Q1,Q2,Q3,Q4,Q5,Q6,Q7,Q8,fA,la,DF q1,DF q2,Ad8,eqZ hid Aa9,DF q3]
 by_cases k1:a.kind=1
 . rw[if_pos k1]
   have k2:¬a.kind=2:=by omega
   obtain⟨_,_,m1,hE,rfl⟩:=Ak3 (R:=a.round) (Ab5 X A3) hSo (by omega)
   rw[hE]at m1
   simp only[RT,Q0,Q1,Q2,Q3,Q4,Q5,Q6,Q7,Q8,DT k1,fa,ld,fA,la]
   refine Aa0 m1 ?_
   rcases hO.find h0 with⟨hth,hpl⟩ |⟨hth,j,p,hpl,hjp,hfp,hpz⟩
   rotate_left
   . simp only[RT,Q0,Q1,Q2,Q3,Q4,Q5,Q6,Q7,Q8,hpl,DF (show ¬(j:Int)<0 by omega),fA,la,DF k2,i1,i2,i3]
     rw[if_neg (fun z=>by rw[z.1]at hth;cases hth)]
     exact⟨i4,i5⟩
   by_cases c1:a.valid>=0
   rotate_left
   . simp only[RT,Q0,Q1,Q2,Q3,Q4,Q5,Q6,Q7,Q8,hpl,DT (show(-1:Int)<0 by omega),fA,la,DF c1,DF k2,i1,i2,i3]
     rw[if_neg (fun z=>c1 z.2.1)]
     exact⟨i4,i5⟩
   by_cases c2:a.valid<=a.round
   rotate_left
   . simp only[RT,Q0,Q1,Q2,Q3,Q4,Q5,Q6,Q7,Q8,hpl,DT (show(-1:Int)<0 by omega),fA,la,DT c1,DF c2,DF k2,i1,i2,i3]
     rw[if_neg (fun z=>c2 z.2.2)]
     exact⟨i4,i5⟩
   rw[if_pos ⟨hth,c1,c2⟩]
   obtain⟨v1,C,x1,x2,x3⟩:=Au2 (p:=(a.round,a.valid,a.id)) w3 (Ab5 X A3) hid hSo (by omega)
   have hO2:=hO.put (v:=a.valid) h0 (by omega) hth q3
   have fC:=f13.ab x2
   obtain⟨D,s1,s2,s3⟩:=hB3.nA w3 x2 x3 hO2
   obtain⟨u,E,y1,y2,y3,y4,y5⟩:=fin (fC.ar s2 (by omega)) (s2.aq (x2.af r4) (by omega)) s3
   have la2:=AS5 (s2.aq (x2.af r3') (by omega)) hid
   simp only[RT,Q0,Q1,Q2,Q3,Q4,Q5,Q6,Q7,Q8,hpl,DT (show(-1:Int)<0 by omega),fA,la,DT c1,DT c2,fa,ld,Bt3 hid]
   refine Aa0 x1 ?_
   simp only[RT,Q0,Q1,Q2,Q3,Q4,Q5,Q6,Q7,Q8,fa,s1,fA,la2,DF k2,y1,y2,y3]
   exact⟨y4,y5⟩
 rw[if_neg k1]
 by_cases k2:a.kind=2
 rotate_left
 . simp only[RT,Q0,Q1,Q2,Q3,Q4,Q5,Q6,Q7,Q8,DF k1,fA,la,DF k2,i1,i2,i3]
   rw[if_neg k2]
   exact⟨i4,i5⟩
 rw[if_pos k2]
 obtain⟨l,hS,hV⟩:=hI.vv
 obtain⟨_,A4,j1,j2,v',l',rfl,j4,j5⟩:=BJ1 (r:=a.round) (k:=a.num) (w0:=(r.me:Int)) w3 (Ab5 X A3) hS hV hI.n hid
 have f14:=f13.ab j2
 have w4:=f14.wf hw
 have hB4:=hB3.fr0 j2
 have r44:=j2.af r4
 simp only[RT,Q0,Q1,Q2,Q3,Q4,Q5,Q6,Q7,Q8,DF k1,fA,la,DT k2,fa,ld,BI8 hid]
 refine Aa0 j1 ?_
 by_cases qc:cT r.n r.v a.round a.num r.me a.id=0
 rotate_left
 . obtain⟨u,E,y1,y2,y3,y4,y5⟩:=fin f14 r44 hB4
   simp only[RT,Q0,Q1,Q2,Q3,Q4,Q5,Q6,Q7,Q8,DT (show ¬cT r.n r.v a.round a.num r.me a.id=0 from qc),y1,y2,y3]
   rw[if_pos qc]
   exact⟨y4,y5⟩
 rw[if_neg (fun z=>z qc)]
 obtain⟨B,s1,s2,s3⟩:=hB3.eF w3 j2 (j5.resolve_left fun z=>z.1 qc).2 j4
 have fB:=f14.ar s2 (by omega)
 have wB:=fB.wf hw
 have rB4:=s2.aq r44 (by omega)
 have rB3:=s2.aq (j2.af r3') (by omega)
 have laB:=AS5 rB3 hid
 obtain⟨z1,z2,z3⟩:=Au0 qc
 have qT:a.num=0∨a.num=1:=z1.2.2.1
 obtain⟨ov5,kv5,vv5,tv5,av5,hb5,hI5⟩:=s3
 have s3:Bx X N B b2 { r with v:=dG r.n r.v a.round a.num r.me a.id }:=⟨_,_,_,_,_,hb5,hI5⟩
 have ld5:=AA8 hb5 hI5
 rw[qc]
 by_cases c1:a.round<r.now
 . obtain⟨u,E,y1,y2,y3,y4,y5⟩:=fin fB rB4 s3
   simp only[RT,Q0,Q1,Q2,Q3,Q4,Q5,Q6,Q7,Q8,s1,fA,laB,fa,ld5,DT c1,y1,y2,y3]
   rw[if_pos c1]
   exact⟨y4,y5⟩
 rw[if_neg c1]
 obtain⟨C,t1,t2,t3⟩:=s3.qP wB a.round
 have wC:=t2.wf wB
 have rC3:=t2.aq rB3 (by omega)
 have laC:=AS5 rC3 hid
 have hwn:IntKind.i64.wrap (1+a.num)=1+a.num:=Ac6 (by omega) (by omega)
 obtain⟨D,v1,v2,v3⟩:=t3.mP wC (1+a.num)
 have wD:=v2.wf wC
 have rD3:=v2.aq rC3 (by omega)
 have rD4:=v2.aq (t2.aq rB4 (by omega)) (by omega)
 have fD:=(fB.ar t2 (by omega)).ar v2 (by omega)
 have laD:=AS5 rD3 hid
 simp only[RT,Q0,Q1,Q2,Q3,Q4,Q5,Q6,Q7,Q8,s1,fA,laB,fa,ld5,DF c1,t1,laC,hwn,v1]
 by_cases c2:a.num=1
 rotate_left
 . obtain⟨u,E,y1,y2,y3,y4,y5⟩:=fin fD rD4 v3
   simp only[RT,Q0,Q1,Q2,Q3,Q4,Q5,Q6,Q7,Q8,A98,fA,laD,DF c2,Aa1]
   refine⟨Ad0 rfl rfl rfl rfl Aa1,?_⟩
   simp only[RT,Q0,Q1,Q2,Q3,Q4,Q5,Q6,Q7,Q8,y1,y2,y3]
   rw[if_neg (fun z=>c2 z.1)]
   exact⟨y4,y5⟩
 obtain⟨_,D2,n1,n2,rfl⟩:=Ai3 D
 have rD23:=n2.af rD3
 have laD2:=AS5 rD23 hid
 have fD2:=fD.ab n2
 have wD2:=fD2.wf hw
 have vD2:=v3.fr0 n2
 have rD24:=n2.af rD4
 simp only[RT,Q0,Q1,Q2,Q3,Q4,Q5,Q6,Q7,Q8,A98,fA,laD,DT c2,Aa1]
 refine Aa0 n1 ?_
 simp only[RT,Q0,Q1,Q2,Q3,Q4,Q5,Q6,Q7,Q8]
 refine⟨Ac4 rfl rfl rfl rfl rfl laD2.2.2.2.2 rfl Aa1,?_⟩
 by_cases c3:a.id=n32
 . obtain⟨u,E,y1,y2,y3,y4,y5⟩:=fin fD2 rD24 vD2
   simp only[RT,Q0,Q1,Q2,Q3,Q4,Q5,Q6,Q7,Q8,eqZ hid Ad3,DT c3,Bool.not_true,Aa1,y1,y2,y3]
   rw[if_neg (fun z=>z.2 c3)]
   exact⟨y4,y5⟩
 rw[if_pos ⟨c2,c3⟩]
 have hwr:IntKind.i64.wrap (a.round+1)=a.round+1:=Ac6 (by omega) (by omega)
 obtain⟨E1,p1,p2,p3⟩:=vD2.pa wD2 (a.round+1)
 have wE1:=p2.wf wD2
 have rE1:=p2.aq rD23 (by omega)
 obtain⟨E2,p4,p5,p6⟩:=p3.pd wE1 hid
 have wE2:=p5.wf wE1
 have rE2:=p5.aq rE1 (by omega)
 obtain⟨E3,p7,p8,p9⟩:=p6.pc wE2 (a.round+1)
 have wE3:=p8.wf wE2
 have rE3:=p8.aq rE2 (by omega)
 obtain⟨E4,p10,p11,p12⟩:=p9.pe wE3 hid
 obtain⟨u,E,y1,y2,y3,y4,y5⟩:=fin ((((fD2.ar p2 (by omega)).ar p5 (by omega)).ar p8 (by omega)).ar p11 (by omega)) (p11.aq (p8.aq (p5.aq (p2.aq rD24 (by omega)) (by omega)) (by omega)) (by omega)) p12
 have la1:=AS5 rE1 hid
 have la2:=AS5 rE2 hid
 have la3:=AS5 rE3 hid
 simp only[RT,Q0,Q1,Q2,Q3,Q4,Q5,Q6,Q7,Q8,eqZ hid Ad3,DF c3,Bool.not_false,Aa1,fA,laD2,hwr,fa,p1,la1,p4,la2,p7,la3,p10,y1,y2,y3]
 exact⟨y4,y5⟩
set_option maxRecDepth 10000 in
set_option maxHeartbeats 16000000 in
theorem Cz4{n me h:Int}(hw:WF A)(hX:∀f,X f->f<A.blk.length)(hN:N<=A.blk.length):∃u A',EvF TP HH 26 [.int .i64 n,.int .i64 me,.int .i64 h] A u A'/\Fr S0 A A'/\((¬((n=1∨n=4∨n=7)/\0<=me/\me<n/\0<=h)/\u=.tup [.agg rrZ.cs,.int .i64 1])∨∃m i:Nat,n=m/\me=i/\okN m/\i<m/\0<=h/\∃u1,u=.tup [u1,.int .i64 0]/\RRs X N A' (rd0 m i h) u1):=by
 refine Aa4 rfl Tryz.func26 (by unfold Tryz.f26;rfl) Tryz.ntmps26 (by unfold Tryz.f26;rfl) (by simp) ?_
 obtain⟨A1,e1,f1,r6,n1⟩:=Aa3 A rrZ.cs
 obtain⟨b6,hb6⟩:∃b,b=A.blk.length:=⟨_,rfl⟩
 rw[<- hb6]at r6
 have w1:=f1.wf hw
 obtain⟨_,_,k1,hA,rfl⟩:=Al9 A1 (n:=n)
 rw[hA]at k1
 obtain⟨B,s1,s2,s3⟩:=AT8 r6 AA7 AA7
 have lB:=(Bb0 s3 AA7).2.2.2.2.2.2.2.2.2.2.2.2
 have fB:=f1.ar s2 (by omega)
 simp only[RT,Q0,Q1,Q2,Q3,Q4,Q5,Q6,Q7,Q8,AI9,<- hb6,<- e1]
 refine Aa0 k1 ?_
 by_cases q1:fT n<0
 . simp only[RT,Q0,Q1,Q2,Q3,Q4,Q5,Q6,Q7,Q8,DT q1,A64,s1,lB]
   exact⟨fB,.inl fun z=>A55 q1 z.1⟩
 obtain⟨m,rfl,hm⟩:=AS6 q1
 by_cases q2:me<0
 . simp only[RT,Q0,Q1,Q2,Q3,Q4,Q5,Q6,Q7,Q8,DF q1,DT q2,A64,s1,lB]
   exact⟨fB,.inl fun z=>by omega⟩
 by_cases q3:me>=m
 . simp only[RT,Q0,Q1,Q2,Q3,Q4,Q5,Q6,Q7,Q8,DF q1,DF q2,DT q3,A64,s1,lB]
   exact⟨fB,.inl fun z=>by omega⟩
 by_cases q4:h<0
 . simp only[RT,Q0,Q1,Q2,Q3,Q4,Q5,Q6,Q7,Q8,DF q1,DF q2,DF q3,DT q4,A64,s1,lB]
   exact⟨fB,.inl fun z=>by omega⟩
 obtain⟨i,rfl⟩:=Int.eq_ofNat_of_zero_le (show 0<=me by omega)
 obtain⟨C,t1,t2,t3,t4⟩:=(rr0 (X:=X) (N:=N) (A:=A1) (me:=i) (h:=h) (fun f q=>Nat.lt_of_lt_of_le (hX f q) f1.len) (Nat.le_trans hN f1.len) hm).fin w1 r6
 simp only[RT,Q0,Q1,Q2,Q3,Q4,Q5,Q6,Q7,Q8,DF q1,DF q2,DF q3,DF q4,B21,t1,t2]
 exact⟨f1.ar t3 (by omega),.inr ⟨m,i,rfl,rfl,hm,by omega,by omega,_,rfl,t4⟩⟩
end
end Go.Sv.Tryz
namespace Go.Sv
open Go
theorem Cz5{a b:Nat}(ha:a<18446744073709551616)(hb:b<18446744073709551616):ck .or .u64 (a:Int) (b:Int)=some (.int .u64 ((a ||| b:Nat):Int)):=by
 unfold ck
 have e1:(BitVec.ofInt IntKind.u64.bits (a:Int) ||| BitVec.ofInt IntKind.u64.bits (b:Int)).toNat=a ||| b:=by
  rw[BitVec.toNat_or,BitVec.ofInt_natCast,BitVec.ofInt_natCast,BitVec.toNat_ofNat,BitVec.toNat_ofNat]
  show a%18446744073709551616 ||| b%18446744073709551616=_
  rw[Nat.mod_eq_of_lt ha,Nat.mod_eq_of_lt hb]
 simp only[e1]
 rw[Ad1]
 have:a ||| b<2^64:=Nat.or_lt_two_pow ha hb
 congr 2;omega
theorem A65{n k:Nat}(h:k<=gg n):(n+1+k)%64=56↔k=gg n:=by
 unfold gg at *
 constructor<;>intro q<;>omega
def lT(n i:Nat):Bts:=List.replicate i 0++(be8 n).drop i
theorem A66{n i:Nat}(h:i<=8):(lT n i).length=8:=by unfold lT;simp only[List.length_append,List.length_replicate,List.length_drop,Ai9];omega
theorem Bi6{n i:Nat}(h:i<8):(lT n (i+1)).set i (UInt8.ofNat (n/256^(7-i)))=lT n i:=by
 unfold lT
 have hd:(be8 n).drop i=UInt8.ofNat (n/256^(7-i))::(be8 n).drop (i+1):=by
  rw[List.drop_eq_getElem_cons (by rw[Ai9];omega)]
  congr 1
  unfold be8
  rw[List.getElem_map,List.getElem_range]
 rw[hd,List.replicate_succ',List.append_assoc,List.set_append,if_neg (by simp),List.length_replicate,Nat.sub_self]
 rfl
theorem BG2(n:Nat):UInt8.ofNat (n%256)=UInt8.ofNat n:=by
 apply UInt8.toNat_inj.1
 rw[UInt8.toNat_ofNat',UInt8.toNat_ofNat',Nat.mod_mod]
end Go.Sv
namespace Go.Sv.Tryz
open Go Go.Proofs
section
variable {A:AS} {r:Nat} {k:BK}
theorem Ag2{x:W32}{n:Nat}(h1:1<=n)(h2:n<=31){y:Int}(hy:y=(n:Int)):EvF TP HH 115 [.int .u64 (x.toNat:Int),.int .i64 y] A (.int .u64 ((rot x n).toNat:Int)) A:=by
 suffices h:∃w A',EvF TP HH 115 [.int .u64 (x.toNat:Int),.int .i64 y] A w A'/\A'=A/\w=.int .u64 ((rot x n).toNat:Int) by
  obtain⟨w,A',h,rfl,rfl⟩:=h;exact h
 subst hy
 have hx:=At2 x
 have hp:(2:Nat)^(32-n)<=2^31:=Nat.pow_le_pow_right (by decide) (by omega)
 have hm:x.toNat*2^(32-n)<18446744073709551616:=by
  have:x.toNat*2^(32-n)<=4294967295*2^31:=Nat.mul_le_mul (by omega) hp
  omega
 have e0:IntKind.i64.wrap (32-(n:Int))=((32-n:Nat):Int):=by rw[Ac6 (by omega) (by omega)];omega
 have e1:bg .shl .u64 (x.toNat:Int) ((32-n:Nat):Int)=some (.int .u64 ((x.toNat*2^(32-n):Nat):Int)):=by
  unfold bg
  rw[if_neg (by omega)]
  have e:min (((32-n:Nat):Int).toNat) IntKind.u64.bits=32-n:=by rw[Int.toNat_natCast];show min (32-n) 64=32-n;omega
  simp only[e]
  rw[Ad1]
  congr 2
  rw[Int.emod_eq_of_lt]
  . simp
  . exact Int.mul_nonneg (by omega) (Int.pow_nonneg (by decide))
  . have:((x.toNat:Int)*2^(32-n))=((x.toNat*2^(32-n):Nat):Int):=by simp
    omega
 have e2:ck .or .u64 ((x >>> n).toNat:Int) ((x.toNat*2^(32-n):Nat):Int)=some (.int .u64 (((x >>> n).toNat ||| (x.toNat*2^(32-n)):Nat):Int)):=Cz5 (by have:=At2 (x >>> n);omega) hm
 have e3:aw TP .rem 205 (.int .u64 (((x >>> n).toNat ||| (x.toNat*2^(32-n)):Nat):Int)) (.int .u64 4294967296)=some (.int .u64 ((rot x n).toNat:Int)):=by
  rw[Al8,if_neg (by omega)]
  have:((((x >>> n).toNat ||| (x.toNat*2^(32-n)):Nat):Int)).tmod 4294967296=((((x >>> n).toNat ||| (x.toNat*2^(32-n)))%2^32:Nat):Int):=rfl
  rw[this,Nat.or_mod_two_pow,Nat.mod_eq_of_lt (x >>> n).isLt]
  unfold rot
  rw[BitVec.toNat_or,BitVec.toNat_shiftLeft,Nat.shiftLeft_eq]
 refine Aa4 rfl Tryz.func115 (by unfold Tryz.f115;rfl) Tryz.ntmps115 (by unfold Tryz.f115;rfl) (by simp) ?_
 simp only[RT,Q0,Q1,Q2,Q3,Q4,Q5,Q6,Q7,Q8]
 rw[BD7,Aa2 (by rfl)]
 simp only[RT,Q0,Q1,Q2,Q3,Q4,Q5,Q6,Q7,Q8,Ax9,Bg4 (k:=.u64) (.inr rfl) x (n:=n) (by omega),e0,AY7,e1,A48,e2,e3]
theorem Cz6:msl TP 45 (some (.int .i64 8)) (some (.int .i64 8))=some (.aB (bc (List.replicate 8 0)) 8 1):=by kernel_rfl
theorem Cj1:bsl TP 45 1 (some [(0,.int .u8 128)])=some (.aB (bc [128]) 1 1):=by kernel_rfl
theorem B25:bsl TP 45 1 (some [(0,.int .u8 0)])=some (.aB (bc [0]) 1 1):=by kernel_rfl
theorem Cz7{b j:Nat}(h:j<8):aj TP 45 (.sl b 0 8 1) (.int .i64 (j:Int))=some (.ptr b j):=by
 rw[AS1 Tryz.underlying45 sz5 h,Nat.zero_add,Nat.mul_one]
set_option maxRecDepth 10000 in
set_option maxHeartbeats 16000000 in
theorem A05{s:Bts}(hw:WF A)(hs:s.length<=1000000000000):∃w A',EvF TP HH 113 [.str s] A w A'/\Fr S0 A A'/\w=.str (fP s):=by
 refine Aa4 rfl Tryz.func113 (by unfold Tryz.f113;rfl) Tryz.ntmps113 (by unfold Tryz.f113;rfl) (by simp) ?_
 have hcv:∀A,cnv TP 9 45 (some (.str s)) A=some (.aB (bc s) s.length 1):=fun A=>AI2 (by decide) Tryz.underlying9 Tryz.underlying45 Tryz.underlying5
 have q1:=Fr.aF A (bc s)
 have o1:=Own.new (N:=A.blk.length) (A:=A) (n:=s.length) (sz:=1) (cs:=bc s) hw (Nat.le_refl _) (by rw[Aa7,Nat.mul_one]) (Ac9 _)
 obtain⟨v1,A1,p1,p2,p3⟩:=o1.nC (P:=TP) (t:=45) (tx:=45) (k:=1) (new:=bc [128]) BX5 Tryz.underlying45 (q1.wf hw) (by have:=q1.len;omega) rfl (Ac9 _) (by omega) (by omega)
 have hf1:Fr S0 A A1:=q1.pB p3
 simp only[RT,Q0,Q1,Q2,Q3,Q4,Q5,Q6,Q7,Q8,hcv,Cj1,p1]
 refine Aa6 (fun z e B=>∃(k:Nat) (v:V),z=gg s.length-k/\k<=gg s.length/\e.get 3=v/\e.get 0=.str s/\Fr S0 A B/\Own A.blk.length B v (s.length+1+k) 1 (bc (s++[128]++List.replicate k 0)))
  (fun z e B=>Is z (.exit 0)/\∃v,e.get 3=v/\e.get 0=.str s/\Fr S0 A B/\Own A.blk.length B v (s.length+1+gg s.length) 1 (bc (s++[128]++List.replicate (gg s.length) 0)))
  ⟨_,0,v1,rfl,by omega,rfl,rfl,hf1,p2.cast (by omega) (by rw[List.replicate_zero,List.append_nil,AZ0])⟩ ?_ ?_
 . rintro z e B ⟨k,v,rfl,hk,h3,h0,hf,ho⟩
   have hz:=AZ5 s.length
   have rm:aw TP .rem 3 (.int .i64 ((s.length+1+k:Nat):Int)) (.int .i64 64)=some (.int .i64 (((s.length+1+k)%64:Nat):Int)):=by rw[Al8,if_neg (by omega)];rfl
   simp only[RT,Q0,Q1,Q2,Q3,Q4,Q5,Q6,Q7,Q8,h3,ho.len (P:=TP) Tryz.underlying45 B,rm]
   refine Aa8 (fun q1=>?_) (fun q1=>?_)
   rotate_left
   . have:k=gg s.length:=(A65 hk).1 (by omega)
     subst this
     simp only[RT,Q0,Q1,Q2,Q3,Q4,Q5,Q6,Q7,Q8]
     exact⟨rfl,v,h3,h0,hf,ho⟩
   have hk2:k<gg s.length:=by
    rcases Nat.lt_or_ge k (gg s.length)with q |q
    . exact q
    . exact absurd ((A65 hk).2 (by omega)) (by omega)
   obtain⟨v2,C,p1,p2,p3⟩:=ho.nC (P:=TP) (t:=45) (tx:=45) (k:=1) (new:=bc [0]) BX5 Tryz.underlying45 (hf.wf hw) (by have:=hf.len;omega) rfl (Ac9 _) (by omega) (by omega)
   simp only[RT,Q0,Q1,Q2,Q3,Q4,Q5,Q6,Q7,Q8,h3,B25,p1]
   refine⟨gg s.length-(k+1),by omega,k+1,v2,rfl,by omega,rfl,h0,hf.pB p3,p2.cast (by omega) ?_⟩
   rw[List.replicate_succ',<- List.append_assoc,AZ0 _ [0]]
 rintro z e B hz ⟨rfl,v,h3,h0,hf,ho⟩
 have tN:=AZ5 s.length
 have wB:=hf.wf hw
 obtain⟨bc8,hb8⟩:∃b,b=B.blk.length:=⟨_,rfl⟩
 have q2:=Fr.aF B (bc (List.replicate 8 0))
 have rr:=Ab9 B ⟨bc (List.replicate 8 0),.arr B.blk.length 0⟩
 have so:=fN.new (cs:=bc (List.replicate 8 0)) wB
 have hml:IntKind.u64.wrap ((s.length:Int)*8)=((s.length*8:Nat):Int):=by rw[Ad1];omega
 simp only[RT,Q0,Q1,Q2,Q3,Q4,Q5,Q6,Q7,Q8,Cz6,h0,As1 Tryz.underlying9,BZ7 s.length (by omega),hml]
 obtain⟨B1,hB1⟩:∃C,C=B.push ⟨bc (List.replicate 8 0),.arr B.blk.length 0⟩:=⟨_,rfl⟩
 rw[<- hB1]at q2 rr so ⊢
 rw[<- hb8]at rr so ⊢
 have ho1:=ho.fr0 q2
 obtain⟨n8,hn8⟩:∃n,n=s.length*8:=⟨_,rfl⟩
 rw[<- hn8]
 refine Aa6 (fun z e C=>∃i:Nat,z=i/\i<=8/\e.get 6=.int .i64 ((i:Int)-1)/\e.get 5=.int .u64 ((n8/256^(8-i):Nat):Int)/\e.get 4=.sl bc8 0 8 1/\e.get 3=v/\Fr (·=.row bc8) B1 C/\C.blk[bc8]?=some ⟨bc (lT n8 i),.arr bc8 0⟩/\fN C bc8 bc8)
  (fun z e C=>Is z (.exit 2)/\e.get 4=.sl bc8 0 8 1/\e.get 3=v/\Fr (·=.row bc8) B1 C/\C.blk[bc8]?=some ⟨bc (be8 n8),.arr bc8 0⟩)
  ⟨_,8,rfl,by omega,rfl,by rw[Nat.sub_self,Nat.pow_zero,Nat.div_one];rfl,rfl,h3,.refl _ _,by unfold lT;rw[List.drop_of_length_le (by rw[Ai9];omega),List.append_nil];exact rr,so⟩ ?_ ?_
 . rintro z e C ⟨i,rfl,hi,h6,h5,h4,h3,hfC,hC,hso⟩
   simp only[RT,Q0,Q1,Q2,Q3,Q4,Q5,Q6,Q7,Q8,h6]
   refine Aa8 (fun q1=>?_) (fun q1=>?_)
   rotate_left
   . have:z=0:=by omega
     subst this
     simp only[RT,Q0,Q1,Q2,Q3,Q4,Q5,Q6,Q7,Q8]
     exact⟨rfl,h4,h3,hfC,hC⟩
   obtain⟨i,rfl⟩:∃i,z=i+1:=⟨z-1,by omega⟩
   have ei:(((i+1:Nat):Int)-1)=(i:Int):=by omega
   have rm:aw TP .rem 205 (.int .u64 ((n8/256^(8-(i+1)):Nat):Int)) (.int .u64 256)=some (.int .u64 ((n8/256^(8-(i+1))%256:Nat):Int)):=by rw[Al8,if_neg (by omega)];rfl
   have qu:aw TP .quo 205 (.int .u64 ((n8/256^(8-(i+1)):Nat):Int)) (.int .u64 256)=some (.int .u64 ((n8/256^(8-i):Nat):Int)):=by
    rw[As2,if_neg (by omega)]
    have e:((n8/256^(8-(i+1)):Nat):Int).tdiv 256=((n8/256^(8-(i+1))/256:Nat):Int):=rfl
    have e2:n8/256^(8-(i+1))/256=n8/256^(8-i):=by rw[Nat.div_div_eq_div_mul,show 8-i=(8-(i+1))+1 by omega,Nat.pow_succ]
    rw[e,e2,Bs2 (k:=.u64) (.inr rfl)]
    have:n8/256^(8-i)<=n8:=Nat.div_le_self _ _
    show _<18446744073709551616
    omega
   obtain⟨D,t1,t2,t3,t4,t5⟩:=AA1 (P:=TP) (t:=5) (o:=i) (x:=.int .u8 ((UInt8.ofNat (n8/256^(7-i))).toNat:Int)) (cs:=[.int .u8 ((UInt8.ofNat (n8/256^(7-i))).toNat:Int)]) hso hC rfl sz5 (by rw[Aa7,A66 (by omega)];show i+1<=8;omega) rfl
   rw[AT2 (by rw[A66 (by omega)];omega),Bi6 (by omega)]at t3
   have t1':ag TP 5 (.ptr bc8 i) (.int .u8 ((UInt8.ofNat (n8/256^(8-(i+1))%256)).toNat:Int)) C=some D:=by rw[BG2,show 8-(i+1)=7-i by omega];exact t1
   have wi:IntKind.i64.wrap ((i:Int)-1)=(i:Int)-1:=Ac6 (by omega) (by omega)
   simp only[RT,Q0,Q1,Q2,Q3,Q4,Q5,Q6,Q7,Q8,h6,ei,h5,rm,Bg9,h4,Cz7 (b:=bc8) (show i<8 by omega),t1',qu]
   simp only[RT,Q0,Q1,Q2,Q3,Q4,Q5,Q6,Q7,Q8,h6,ei,wi]
   exact⟨i,by omega,i,rfl,by omega,rfl,rfl,h3,hfC.trans t2 fun x q=>.inl q,t3,t5⟩
 rintro z e C hz ⟨rfl,h4,h3,hfC,hC⟩
 have hfBC:Fr S0 B C:=q2.ar hfC (by omega)
 have hfAC:=hf.ab hfBC
 have hoC:=ho.fr0 hfBC
 obtain⟨v2,D,p1,p2,p3⟩:=hoC.app (P:=TP) (t:=45) (tx:=45) BX5 (hfAC.wf hw) (by have:=hfAC.len;omega) (AS0 (P:=TP) (tx:=45) (sz:=1) (n:=8) Tryz.underlying45 hC (by rw[Aa7,Ai9])) (by rw[Aa7,Ai9]) (Ac9 _) (by omega) (by omega)
 have hfD:Fr S0 A D:=hfAC.pB p3
 have p2:=p2.cast (n':=(fP s).length) (cs':=bc (fP s)) (by rw[Aj3]) (by unfold fP;rw[<- hn8,AZ0 _ (be8 n8)])
 obtain⟨m,m1,m2,m3⟩:=p2.bts
 simp only[RT,Q0,Q1,Q2,Q3,Q4,Q5,Q6,Q7,Q8,h3,h4,p1,Ah2 (P:=TP) (s:=45) (d:=9) (by decide) m3 m1 Tryz.underlying45 Tryz.underlying5 Tryz.underlying9]
 exact hfD
end
end Go.Sv.Tryz
namespace Go.Sv
open Go
theorem Bt7(x y:W32):IntKind.u64.wrap ((x.toNat:Int)+(y.toNat:Int))=((x.toNat+y.toNat:Nat):Int):=by
 rw[Ad1];have:=At2 x;have:=At2 y;omega
theorem B26(x y z:W32):IntKind.u64.wrap (((x.toNat+y.toNat:Nat):Int)+(z.toNat:Int))=((x.toNat+y.toNat+z.toNat:Nat):Int):=by
 rw[Ad1];have:=At2 x;have:=At2 y;have:=At2 z;omega
theorem B27(x y z u:W32):IntKind.u64.wrap (((x.toNat+y.toNat+z.toNat:Nat):Int)+(u.toNat:Int))=((x.toNat+y.toNat+z.toNat+u.toNat:Nat):Int):=by
 rw[Ad1];have:=At2 x;have:=At2 y;have:=At2 z;have:=At2 u;omega
theorem Cj2(x y z u v:W32):IntKind.u64.wrap (((x.toNat+y.toNat+z.toNat+u.toNat:Nat):Int)+(v.toNat:Int))=((x.toNat+y.toNat+z.toNat+u.toNat+v.toNat:Nat):Int):=by
 rw[Ad1];have:=At2 x;have:=At2 y;have:=At2 z;have:=At2 u;have:=At2 v;omega
theorem Cj3(x y z u v a b:W32):IntKind.u64.wrap (((x.toNat+y.toNat+z.toNat+u.toNat+v.toNat:Nat):Int)+((a.toNat+b.toNat:Nat):Int))=((x.toNat+y.toNat+z.toNat+u.toNat+v.toNat+(a.toNat+b.toNat):Nat):Int):=by
 rw[Ad1];have:=At2 x;have:=At2 y;have:=At2 z;have:=At2 u;have:=At2 v;have:=At2 a;have:=At2 b;omega
theorem Cj4(x y z u v d:W32):IntKind.u64.wrap ((d.toNat:Int)+((x.toNat+y.toNat+z.toNat+u.toNat+v.toNat:Nat):Int))=((d.toNat+(x.toNat+y.toNat+z.toNat+u.toNat+v.toNat):Nat):Int):=by
 rw[Ad1];have:=At2 x;have:=At2 y;have:=At2 z;have:=At2 u;have:=At2 v;have:=At2 d;omega
section
variable {P:Program} {t:TypeId}
theorem Bt8(n:Nat)(w:W32)(h:n%4294967296=w.toNat):aw P .rem t (.int .u64 (n:Int)) (.int .u64 4294967296)=some (.int .u64 (w.toNat:Int)):=by
 rw[Al8,if_neg (by omega),<- h];rfl
theorem Cj5(x y:W32):aw P .rem t (.int .u64 ((x.toNat+y.toNat:Nat):Int)) (.int .u64 4294967296)=some (.int .u64 ((x+y).toNat:Int)):=Bt8 _ _ (by simp[BitVec.toNat_add])
theorem Cj6(x y z u:W32):aw P .rem t (.int .u64 ((x.toNat+y.toNat+z.toNat+u.toNat:Nat):Int)) (.int .u64 4294967296)=some (.int .u64 ((x+y+z+u).toNat:Int)):=Bt8 _ _ (by simp only[BitVec.toNat_add];omega)
theorem Cj7(x y z u v a b:W32):aw P .rem t (.int .u64 ((x.toNat+y.toNat+z.toNat+u.toNat+v.toNat+(a.toNat+b.toNat):Nat):Int)) (.int .u64 4294967296)=some (.int .u64 ((x+y+z+u+v+(a+b)).toNat:Int)):=Bt8 _ _ (by simp only[BitVec.toNat_add];omega)
theorem Cj8(x y z u v d:W32):aw P .rem t (.int .u64 ((d.toNat+(x.toNat+y.toNat+z.toNat+u.toNat+v.toNat):Nat):Int)) (.int .u64 4294967296)=some (.int .u64 ((d+(x+y+z+u+v)).toNat:Int)):=Bt8 _ _ (by simp only[BitVec.toNat_add];omega)
theorem Cz8(x:W32):aw P .quo t (.int .u64 (x.toNat:Int)) (.int .u64 8)=some (.int .u64 ((x >>> 3).toNat:Int)):=by
 rw[As2,if_neg (by omega)]
 have e:((x.toNat:Int)).tdiv 8=((x.toNat/8:Nat):Int):=rfl
 rw[e,Ad1,BitVec.toNat_ushiftRight,Nat.shiftRight_eq_div_pow]
 have:=At2 x
 congr 2;omega
theorem BJ3(x:W32):aw P .quo t (.int .u64 (x.toNat:Int)) (.int .u64 1024)=some (.int .u64 ((x >>> 10).toNat:Int)):=by
 rw[As2,if_neg (by omega)]
 have e:((x.toNat:Int)).tdiv 1024=((x.toNat/1024:Nat):Int):=rfl
 rw[e,Ad1,BitVec.toNat_ushiftRight,Nat.shiftRight_eq_div_pow]
 have:=At2 x
 congr 2;omega
end
theorem Cj9(x:W32):IntKind.u64.wrap (IntKind.u64.wrap (4294967296-1)-(x.toNat:Int))=((~~~x).toNat:Int):=by
 rw[Ad1,Ad1,BitVec.toNat_not];have:=At2 x;omega
def pw(b:Bts)(i:Nat):Nat->Nat
 | 0=>0
 |c+1=>pw b i c*256+gb b (4*i+c)
theorem BJ4(b:Bts)(i:Nat):∀c,pw b i c<256^c
 | 0=>by simp[pw]
 |c+1=>by have:=BJ4 b i c;have:=AN9 b (4*i+c);rw[pw,Nat.pow_succ];omega
theorem A67(b:Bts)(i:Nat){c:Nat}(h:c<=4):(BitVec.ofNat 32 (pw b i c):W32).toNat=pw b i c:=by
 rw[BitVec.toNat_ofNat,Nat.mod_eq_of_lt]
 have h1:=BJ4 b i c
 have:256^c<=256^4:=Nat.pow_le_pow_right (by decide) h
 omega
theorem B28(b:Bts)(i:Nat):(BitVec.ofNat 32 (pw b i 4):W32)=be4 b i:=by
 unfold be4;simp only[pw];simp
end Go.Sv
namespace Go.Sv.Tryz
open Go Go.Proofs
section
variable {A:AS} {r:Nat} {k:BK}
theorem Bb4(x y:W32):ck .xor .u64 (x.toNat:Int) (y.toNat:Int)=some (.int .u64 ((x ^^^ y).toNat:Int)):=BF4 (.inr rfl) x y
theorem B29(x y:W32):ck .and .u64 (x.toNat:Int) (y.toNat:Int)=some (.int .u64 ((x &&& y).toNat:Int)):=BF5 (.inr rfl) x y
theorem Cu9(x y:W32):ck .or .u64 (x.toNat:Int) (y.toNat:Int)=some (.int .u64 ((x ||| y).toNat:Int)):=BZ0 (.inr rfl) x y
theorem Ck0:bsl TP 203 64 (some [(0,.int .u64 1116352408),(1,.int .u64 1899447441),(2,.int .u64 3049323471),(3,.int .u64 3921009573),(4,.int .u64 961987163),(5,.int .u64 1508970993),(6,.int .u64 2453635748),(7,.int .u64 2870763221),(8,.int .u64 3624381080),(9,.int .u64 310598401),(10,.int .u64 607225278),(11,.int .u64 1426881987),(12,.int .u64 1925078388),(13,.int .u64 2162078206),(14,.int .u64 2614888103),(15,.int .u64 3248222580),(16,.int .u64 3835390401),(17,.int .u64 4022224774),(18,.int .u64 264347078),(19,.int .u64 604807628),(20,.int .u64 770255983),(21,.int .u64 1249150122),(22,.int .u64 1555081692),(23,.int .u64 1996064986),(24,.int .u64 2554220882),(25,.int .u64 2821834349),(26,.int .u64 2952996808),(27,.int .u64 3210313671),(28,.int .u64 3336571891),(29,.int .u64 3584528711),(30,.int .u64 113926993),(31,.int .u64 338241895),(32,.int .u64 666307205),(33,.int .u64 773529912),(34,.int .u64 1294757372),(35,.int .u64 1396182291),(36,.int .u64 1695183700),(37,.int .u64 1986661051),(38,.int .u64 2177026350),(39,.int .u64 2456956037),(40,.int .u64 2730485921),(41,.int .u64 2820302411),(42,.int .u64 3259730800),(43,.int .u64 3345764771),(44,.int .u64 3516065817),(45,.int .u64 3600352804),(46,.int .u64 4094571909),(47,.int .u64 275423344),(48,.int .u64 430227734),(49,.int .u64 506948616),(50,.int .u64 659060556),(51,.int .u64 883997877),(52,.int .u64 958139571),(53,.int .u64 1322822218),(54,.int .u64 1537002063),(55,.int .u64 1747873779),(56,.int .u64 1955562222),(57,.int .u64 2024104815),(58,.int .u64 2227730452),(59,.int .u64 2361852424),(60,.int .u64 2428436474),(61,.int .u64 2756734187),(62,.int .u64 3204031479),(63,.int .u64 3329325298)])=some (.aB (wc .u64 shK) 64 1):=by kernel_rfl
theorem Ck1(a b c d e f g h:Int):bsl TP 203 8 (some [(0,.int .u64 a),(1,.int .u64 b),(2,.int .u64 c),(3,.int .u64 d),(4,.int .u64 e),(5,.int .u64 f),(6,.int .u64 g),(7,.int .u64 h)])=some (.aB [.int .u64 a,.int .u64 b,.int .u64 c,.int .u64 d,.int .u64 e,.int .u64 f,.int .u64 g,.int .u64 h] 8 1):=by kernel_rfl
theorem Cz9:bsl TP 203 0 (some [])=some (.aB [] 0 1):=by kernel_rfl
theorem Ck2:msl TP 203 (some (.int .i64 64)) (some (.int .i64 64))=some (.aB (wc .u64 (List.replicate 64 0)) 64 1):=by kernel_rfl
theorem Bb5:∃w A',EvF TP HH 114 [] A w A'/\w=.sl A.blk.length 0 64 1/\A'=A.push ⟨wc .u64 shK,.arr A.blk.length 0⟩:=by
 refine Aa4 rfl Tryz.func114 (by unfold Tryz.f114;rfl) Tryz.ntmps114 (by unfold Tryz.f114;rfl) (by simp) ?_
 simp only[RT,Q0,Q1,Q2,Q3,Q4,Q5,Q6,Q7,Q8,Ck0]
theorem axU{b n j:Nat}(h:j<n):aj TP 203 (.sl b 0 n 1) (.int .i64 (j:Int))=some (.ptr b j):=by
 rw[AS1 Tryz.underlying203 BX4 h,Nat.zero_add,Nat.mul_one]
theorem CA0(r:Nat):aj TP 203 (.sl r 0 8 1) (.int .i64 0)=some (.ptr r 0)/\aj TP 203 (.sl r 0 8 1) (.int .i64 1)=some (.ptr r 1)/\aj TP 203 (.sl r 0 8 1) (.int .i64 2)=some (.ptr r 2)/\aj TP 203 (.sl r 0 8 1) (.int .i64 3)=some (.ptr r 3)/\aj TP 203 (.sl r 0 8 1) (.int .i64 4)=some (.ptr r 4)/\aj TP 203 (.sl r 0 8 1) (.int .i64 5)=some (.ptr r 5)/\aj TP 203 (.sl r 0 8 1) (.int .i64 6)=some (.ptr r 6)/\aj TP 203 (.sl r 0 8 1) (.int .i64 7)=some (.ptr r 7):=
 ⟨axU (j:=0) (by decide),axU (j:=1) (by decide),axU (j:=2) (by decide),axU (j:=3) (by decide),axU (j:=4) (by decide),axU (j:=5) (by decide),axU (j:=6) (by decide),axU (j:=7) (by decide)⟩
theorem ldU{l:List W32}(hb:A.blk[r]?=some ⟨wc .u64 l,k⟩){j:Nat}(h:j<l.length):aa TP 205 (.ptr r j) A=some (.int .u64 ((gw l j).toNat:Int)):=by
 rw[Ab2 Ct2 hb,BF2 h]
theorem CA1{s:S8}(hb:A.blk[r]?=some ⟨wc .u64 (s8l s),k⟩):aa TP 205 (.ptr r 0) A=some (.int .u64 (s.a.toNat:Int))/\aa TP 205 (.ptr r 1) A=some (.int .u64 (s.b.toNat:Int))/\aa TP 205 (.ptr r 2) A=some (.int .u64 (s.c.toNat:Int))/\aa TP 205 (.ptr r 3) A=some (.int .u64 (s.d.toNat:Int))/\aa TP 205 (.ptr r 4) A=some (.int .u64 (s.e.toNat:Int))/\aa TP 205 (.ptr r 5) A=some (.int .u64 (s.f.toNat:Int))/\aa TP 205 (.ptr r 6) A=some (.int .u64 (s.g.toNat:Int))/\aa TP 205 (.ptr r 7) A=some (.int .u64 (s.h.toNat:Int)):=
 ⟨ldU hb (j:=0) (by decide:0<8),ldU hb (j:=1) (by decide:1<8),ldU hb (j:=2) (by decide:2<8),ldU hb (j:=3) (by decide:3<8),ldU hb (j:=4) (by decide:4<8),ldU hb (j:=5) (by decide:5<8),ldU hb (j:=6) (by decide:6<8),ldU hb (j:=7) (by decide:7<8)⟩
theorem stU{l:List W32}(hs:fN A r r)(hb:A.blk[r]?=some ⟨wc .u64 l,.arr r 0⟩){j:Nat}(h:j<l.length)(x:W32):∃A',ag TP 205 (.ptr r j) (.int .u64 (x.toNat:Int)) A=some A'/\Fr (·=.row r) A A'/\A'.blk[r]?=some ⟨wc .u64 (l.set j x),.arr r 0⟩/\fN A' r r:=by
 obtain⟨A',s1,s2,s3,s4,s5⟩:=AA1 (P:=TP) (t:=205) (o:=j) (x:=.int .u64 (x.toNat:Int)) (cs:=[.int .u64 (x.toNat:Int)]) hs hb rfl BX4 (by rw[Aq5];exact h) rfl
 rw[BF3 h]at s3
 exact⟨A',s1,s2,s3,s5⟩
theorem Ck3(l:Bts)(j:Nat)(A:AS):cnv TP 5 205 (some (.int .u8 (gb l j:Int))) A=some (.val (.int .u64 (gb l j:Int))):=by
 rw[As0 (by decide) Tryz.underlying5 Tryz.underlying205,Ad1]
 have:=AN9 l j
 rw[Int.emod_eq_of_lt (by omega) (by omega)]
structure RW(A B:AS)(bk bh bw:Nat)(s:S8)(l:List W32):Prop where
 fr:Fr S0 A B
 k:B.blk[bk]?=some ⟨wc .u64 shK,.arr bk 0⟩
 h:B.blk[bh]?=some ⟨wc .u64 (s8l s),.arr bh 0⟩
 hs:fN B bh bh
 w:B.blk[bw]?=some ⟨wc .u64 l,.arr bw 0⟩
 ws:fN B bw bw
theorem RW.store{B:AS}{bk bh bw:Nat}{s:S8}{l:List W32}(h:RW A B bk bh bw s l)(h1:bk≠bw)(h2:bh≠bw)(h3:A.blk.length<=bw){j:Nat}(hj:j<l.length)(x:W32):∃C,ag TP 205 (.ptr bw j) (.int .u64 (x.toNat:Int)) B=some C/\RW A C bk bh bw s (l.set j x):=by
 obtain⟨C,s1,s2,s3,s4⟩:=stU h.ws h.w hj x
 exact⟨C,s1,h.fr.ar s2 h3,s2.row _ _ h.k (fun q=>by cases q;exact h1 rfl),s2.row _ _ h.h (fun q=>by cases q;exact h2 rfl),h.hs.fr s2 (fun q=>by cases q),s3,s4⟩
theorem RW.s0{B C:AS}{bk bh bw:Nat}{s:S8}{l:List W32}(h:RW A B bk bh bw s l)(hf:Fr S0 B C):RW A C bk bh bw s l :=
 ⟨h.fr.ab hf,hf.af h.k,hf.af h.h,h.hs.fr hf (fun q=>q),hf.af h.w,h.ws.fr hf (fun q=>q)⟩
end
end Go.Sv.Tryz
namespace Go.Sv.Tryz
open Go Go.Proofs
section
variable {A:AS} {r:Nat} {k:BK}
theorem Ck4:bsl TP 203 8 (some [(0,.int .u64 1779033703),(1,.int .u64 3144134277),(2,.int .u64 1013904242),(3,.int .u64 2773480762),(4,.int .u64 1359893119),(5,.int .u64 2600822924),(6,.int .u64 528734635),(7,.int .u64 1541459225)])=some (.aB (wc .u64 (s8l iN)) 8 1):=by kernel_rfl
set_option maxRecDepth 10000 in
set_option maxHeartbeats 64000000 in
theorem Bb6{s:Bts}(hw:WF A)(hs:s.length<=100000000000):∃w A',EvF TP HH 97 [.str s] A w A'/\Fr S0 A A'/\w=.agg (bc (sha s)):=by
 refine Aa4 rfl Tryz.func97 (by unfold Tryz.f97;rfl) Tryz.ntmps97 (by unfold Tryz.f97;rfl) (by simp) ?_
 obtain⟨pb,hpb⟩:∃p,p=fP s:=⟨_,rfl⟩
 have hpl:pb.length%64=0/\pb.length<=200000000000:=by rw[hpb];exact⟨Bs1 s,by rw[Aj3];have:=AZ5 s.length;omega⟩
 obtain⟨n,hn⟩:∃n,n=pb.length/64:=⟨_,rfl⟩
 have hpn:pb.length=64*n:=by omega
 obtain⟨ch,hch⟩:∃c,c=chunks pb:=⟨_,rfl⟩
 have hcl:ch.length=n:=by rw[hch,As4,hn]
 have qU:sha s=jA (ch.foldl comp iN):=by rw[hch,hpb];rfl
 obtain⟨A1,e1,f1,r1,n1⟩:=Aa3 A (bc bF)
 obtain⟨b1,hb1⟩:∃b,b=A.blk.length:=⟨_,rfl⟩
 have w1:=f1.wf hw
 obtain⟨_,A2,k2,f2,rfl⟩:=A05 (A:=A1) (s:=s) w1 (by omega)
 obtain⟨_,A3,k3,rfl,e3⟩:=Bb5 (A:=A2)
 rw[<- hpb]at k2
 obtain⟨bk,hbk⟩:∃b,b=A2.blk.length:=⟨_,rfl⟩
 rw[<- hb1]at r1
 rw[<- hbk]at k3 e3
 have f3:Fr S0 A2 A3:=by rw[e3,hbk];exact Fr.aF A2 _
 have r3:A3.blk[bk]?=some ⟨wc .u64 shK,.arr bk 0⟩:=by rw[e3,hbk];exact Ab9 A2 _
 have n3:A3.blk.length=bk+1:=by rw[e3,Ad4,hbk]
 have w3:=f3.wf (f2.wf w1)
 obtain⟨bh,hbh⟩:∃b,b=A3.blk.length:=⟨_,rfl⟩
 obtain⟨A4,e4⟩:∃B,B=A3.push ⟨wc .u64 (s8l iN),.arr bh 0⟩:=⟨_,rfl⟩
 have f4:Fr S0 A3 A4:=by rw[e4,hbh];exact Fr.aF A3 _
 have r4:A4.blk[bh]?=some ⟨wc .u64 (s8l iN),.arr bh 0⟩:=by rw[e4,hbh];exact Ab9 A3 _
 have so4:fN A4 bh bh:=by rw[e4,hbh];exact fN.new w3
 simp only[RT,Q0,Q1,Q2,Q3,Q4,Q5,Q6,Q7,Q8,Av8,<- e1]
 refine Aa0 k2 ?_
 simp only[RT,Q0,Q1,Q2,Q3,Q4,Q5,Q6,Q7,Q8]
 refine Aa0 k3 ?_
 simp only[RT,Q0,Q1,Q2,Q3,Q4,Q5,Q6,Q7,Q8,Ck4,<- hbh,<- e4,<- hb1]
 have l3:=f3.len
 have l2:=f2.len
 have l1:=Ab3 r1
 refine Aa6 (fun z e B=>∃i:Nat,z=n-i/\i<=n/\e.get 7=.int .i64 ((64*i:Nat):Int)/\e.get 2=.ptr b1 0/\e.get 3=.str pb/\e.get 4=.sl bk 0 64 1/\e.get 5=.int .u64 4294967296/\e.get 6=.sl bh 0 8 1/\Fr S0 A1 B/\B.blk[bk]?=some ⟨wc .u64 shK,.arr bk 0⟩/\B.blk[bh]?=some ⟨wc .u64 (s8l ((ch.take i).foldl comp iN)),.arr bh 0⟩/\fN B bh bh)
  (fun z e B=>Is z (.exit 0)/\e.get 2=.ptr b1 0/\e.get 6=.sl bh 0 8 1/\Fr S0 A1 B/\B.blk[bh]?=some ⟨wc .u64 (s8l (ch.foldl comp iN)),.arr bh 0⟩)
  ⟨_,0,rfl,by omega,rfl,rfl,rfl,rfl,rfl,rfl,(f2.ab f3).ab f4,f4.af r3,r4,so4⟩ ?_ ?_
 . rintro z e B ⟨ii,rfl,hii,h7,h2,h3,h4,h5,h6,hf,hk,hh,hso⟩
   simp only[RT,Q0,Q1,Q2,Q3,Q4,Q5,Q6,Q7,Q8,h7,h3,As1 Tryz.underlying9]
   refine Aa8 (fun q1=>?_) (fun q1=>?_)
   rotate_left
   . have:ii=n:=by omega
     subst this
     rw[<- hcl,List.take_length]at hh
     simp only[RT,Q0,Q1,Q2,Q3,Q4,Q5,Q6,Q7,Q8]
     exact⟨rfl,h2,h6,hf,hh⟩
   have hii:ii<n:=by omega
   obtain⟨st,hst⟩:∃st,st=(ch.take ii).foldl comp iN:=⟨_,rfl⟩
   rw[<- hst]at hh
   obtain⟨blk,kX⟩:=Ac7 (l:=ch) (i:=ii) (by omega)
   obtain⟨_,qV,tI⟩:=AK4 (by rw[<- hch];exact kX)
   have wB:=hf.wf w1
   obtain⟨bw,hbw⟩:∃b,b=B.blk.length:=⟨_,rfl⟩
   obtain⟨B1,eB1⟩:∃C,C=B.push ⟨wc .u64 (List.replicate 64 0),.arr bw 0⟩:=⟨_,rfl⟩
   have fB1:Fr S0 B B1:=by rw[eB1,hbw];exact Fr.aF B _
   have lbk:=Ab3 hk
   have lbh:=Ab3 hh
   have lA1:=hf.len
   have H0:RW A1 B1 bk bh bw st (List.replicate 64 0):=⟨hf.ab fB1,fB1.af hk,fB1.af hh,hso.fr fB1 (fun q=>q),by rw[eB1,hbw];exact Ab9 B _,by rw[eB1,hbw];exact fN.new wB⟩
   obtain⟨W,hW⟩:∃W:Nat->List W32,W=wl blk:=⟨_,rfl⟩
   have hWl:∀i,(W i).length=i:=fun i=>by rw[hW,Bg1]
   have hWs:∀i,W (i+1)=W i++[if i<16 then be4 blk i else gw (W i) (i-16)+jK (gw (W i) (i-15))+gw (W i) (i-7)+iM (gw (W i) (i-2))]:=fun i=>by rw[hW];rfl
   obtain⟨R,hRd⟩:∃R:Nat->S8,R=rl (W 64) st:=⟨_,rfl⟩
   have hRs:∀i,R (i+1)=rnd (gw shK i) (gw (W 64) i) (R i):=fun i=>by rw[hRd];rfl
   have hR0:R 0=st:=by rw[hRd];rfl
   have kV:comp st blk=np st (R 64):=by rw[hRd,hW];rfl
   have H0':RW A1 B1 bk bh bw st (W 0++List.replicate (64-0) 0):=by rw[show W 0=[] by rw[hW];rfl,List.nil_append,Nat.sub_zero];exact H0
   have nD:bk≠bw:=by omega
   have mT:bh≠bw:=by omega
   have hA1w:A1.blk.length<=bw:=by omega
   simp only[RT,Q0,Q1,Q2,Q3,Q4,Q5,Q6,Q7,Q8,Ck2,<- hbw,<- eB1]
   refine Aa6 (fun z e C=>∃i:Nat,z=64-i/\i<=64/\e.get 9=.int .i64 i/\e.get 8=.sl bw 0 64 1/\e.get 7=.int .i64 ((64*ii:Nat):Int)/\e.get 2=.ptr b1 0/\e.get 3=.str pb/\e.get 4=.sl bk 0 64 1/\e.get 5=.int .u64 4294967296/\e.get 6=.sl bh 0 8 1/\RW A1 C bk bh bw st (W i++List.replicate (64-i) 0))
    (fun z e C=>Is z (.exit 2)/\e.get 8=.sl bw 0 64 1/\e.get 7=.int .i64 ((64*ii:Nat):Int)/\e.get 2=.ptr b1 0/\e.get 3=.str pb/\e.get 4=.sl bk 0 64 1/\e.get 5=.int .u64 4294967296/\e.get 6=.sl bh 0 8 1/\RW A1 C bk bh bw st (W 64))
    ⟨_,0,rfl,by omega,rfl,rfl,h7,h2,h3,h4,h5,h6,H0'⟩ ?_ ?_
   . rintro z e C ⟨i,rfl,hi,h9,h8,h7,h2,h3,h4,h5,h6,H⟩
     simp only[RT,Q0,Q1,Q2,Q3,Q4,Q5,Q6,Q7,Q8,h9]
     refine Aa8 (fun q2=>?_) (fun q2=>?_)
     rotate_left
     . have:i=64:=by omega
       subst this
       rw[Nat.sub_self,List.replicate_zero,List.append_nil]at H
       simp only[RT,Q0,Q1,Q2,Q3,Q4,Q5,Q6,Q7,Q8]
       exact⟨rfl,h8,h7,h2,h3,h4,h5,h6,H⟩
     have hi:i<64:=by omega
     have hll:(W i++List.replicate (64-i) (0:W32)).length=64:=by rw[List.length_append,hWl,List.length_replicate];omega
     have wi:IntKind.i64.wrap ((i:Int)+1)=((i+1:Nat):Int):=by rw[Ac2 (by omega)]
     by_cases q16:i<16
     . simp only[RT,Q0,Q1,Q2,Q3,Q4,Q5,Q6,Q7,Q8,h9,DT (show((i:Int)<16) by omega)]
       have w4:IntKind.i64.wrap (4*(i:Int))=((4*i:Nat):Int):=by rw[Ac6 (by omega) (by omega)];omega
       have wa:IntKind.i64.wrap (((64*ii:Nat):Int)+((4*i:Nat):Int))=((64*ii+4*i:Nat):Int):=by rw[Ac6 (by omega) (by omega)];omega
       refine Aa6 (fun z e D=>∃c:Nat,z=4-c/\c<=4/\e.get 10=.int .i64 c/\e.get 9=.int .i64 i/\e.get 8=.sl bw 0 64 1/\e.get 7=.int .i64 ((64*ii:Nat):Int)/\e.get 2=.ptr b1 0/\e.get 3=.str pb/\e.get 4=.sl bk 0 64 1/\e.get 5=.int .u64 4294967296/\e.get 6=.sl bh 0 8 1/\RW A1 D bk bh bw st (W i++[BitVec.ofNat 32 (pw blk i c)]++List.replicate (64-(i+1)) 0))
        (fun z e D=>Is z (.exit 4)/\e.get 9=.int .i64 i/\e.get 8=.sl bw 0 64 1/\e.get 7=.int .i64 ((64*ii:Nat):Int)/\e.get 2=.ptr b1 0/\e.get 3=.str pb/\e.get 4=.sl bk 0 64 1/\e.get 5=.int .u64 4294967296/\e.get 6=.sl bh 0 8 1/\RW A1 D bk bh bw st (W (i+1)++List.replicate (64-(i+1)) 0))
        ⟨_,0,rfl,by omega,rfl,h9,h8,h7,h2,h3,h4,h5,h6,by
         have e:W i++[BitVec.ofNat 32 (pw blk i 0)]++List.replicate (64-(i+1)) (0:W32)=W i++List.replicate (64-i) 0:=by
          rw[List.append_assoc,show 64-i=(64-(i+1))+1 by omega,List.replicate_succ];rfl
         rw[e];exact H⟩ ?_ ?_
       . clear H h9 h8 h7 h2 h3 h4 h5 h6
         rintro z e D ⟨c,rfl,hc,h10,h9,h8,h7,h2,h3,h4,h5,h6,H⟩
         simp only[RT,Q0,Q1,Q2,Q3,Q4,Q5,Q6,Q7,Q8,h10]
         refine Aa8 (fun q3=>?_) (fun q3=>?_)
         rotate_left
         . have:c=4:=by omega
           subst this
           rw[B28,show W i++[be4 blk i]=W (i+1) by rw[hWs,if_pos q16]]at H
           simp only[RT,Q0,Q1,Q2,Q3,Q4,Q5,Q6,Q7,Q8]
           exact⟨rfl,h9,h8,h7,h2,h3,h4,h5,h6,H⟩
         have hc:c<4:=by omega
         have wc':IntKind.i64.wrap ((c:Int)+1)=((c+1:Nat):Int):=by rw[Ac2 (by omega)]
         have wb:IntKind.i64.wrap (((64*ii+4*i:Nat):Int)+(c:Int))=((64*ii+4*i+c:Nat):Int):=by rw[Ac6 (by omega) (by omega)];omega
         have hle:(W i++[BitVec.ofNat 32 (pw blk i c)]++List.replicate (64-(i+1)) (0:W32)).length=64:=by simp only[List.length_append,hWl,List.length_singleton,List.length_replicate];omega
         have hg:gw (W i++[BitVec.ofNat 32 (pw blk i c)]++List.replicate (64-(i+1)) (0:W32)) i=BitVec.ofNat 32 (pw blk i c):=by
          rw[Bg3 (by rw[List.length_append,hWl];show i<i+1;omega)]
          unfold gw
          rw[List.getD_eq_getElem?_getD,List.getElem?_append_right (by rw[hWl];exact Nat.le_refl _),hWl,Nat.sub_self];rfl
         have lw:=ldU H.w (j:=i) (by rw[hle];exact hi)
         rw[hg,A67 blk i (by omega)]at lw
         obtain⟨x,hx⟩:=Ac7 (l:=pb) (i:=64*ii+4*i+c) (by omega)
         have hgb:gb blk (4*i+c)=x.toNat:=by
          unfold gb
          rw[qV,List.getD_eq_getElem?_getD,List.getElem?_take_of_lt (by omega),List.getElem?_drop,show 64*ii+(4*i+c)=64*ii+4*i+c by omega,hx];rfl
         have y1:=Cd7 (P:=TP) (t:=9) (k:=.i64) Tryz.underlying9 hx
         rw[<- hgb]at y1
         have hpc:=BJ4 blk i c
         have tO:256^c<=256^3:=Nat.pow_le_pow_right (by decide) (by omega)
         have hgl:=AN9 blk (4*i+c)
         have wm:IntKind.u64.wrap ((pw blk i c:Int)*256)=((pw blk i c*256:Nat):Int):=by rw[Ad1];omega
         have ws:IntKind.u64.wrap (((pw blk i c*256:Nat):Int)+(gb blk (4*i+c):Int))=((pw blk i (c+1):Nat):Int):=by rw[Ad1,pw];omega
         obtain⟨E,t1,t2⟩:=H.store nD mT hA1w (j:=i) (by rw[hle];exact hi) (BitVec.ofNat 32 (pw blk i (c+1)))
         rw[A67 blk i (by omega)]at t1
         have lQ:(W i++[BitVec.ofNat 32 (pw blk i c)]++List.replicate (64-(i+1)) (0:W32)).set i (BitVec.ofNat 32 (pw blk i (c+1)))=W i++[BitVec.ofNat 32 (pw blk i (c+1))]++List.replicate (64-(i+1)) 0:=by
          rw[List.append_assoc,List.set_append,if_neg (by rw[hWl];omega),hWl,Nat.sub_self,List.append_assoc];rfl
         rw[lQ]at t2
         simp only[RT,Q0,Q1,Q2,Q3,Q4,Q5,Q6,Q7,Q8,h10]
         rw[BC1,Aa2 (by rfl)]
         simp only[RT,Q0,Q1,Q2,Q3,Q4,Q5,Q6,Q7,Q8,h8,h9,axU (b:=bw) hi,lw,wm,h3,h7,w4,wa,h10,wb,y1,Ck3,ws,t1]
         simp only[RT,Q0,Q1,Q2,Q3,Q4,Q5,Q6,Q7,Q8,h10,wc']
         refine⟨4-(c+1),by omega,c+1,rfl,by omega,?_⟩
         and_intros<;>first |rfl |assumption
       . rintro z e D hz ⟨rfl,h9,h8,h7,h2,h3,h4,h5,h6,H⟩
         simp only[RT,Q0,Q1,Q2,Q3,Q4,Q5,Q6,Q7,Q8,h9,wi]
         exact⟨64-(i+1),by omega,i+1,rfl,by omega,rfl,h8,h7,h2,h3,h4,h5,h6,H⟩
     . simp only[RT,Q0,Q1,Q2,Q3,Q4,Q5,Q6,Q7,Q8,h9,DF (show ¬((i:Int)<16) by omega)]
       have w15:IntKind.i64.wrap ((i:Int)-15)=((i-15:Nat):Int):=by rw[Ac6 (by omega) (by omega)];omega
       have w2:IntKind.i64.wrap ((i:Int)-2)=((i-2:Nat):Int):=by rw[Ac6 (by omega) (by omega)];omega
       have w16:IntKind.i64.wrap ((i:Int)-16)=((i-16:Nat):Int):=by rw[Ac6 (by omega) (by omega)];omega
       have w7:IntKind.i64.wrap ((i:Int)-7)=((i-7:Nat):Int):=by rw[Ac6 (by omega) (by omega)];omega
       have g:∀j,j<i->aa TP 205 (.ptr bw j) C=some (.int .u64 ((gw (W i) j).toNat:Int)):=fun j hj=>by
        rw[ldU H.w (by omega),Bg3 (by rw[hWl];exact hj)]
       rw[BC2,Aa2 (by rfl)]
       simp only[RT,Q0,Q1,Q2,Q3,Q4,Q5,Q6,Q7,Q8,h8,h9,w15,w2,axU (b:=bw) (show i-15<64 by omega),axU (b:=bw) (show i-2<64 by omega),g (i-15) (by omega),g (i-2) (by omega)]
       refine Aa0 (Ag2 (n:=7) (by decide) (by decide) rfl) ?_
       simp only[RT,Q0,Q1,Q2,Q3,Q4,Q5,Q6,Q7,Q8]
       refine Aa0 (Ag2 (n:=18) (by decide) (by decide) rfl) ?_
       simp only[RT,Q0,Q1,Q2,Q3,Q4,Q5,Q6,Q7,Q8,Am5,Bb4,Cz8]
       refine Aa0 (Ag2 (n:=17) (by decide) (by decide) rfl) ?_
       simp only[RT,Q0,Q1,Q2,Q3,Q4,Q5,Q6,Q7,Q8]
       refine Aa0 (Ag2 (n:=19) (by decide) (by decide) rfl) ?_
       simp only[RT,Q0,Q1,Q2,Q3,Q4,Q5,Q6,Q7,Q8,Am5,Bb4,BJ3]
       rw[BC3,Aa2 (by rfl)]
       obtain⟨D,t1,t2⟩:=H.store nD mT hA1w (j:=i) (by rw[hll];exact hi) (gw (W i) (i-16)+jK (gw (W i) (i-15))+gw (W i) (i-7)+iM (gw (W i) (i-2)))
       rw[AO0 (hWl i) hi]at t2
       unfold jK iM at t1
       simp only[RT,Q0,Q1,Q2,Q3,Q4,Q5,Q6,Q7,Q8,h8,h9,w16,w7,axU (b:=bw) (show i-16<64 by omega),axU (b:=bw) (show i-7<64 by omega),g (i-16) (by omega),g (i-7) (by omega),Bt7,B26,B27,h5,Cj6,axU (b:=bw) hi,t1]
       simp only[RT,Q0,Q1,Q2,Q3,Q4,Q5,Q6,Q7,Q8,h9,wi]
       have t3:RW A1 D bk bh bw st (W (i+1)++List.replicate (64-(i+1)) 0):=by rw[hWs,if_neg q16];exact t2
       refine⟨64-(i+1),by omega,i+1,rfl,by omega,?_⟩
       and_intros<;>first |rfl |assumption
   clear h7 h2 h3 h4 h5 h6 H0 H0'
   rintro z e C hz ⟨rfl,h8,h7,h2,h3,h4,h5,h6,H⟩
   have wC:=H.fr.wf w1
   have lbhC:bh<C.blk.length:=Ab3 H.h
   have fQ:fR TP 203 1 (.sl bh 0 8 1) (C.push ⟨[],.arr C.blk.length 0⟩)=some (8,wc .u64 (s8l st)):=AS0 Tryz.underlying203 ((Fr.aF C []).af H.h) (by rw[Aq5];rfl)
   obtain⟨D,p1,p2,p3,_⟩:=AB8 (P:=TP) (t:=203) (tx:=203) Ct8 wC fQ (by rw[Aq5];rfl) (by decide) (Bg2 _ _) (by decide) (by decide)
   simp only[RT,Q0,Q1,Q2,Q3,Q4,Q5,Q6,Q7,Q8,Cz9,h6,p1]
   have HD:=H.s0 p2
   have hp3:∃kd,D.blk[C.blk.length+1]?=some ⟨wc .u64 (s8l (R 0)),kd⟩:=⟨_,by rw[hR0];exact p3⟩
   obtain⟨kd0,hp3⟩:=hp3
   clear H p1 p2 p3
   refine Aa6 (fun z e E=>∃(i bv:Nat) (kd:BK),z=64-i/\i<=64/\e.get 16=.int .i64 i/\e.get 15=.sl bv 0 8 1/\e.get 8=.sl bw 0 64 1/\e.get 7=.int .i64 ((64*ii:Nat):Int)/\e.get 2=.ptr b1 0/\e.get 3=.str pb/\e.get 4=.sl bk 0 64 1/\e.get 5=.int .u64 4294967296/\e.get 6=.sl bh 0 8 1/\RW A1 E bk bh bw st (W 64)/\E.blk[bv]?=some ⟨wc .u64 (s8l (R i)),kd⟩/\bv≠bh)
    (fun z e E=>Is z (.exit 6)/\∃(bv:Nat) (kd:BK),e.get 15=.sl bv 0 8 1/\e.get 7=.int .i64 ((64*ii:Nat):Int)/\e.get 2=.ptr b1 0/\e.get 3=.str pb/\e.get 4=.sl bk 0 64 1/\e.get 5=.int .u64 4294967296/\e.get 6=.sl bh 0 8 1/\RW A1 E bk bh bw st (W 64)/\E.blk[bv]?=some ⟨wc .u64 (s8l (R 64)),kd⟩/\bv≠bh)
    ⟨_,0,C.blk.length+1,kd0,rfl,by omega,rfl,rfl,h8,h7,h2,h3,h4,h5,h6,HD,hp3,by omega⟩ ?_ ?_
   . clear HD hp3 h8 h7 h2 h3 h4 h5 h6
     rintro z e E ⟨i,bv,kd,rfl,hi,h16,h15,h8,h7,h2,h3,h4,h5,h6,H,hv,hbv⟩
     simp only[RT,Q0,Q1,Q2,Q3,Q4,Q5,Q6,Q7,Q8,h16]
     refine Aa8 (fun q2=>?_) (fun q2=>?_)
     rotate_left
     . have:i=64:=by omega
       subst this
       simp only[RT,Q0,Q1,Q2,Q3,Q4,Q5,Q6,Q7,Q8]
       exact⟨rfl,bv,kd,h15,h7,h2,h3,h4,h5,h6,H,hv,hbv⟩
     have hi:i<64:=by omega
     have wi:IntKind.i64.wrap ((i:Int)+1)=((i+1:Nat):Int):=by rw[Ac2 (by omega)]
     obtain⟨v,hvd⟩:∃v,v=R i:=⟨_,rfl⟩
     rw[<- hvd]at hv
     have l8:=CA1 hv
     have ax:=CA0 bv
     have lk:=ldU H.k (j:=i) (show i<64 from hi)
     have lw:=ldU H.w (j:=i) (by rw[hWl];exact hi)
     simp only[RT,Q0,Q1,Q2,Q3,Q4,Q5,Q6,Q7,Q8]
     rw[BC4,Aa2 (by rfl)]
     simp only[RT,Q0,Q1,Q2,Q3,Q4,Q5,Q6,Q7,Q8,h15,ax,l8,AN1,B29,h5,Cj9,A48,Cu9,Ch3]
     rw[BC5,Aa2 (by rfl)]
     simp only[RT,Q0,Q1,Q2,Q3,Q4,Q5,Q6,Q7,Q8,h15,ax,l8,AN1,B29,A48,Cu9,BZ1,BC6,h4,h8,h16,axU (b:=bk) hi,axU (b:=bw) hi,lk,lw,Aa1]
     refine Aa0 (Ag2 (n:=6) (by decide) (by decide) rfl) ?_
     simp only[RT,Q0,Q1,Q2,Q3,Q4,Q5,Q6,Q7,Q8,Aa1]
     refine⟨Aa5 (ha:=rfl) rfl l8.2.2.2.2.2.2.2 rfl (Aa5 (ha:=rfl) rfl l8.2.2.2.2.1 rfl (Aa5 (ha:=rfl) rfl l8.2.2.2.2.1 rfl (Aa5 (ha:=rfl) rfl lk rfl (Aa5 (ha:=rfl) rfl lw rfl Aa1)))),?_⟩
     refine Aa0 (Ag2 (n:=11) (by decide) (by decide) rfl) ?_
     simp only[RT,Q0,Q1,Q2,Q3,Q4,Q5,Q6,Q7,Q8,Aa1]
     refine⟨Aa5 (ha:=rfl) rfl l8.2.2.2.2.2.2.2 rfl (Aa5 (ha:=rfl) rfl l8.2.2.2.2.1 rfl (Aa5 (ha:=rfl) rfl lk rfl (Aa5 (ha:=rfl) rfl lw rfl Aa1))),?_⟩
     simp only[RT,Q0,Q1,Q2,Q3,Q4,Q5,Q6,Q7,Q8,Aa1,Am5,Bb4]
     refine Aa0 (Ag2 (n:=25) (by decide) (by decide) rfl) ?_
     simp only[RT,Q0,Q1,Q2,Q3,Q4,Q5,Q6,Q7,Q8,Aa1]
     refine⟨Aa5 (ha:=rfl) rfl l8.2.2.2.2.2.2.2 rfl (Aa5 (ha:=rfl) rfl lk rfl (Aa5 (ha:=rfl) rfl lw rfl Aa1)),?_⟩
     simp only[RT,Q0,Q1,Q2,Q3,Q4,Q5,Q6,Q7,Q8,Aa1,Am5,Bb4,Bt7,B26,B27,Cj2,BC7,h15,ax,l8]
     refine Aa0 (Ag2 (n:=2) (by decide) (by decide) rfl) ?_
     simp only[RT,Q0,Q1,Q2,Q3,Q4,Q5,Q6,Q7,Q8,Aa1]
     refine⟨Aa5 (ha:=rfl) rfl l8.1 rfl (Aa5 (ha:=rfl) rfl l8.1 rfl Aa1),?_⟩
     refine Aa0 (Ag2 (n:=13) (by decide) (by decide) rfl) ?_
     simp only[RT,Q0,Q1,Q2,Q3,Q4,Q5,Q6,Q7,Q8,Aa1]
     refine⟨Aa5 (ha:=rfl) rfl l8.1 rfl Aa1,?_⟩
     simp only[RT,Q0,Q1,Q2,Q3,Q4,Q5,Q6,Q7,Q8,Aa1,Am5,Bb4]
     refine Aa0 (Ag2 (n:=22) (by decide) (by decide) rfl) ?_
     simp only[RT,Q0,Q1,Q2,Q3,Q4,Q5,Q6,Q7,Q8,Aa1,Am5,Bb4,Bt7]
     rw[BC8,Aa2 (by rfl)]
     obtain⟨bn,hbn⟩:∃b,b=E.blk.length:=⟨_,rfl⟩
     obtain⟨G,eG⟩:∃G,G=E.push ⟨wc .u64 (s8l (rnd (gw shK i) (gw (W 64) i) v)),.arr bn 0⟩:=⟨_,rfl⟩
     have fG:Fr S0 E G:=by rw[eG,hbn];exact Fr.aF E _
     have rG:G.blk[bn]?=some ⟨wc .u64 (s8l (R (i+1))),.arr bn 0⟩:=by rw[eG,hbn,hRs,<- hvd];exact Ab9 E _
     have HG:=H.s0 fG
     have hne:bn≠bh:=by have:=Ab3 H.h;omega
     have eG':E.push ⟨[.int .u64 ((kU (gw shK i) (gw (W 64) i) v+nj v).toNat:Int),.int .u64 (v.a.toNat:Int),.int .u64 (v.b.toNat:Int),.int .u64 (v.c.toNat:Int),.int .u64 ((v.d+kU (gw shK i) (gw (W 64) i) v).toNat:Int),.int .u64 (v.e.toNat:Int),.int .u64 (v.f.toNat:Int),.int .u64 (v.g.toNat:Int)],.arr bn 0⟩=G:=eG.symm
     unfold kU nj sg0 sg1 at eG'
     simp only[RT,Q0,Q1,Q2,Q3,Q4,Q5,Q6,Q7,Q8,h15,ax,l8,h5,Cj3,Cj7,Cj4,Cj8,Ck1,<- hbn,eG']
     simp only[RT,Q0,Q1,Q2,Q3,Q4,Q5,Q6,Q7,Q8,h16,wi]
     refine⟨64-(i+1),by omega,i+1,bn,.arr bn 0,rfl,by omega,?_⟩
     and_intros<;>first |rfl |assumption
   clear hp3 HD h8 h7 h2 h3 h4 h5 h6
   rintro z e E hz ⟨rfl,bv,kd,h15,h7,h2,h3,h4,h5,h6,H,hv,hbv⟩
   obtain⟨v,hvd⟩:∃v,v=R 64:=⟨_,rfl⟩
   rw[<- hvd]at hv kV
   simp only[RT,Q0,Q1,Q2,Q3,Q4,Q5,Q6,Q7,Q8]
   refine Aa6 (fun z e G=>∃i:Nat,z=8-i/\i<=8/\e.get 21=.int .i64 i/\e.get 15=.sl bv 0 8 1/\e.get 7=.int .i64 ((64*ii:Nat):Int)/\e.get 2=.ptr b1 0/\e.get 3=.str pb/\e.get 4=.sl bk 0 64 1/\e.get 5=.int .u64 4294967296/\e.get 6=.sl bh 0 8 1/\Fr S0 A1 G/\G.blk[bk]?=some ⟨wc .u64 shK,.arr bk 0⟩/\G.blk[bh]?=some ⟨wc .u64 (mx8 st v i),.arr bh 0⟩/\fN G bh bh/\G.blk[bv]?=some ⟨wc .u64 (s8l v),kd⟩)
    (fun z e G=>Is z (.exit 8)/\e.get 7=.int .i64 ((64*ii:Nat):Int)/\e.get 2=.ptr b1 0/\e.get 3=.str pb/\e.get 4=.sl bk 0 64 1/\e.get 5=.int .u64 4294967296/\e.get 6=.sl bh 0 8 1/\Fr S0 A1 G/\G.blk[bk]?=some ⟨wc .u64 shK,.arr bk 0⟩/\G.blk[bh]?=some ⟨wc .u64 (s8l (comp st blk)),.arr bh 0⟩/\fN G bh bh)
    ⟨_,0,rfl,by omega,rfl,h15,h7,h2,h3,h4,h5,h6,H.fr,H.k,H.h,H.hs,hv⟩ ?_ ?_
   . clear H hv h15 h7 h2 h3 h4 h5 h6
     rintro z e G ⟨i,rfl,hi,h21,h15,h7,h2,h3,h4,h5,h6,hG,hk,hh,hso,hv⟩
     simp only[RT,Q0,Q1,Q2,Q3,Q4,Q5,Q6,Q7,Q8,h21]
     refine Aa8 (fun q2=>?_) (fun q2=>?_)
     rotate_left
     . have:i=8:=by omega
       subst this
       have hh:G.blk[bh]?=some ⟨wc .u64 (s8l (comp st blk)),.arr bh 0⟩:=by rw[kV];exact hh
       simp only[RT,Q0,Q1,Q2,Q3,Q4,Q5,Q6,Q7,Q8]
       exact⟨rfl,h7,h2,h3,h4,h5,h6,hG,hk,hh,hso⟩
     have hi:i<8:=by omega
     have wi:IntKind.i64.wrap ((i:Int)+1)=((i+1:Nat):Int):=by rw[Ac2 (by omega)]
     obtain⟨m1,m2⟩:=A61 (s:=st) (v:=v) hi
     have ml8:=AZ6 (s:=st) (v:=v) (i:=i) (by omega)
     obtain⟨F,t1,t2,t3,t4⟩:=stU hso hh (j:=i) (by rw[ml8];exact hi) (gw (s8l st) i+gw (s8l v) i)
     rw[m2]at t3
     have lh:=ldU hh (j:=i) (by rw[ml8];exact hi)
     rw[m1]at lh
     have lv:=ldU hv (j:=i) (show i<8 from hi)
     simp only[RT,Q0,Q1,Q2,Q3,Q4,Q5,Q6,Q7,Q8,h21]
     rw[BC9,Aa2 (by rfl)]
     simp only[RT,Q0,Q1,Q2,Q3,Q4,Q5,Q6,Q7,Q8,h6,h15,h21,axU (b:=bh) hi,axU (b:=bv) hi,lh,lv,Bt7,h5,Cj5,t1]
     simp only[RT,Q0,Q1,Q2,Q3,Q4,Q5,Q6,Q7,Q8,h21,wi]
     have z1:=hG.ar t2 (by omega)
     have z2:=t2.row _ _ hk (fun q=>by cases q;omega)
     have z3:=t2.row _ _ hv (fun q=>by cases q;exact hbv rfl)
     refine⟨8-(i+1),by omega,i+1,rfl,by omega,?_⟩
     and_intros<;>first |rfl |assumption |exact t4.1 |exact t4.2
   clear H hv h15 h7 h2 h3 h4 h5 h6
   rintro z e G hz ⟨rfl,h7,h2,h3,h4,h5,h6,hG,hk,hh,hso⟩
   have w64:IntKind.i64.wrap (((64*ii:Nat):Int)+64)=((64*(ii+1):Nat):Int):=by rw[Ac6 (by omega) (by omega)];omega
   simp only[RT,Q0,Q1,Q2,Q3,Q4,Q5,Q6,Q7,Q8,h7,w64]
   have hh2:G.blk[bh]?=some ⟨wc .u64 (s8l ((ch.take (ii+1)).foldl comp iN)),.arr bh 0⟩:=by
    rw[Ab6 kX,List.foldl_append,<- hst];exact hh
   refine⟨n-(ii+1),by omega,ii+1,rfl,by omega,?_⟩
   and_intros<;>first |rfl |assumption |exact hso.1 |exact hso.2
 rintro z e B hz ⟨rfl,h2,h6,hf,hh⟩
 obtain⟨st,hst⟩:∃s,s=ch.foldl comp iN:=⟨_,rfl⟩
 rw[<- hst]at hh qU
 obtain⟨C,t1,t2,t3⟩:=BX9 (A:=B) bF (by simp[bF])
 obtain⟨b22,qW⟩:∃b,b=B.blk.length:=⟨_,rfl⟩
 rw[<- qW]at t1 t3
 simp only[RT,Q0,Q1,Q2,Q3,Q4,Q5,Q6,Q7,Q8,Ci0,Av8,<- qW,t1]
 have hhC:=t2.af hh
 have hr1C:=t2.af (hf.af r1)
 have lbh:=Ab3 hh
 have lb1:=Ab3 (hf.af r1)
 have lA1:=hf.len
 refine Aa6 (fun z e E=>∃i:Nat,z=32-i/\i<=32/\e.get 23=.int .i64 i/\e.get 2=.ptr b1 0/\e.get 6=.sl bh 0 8 1/\e.get 22=.ptr b22 0/\Fr (·=.row b22) C E/\E.blk[b22]?=some ⟨bc ((jA st).take i++List.replicate (32-i) 0),.var⟩)
  (fun z e E=>Is z (.exit 10)/\e.get 2=.ptr b1 0/\e.get 22=.ptr b22 0/\Fr (·=.row b22) C E/\E.blk[b22]?=some ⟨bc (jA st),.var⟩)
  ⟨_,0,rfl,by omega,rfl,h2,h6,rfl,.refl _ _,t3⟩ ?_ ?_
 . rintro z e E ⟨i,rfl,hi,h23,h2,h6,h22,hfE,hB⟩
   simp only[RT,Q0,Q1,Q2,Q3,Q4,Q5,Q6,Q7,Q8,h23]
   refine Aa8 (fun q1=>?_) (fun q1=>?_)
   rotate_left
   . have:i=32:=by omega
     subst this
     rw[List.take_of_length_le (by rw[Ag3];exact Nat.le_refl _),Nat.sub_self,List.replicate_zero,List.append_nil]at hB
     simp only[RT,Q0,Q1,Q2,Q3,Q4,Q5,Q6,Q7,Q8]
     exact⟨rfl,h2,h22,hfE,hB⟩
   have hi:i<32:=by omega
   have wi:IntKind.i64.wrap ((i:Int)+1)=((i+1:Nat):Int):=by rw[Ac2 (by omega)]
   have q4:aw TP .quo 3 (.int .i64 (i:Int)) (.int .i64 4)=some (.int .i64 ((i/4:Nat):Int)):=by
    rw[As2,if_neg (by omega),show((i:Int)).tdiv 4=((i/4:Nat):Int)from rfl,Ac6 (by omega) (by omega)]
   have r4:aw TP .rem 3 (.int .i64 (i:Int)) (.int .i64 4)=some (.int .i64 ((i%4:Nat):Int)):=by
    rw[Al8,if_neg (by omega)];rfl
   have w8:IntKind.i64.wrap (8*((i%4:Nat):Int))=((8*(i%4):Nat):Int):=by rw[Ac6 (by omega) (by omega)];omega
   have w24:IntKind.i64.wrap (24-((8*(i%4):Nat):Int))=((24-8*(i%4):Nat):Int):=by rw[Ac6 (by omega) (by omega)];omega
   have lS:=ldU (hfE.row _ _ hhC (fun q=>by cases q;omega)) (j:=i/4) (show i/4<8 by omega)
   obtain⟨G,u1,u2,u3⟩:=stB hB (j:=i) (by rw[List.length_append,List.length_take,Ag3,List.length_replicate];omega) (UInt8.ofNat ((gw (s8l st) (i/4)).toNat >>> (24-8*(i%4))))
   rw[AT4 hi]at u3
   have rm:∀x:W32,aw TP .rem 205 (.int .u64 (x.toNat:Int)) (.int .u64 256)=some (.int .u64 ((x.toNat%256:Nat):Int)):=fun x=>by rw[Al8,if_neg (by omega)];rfl
   have u1':ag TP 5 (.ptr b22 i) (.int .u8 ((UInt8.ofNat ((gw (s8l st) (i/4) >>> (24-8*(i%4))).toNat%256)).toNat:Int)) E=some G:=by rw[BG2,BitVec.toNat_ushiftRight];exact u1
   simp only[RT,Q0,Q1,Q2,Q3,Q4,Q5,Q6,Q7,Q8,h23,h6,q4,r4,w8,w24,axU (b:=bh) (show i/4<8 by omega),lS,Ax9,Bg4 (k:=.u64) (.inr rfl) _ (n:=24-8*(i%4)) (by omega),rm,Bg9,h22,Cu4 (r:=b22) hi,u1']
   simp only[RT,Q0,Q1,Q2,Q3,Q4,Q5,Q6,Q7,Q8,h23,wi]
   refine⟨32-(i+1),by omega,i+1,rfl,by omega,?_⟩
   have z1:Fr (·=.row b22) C G:=hfE.trans u2 fun x q=>.inl q
   and_intros<;>first |rfl |assumption
 rintro z e E hz ⟨rfl,h2,h22,hfE,hB⟩
 have hr1E:=hfE.row _ _ hr1C (fun q=>by cases q;omega)
 obtain⟨G,u1,u2,u3⟩:=AA5 hr1E (by simp[bF]) (Ag3 st)
 simp only[RT,Q0,Q1,Q2,Q3,Q4,Q5,Q6,Q7,Q8,h22,ldI hB (Ag3 st),h2,u1,ldI u3 (Ag3 st)]
 exact⟨(((f1.ab hf).ab t2).ar hfE (by omega)).ar u2 (by omega),by rw[qU]⟩
end
end Go.Sv.Tryz
namespace Go.Sv.Tryz
open Go Go.Proofs
theorem Ck5(n me h:Int)(cp:Nat):au TP 137 [(0,.int .i64 n),(1,.int .i64 me),(2,.int .i64 h),(3,.int .i64 (-1)),(4,.int .i64 3),(12,.ptr cp 0)]=some (.agg (.int .i64 n::.int .i64 me::.int .i64 h::(dP (rd0 0 0 0) .ah .ah cp).drop 3)):=by kernel_rfl
theorem B30(n me:Nat)(h:Int)(cp:Nat):au TP 137 [(0,.int .i64 n),(1,.int .i64 me),(2,.int .i64 h),(3,.int .i64 (-1)),(4,.int .i64 3),(12,.ptr cp 0)]=some (.agg (dP (rd0 n me h) .ah .ah cp)):=Ck5 n me h cp
theorem CA2(n me:Nat)(h:Int):Rok (rd0 n me h):=⟨Aa9,Aa9,Aa9,fun _=>Aa9,fun _ _ _=>Aa9⟩
theorem CA3{n me:Nat}{h:Int}(hm:me<n)(h0:0<=h)(h1:h<=9223372036854775807):Rng (rd0 n me h) where
 me:=hm
 now:=⟨by show(-1:Int)<=-1;omega,by show(-1:Int)<12;omega⟩
 ai:=⟨h0,h1⟩
 valid:=⟨by show(0:Int)<=0;omega,by show(0:Int)<=1000;omega⟩
 locked:=⟨by show(0:Int)<=0;omega,by show(0:Int)<=1000;omega⟩
 step:=⟨by show(0:Int)<=3;omega,by show(3:Int)<=3;omega⟩
 known:=by show([]:List Bts).length<=_;simp
 offers:=fun _=>⟨by show(0:Int)<=0;omega,by show(0:Int)<=1000;omega⟩
section
variable {A A' B:AS} {rp cp:Nat} {r r':Rd} {vb:Nat->Nat} {fk fa fk' fa':Option Nat} {kv av:V}
def kY(A0:AS)(rp:Nat)(vb:Nat->Nat):Prop:=A0.blk.length<=rp/\∀j,j<24->A0.blk.length<=vb j
def inC(i:RIn):List V:=.int .i64 i.kind::.int .i64 i.round::.int .i64 i.num::.int .i64 i.who::.int .i64 i.valid::bc i.id
end
end Go.Sv.Tryz
namespace Go.Sv
open Go
abbrev qX:=List (Nat×List Bts)
def Pk.ok(L:qX):Prop:=(∀p∈L,p.2.length=2^p.1)/\L.Pairwise (fun p q=>q.1<p.1)
end Go.Sv
namespace Go.Sv
open Go
theorem Br3{m:Hp}{b:Nat}{l:Bts}{n:Nat}(h:m b=some (bc l))(hn:l.length=n):Slc eU8 m (.sl b 0 n 1) l:=by
 subst hn
 refine .inr ⟨b,0,bc l,rfl,h,by simp[eU8,Aa7],fun i x hx=>?_⟩
 show((bc l).drop (0+i*1)).take 1=_
 rw[Nat.mul_one,Nat.zero_add,List.take_one,List.head?_drop,A92,hx];rfl
theorem Cv0{τ:Type}{E:Enc τ}{m:Hp}{b n:Nat}{vs:List V}{ls:List (List τ)}(h:m b=some vs)(hn:ls.length=n)(hl:vs.length=n)(hs:∀(i:Nat) x,ls[i]?=some x->∃v,vs[i]?=some v/\Slc E m v x):Slc (eSl E) m (.sl b 0 n 1) ls:=by
 subst hn
 refine .inr ⟨b,0,vs,rfl,h,by show 0+ls.length*1<=_;omega,fun i x hx=>?_⟩
 obtain⟨v,h1,h2⟩:=hs i x hx
 refine⟨v,?_,h2⟩
 show(vs.drop (0+i*1)).take 1=_
 rw[Nat.mul_one,Nat.zero_add,List.take_one,List.head?_drop,h1];rfl
end Go.Sv
namespace Go.Sv.Tryz
open Go Go.Proofs
section
variable {A:AS} {r:Nat} {k:BK}
theorem BG3(b o n z b' o' n' z':Nat):bsl TP 46 2 (some [(0,.sl b o n z),(1,.sl b' o' n' z')])=some (.aB [.sl b o n z,.sl b' o' n' z'] 2 1):=by kernel_rfl
theorem B31(b o n z:Nat):bsl TP 46 2 (some [(0,.sl b o n z),(1,.ah)])=some (.aB [.sl b o n z,.ah] 2 1):=by kernel_rfl
theorem Ck6{b o n z:Nat}{v:V}(h:v=.ah∨∃b o n z,v=.sl b o n z):bsl TP 46 2 (some [(0,.sl b o n z),(1,v)])=some (.aB [.sl b o n z,v] 2 1):=by
 rcases h with rfl |⟨_,_,_,_,rfl⟩
 . exact B31 _ _ _ _
 . exact BG3 _ _ _ _ _ _ _ _
theorem AO8{τ:Type}{E:Enc τ}{m:Hp}{v:V}{l:List τ}(h:Slc E m v l):v=.ah∨∃b o n z,v=.sl b o n z:=by
 rcases h with⟨rfl,_⟩ |⟨b,o,cs,rfl,_⟩
 . exact .inl rfl
 . exact .inr ⟨_,_,_,_,rfl⟩
end
end Go.Sv.Tryz
namespace Go.Sv
open Go
def eW(n:Nat):Bts:=[UInt8.ofNat (n/2^24),UInt8.ofNat (n/2^16),UInt8.ofNat (n/2^8),UInt8.ofNat n]
def ek(ps:List Bts):List Bts:=ps.flatMap fun p=>[eW p.length,p]
def pC(pu:Bts)(ps:List Bts):Bts:=sha (pu++0::(ek ps).flatten)
theorem AU6(ps:List Bts)(p:Bts):ek (ps++[p])=ek ps++[eW p.length,p]:=by unfold ek;rw[List.flatMap_append];simp
theorem A68(ps:List Bts):(ek ps).length=2*ps.length:=by
 induction ps with
 |nil=>rfl
 |cons p ps ih=>show([eW p.length,p]++ek ps).length=_;rw[List.length_append,ih];simp;omega
theorem Aw4{n:Nat}:∀{ps:List Bts},(∀p∈ps,p.length<=n)->(ek ps).flatten.length<=ps.length*(n+4)
 |[],_=>by simp[ek]
 |p::ps,h=>by
  have ih:=Aw4 (ps:=ps) fun q hq=>h q (by simp[hq])
  have hp:=h p (by simp)
  show([eW p.length,p]++ek ps).flatten.length<=_
  rw[List.flatten_append,List.length_append,List.length_cons,Nat.succ_mul]
  have:([eW p.length,p]:List Bts).flatten.length=4+p.length:=by simp[eW];omega
  omega
def kF(m:Hp)(A:AS)(fo:Option Nat):Prop:=∀b,aI A fo (.row b)->m b=none
theorem kF.fr{m:Hp}{A B:AS}{S:Loc->Prop}{fo fo':Option Nat}(h:kF m A fo)(hw:WF A)(hm:m.on A)(hf:Fr S A B)(hg:Gr A fo fo'):kF m B fo':=fun b q=>by
 rcases BR6 hw hf hg q with q |q
 . exact h b q
 . exact hm.fresh q
noncomputable def gJ(m:Hp)(A:AS):Hp:=fun b=>match m b with |some cs=>some cs |none=>dq A b
theorem Bb7(m:Hp)(A:AS):m.le (gJ m A):=fun b cs q=>by unfold gJ;rw[q]
theorem Bb8{m:Hp}{A:AS}(h:m.on A):(gJ m A).on A:=fun b cs q=>by
 unfold gJ at q
 cases z:m b with
 |some c=>rw[z]at q;cases q;exact h b _ z
 |none=>rw[z]at q;exact Ai2 A b cs q
theorem A06{m:Hp}{A:AS}(h:m.on A){b f base:Nat}{cs:List V}(q:A.blk[b]?=some ⟨cs,.arr f base⟩):gJ m A b=some cs:=by
 unfold gJ
 cases z:m b with
 |some c =>
  obtain⟨k,y⟩:=h b c z
  rw[q]at y;cases y;rfl
 |none=>show dq A b=_;unfold dq;rw[q]
theorem aL.two{τ:Type}{E:Enc τ}{m:Hp}{x y:τ}{c d:List V}(h:E.R m c x)(h':E.R m d y):aL E m (c++d) [x,y]:=(aL.single h).app (aL.single h')
end Go.Sv
namespace Go.Sv.Tryz
open Go Go.Proofs
section
variable {A:AS} {r:Nat} {k:BK}
theorem B32(a b c d:Int):bsl TP 45 4 (some [(0,.int .u8 a),(1,.int .u8 b),(2,.int .u8 c),(3,.int .u8 d)])=some (.aB [.int .u8 a,.int .u8 b,.int .u8 c,.int .u8 d] 4 1):=by kernel_rfl
theorem Ck7(n:Nat)(A:AS):cnv TP 3 5 (some (.int .i64 (n:Int))) A=some (.val (.int .u8 ((UInt8.ofNat n).toNat:Int))):=by
 rw[As0 (by decide) Tryz.underlying3 Tryz.underlying5]
 congr 3
theorem Ck8(n j:Nat)(h:j<=64):bg .shr .i64 (n:Int) (j:Int)=some (.int .i64 ((n/2^j:Nat):Int)):=A51 (k:=.i64) n j h
set_option maxRecDepth 10000 in
set_option maxHeartbeats 16000000 in
theorem A07{m:Hp}{v:V}{pu:Bts}{ps:List Bts}(hw:WF A)(hm:m.on A)(hs:Slc (eSl eU8) m v ps)(hpu:pu.length<=1000)(hn:ps.length<=100)(hl:∀p∈ps,p.length<=1000000000):
 ∃w A',EvF TP HH 69 [.str pu,v] A w A'/\Fr S0 A A'/\w=.agg (bc (pC pu ps)):=by
 refine Aa4 rfl Tryz.func69 (by unfold Tryz.f69;rfl) Tryz.ntmps69 (by unfold Tryz.f69;rfl) (by simp) ?_
 have hlen:=fun B=>hs.len (P:=TP) Tryz.underlying46 B
 obtain⟨A1,e1,f1,r1,n1⟩:=Aa3 A (bc bF)
 obtain⟨b1,hb1⟩:∃b,b=A.blk.length:=⟨_,rfl⟩
 rw[<- hb1]at r1 n1
 have hcv:=AI2 (P:=TP) (A:=A1) (l:=pu) (s:=9) (d:=45) (by decide) Tryz.underlying9 Tryz.underlying45 Tryz.underlying5
 have hcv:cnv TP 9 45 (some (.str pu)) A1=some (.aB (bc pu) pu.length 1):=hcv
 obtain⟨b2,hb2⟩:∃b,b=A1.blk.length:=⟨_,rfl⟩
 obtain⟨A2,e2⟩:∃B,B=A1.push ⟨bc pu,.arr b2 0⟩:=⟨_,rfl⟩
 obtain⟨b3,hb3⟩:∃b,b=A2.blk.length:=⟨_,rfl⟩
 obtain⟨A3,e3⟩:∃B,B=A2.push ⟨bc [0],.arr b3 0⟩:=⟨_,rfl⟩
 obtain⟨b4,hb4⟩:∃b,b=A3.blk.length:=⟨_,rfl⟩
 obtain⟨A4,e4⟩:∃B,B=A3.push ⟨[.sl b2 0 pu.length 1,.sl b3 0 1 1],.arr b4 0⟩:=⟨_,rfl⟩
 have f2:Fr S0 A1 A2:=by rw[e2,hb2];exact Fr.aF A1 _
 have f3:Fr S0 A2 A3:=by rw[e3,hb3];exact Fr.aF A2 _
 have f4:Fr S0 A3 A4:=by rw[e4,hb4];exact Fr.aF A3 _
 have r2:A2.blk[b2]?=some ⟨bc pu,.arr b2 0⟩:=by rw[e2,hb2];exact Ab9 A1 _
 have r3:A3.blk[b3]?=some ⟨bc [0],.arr b3 0⟩:=by rw[e3,hb3];exact Ab9 A2 _
 have n2:A2.blk.length=b2+1:=by rw[e2,Ad4,hb2]
 have n3:A3.blk.length=b3+1:=by rw[e3,Ad4,hb3]
 have f14:=((f1.ab f2).ab f3).ab f4
 have hm3:=hm.fr0 ((f1.ab f2).ab f3)
 obtain⟨m0,hm0⟩:∃m',m'=(m.put b2 (bc pu)).put b3 (bc [0]):=⟨_,rfl⟩
 have q2:m b2=none:=hm.fresh (by omega)
 have q3:(m.put b2 (bc pu)) b3=none:=by unfold Hp.put;rw[if_neg (by omega)];exact hm.fresh (by omega)
 have le0:m.le m0:=by rw[hm0];exact Hp.le_trans (Hp.jj q2) (Hp.jj q3)
 have on0:m0.on A3:=by rw[hm0];exact(hm3.put (f3.af r2)).put r3
 have g2:m0 b2=some (bc pu):=by rw[hm0];unfold Hp.put;rw[if_neg (by omega),if_pos rfl]
 have g3:m0 b3=some (bc [0]):=by rw[hm0];exact Hp.iT _ _ _
 have hL0:Lst (eSl eU8) m0 A4 (.sl b4 0 2 1) [pu,[0]] (some b4):=by
  rw[e4,hb4]
  exact Lst.row (l:=[pu,[0]]) (aL.two (E:=eSl eU8) (c:=[.sl b2 0 pu.length 1]) (d:=[.sl b3 0 1 1]) ⟨_,rfl,Br3 g2 rfl⟩ ⟨_,rfl,Br3 g3 rfl⟩)
 have w3:WF A3:=((f1.ab f2).ab f3).wf hw
 have aw0:kF m0 A4 (some b4):=kF.fr (fo:=none) (fun b q=>q.elim) w3 on0 f4 (.inr ⟨rfl,b4,rfl,by omega⟩)
 simp only[RT,Q0,Q1,Q2,Q3,Q4,Q5,Q6,Q7,Q8,Av8,<- e1,<- hb1,hcv,<- hb2,<- e2,B25,<- hb3,<- e3,BG3,<- hb4,<- e4,hlen]
 refine Aa6 (fun z e B=>∃(i:Nat) (w:V) (fo:Option Nat) (m':Hp),z=ps.length-i/\i<=ps.length/\e.get 15=.int .i64 i/\e.get 4=.ptr b1 0/\e.get 13=v/\e.get 14=.int .i64 ps.length/\e.get 5=w/\Fr S0 A B/\B.blk[b1]?=some ⟨bc bF,.var⟩/\m.le m'/\m'.on B/\kF m' B fo/\Lst (eSl eU8) m' B w (pu::[0]::ek (ps.take i)) fo/\∀f,fo=some f->A.blk.length<=f)
  (fun z e B=>Is z (.exit 0)/\∃(w:V) (fo:Option Nat) (m':Hp),e.get 4=.ptr b1 0/\e.get 5=w/\Fr S0 A B/\B.blk[b1]?=some ⟨bc bF,.var⟩/\m'.on B/\Lst (eSl eU8) m' B w (pu::[0]::ek ps) fo/\kF m' B fo)
  ⟨_,0,_,some b4,m0,rfl,by omega,rfl,rfl,rfl,rfl,rfl,f14,f4.af (f3.af (f2.af r1)),le0,on0.fr0 f4,aw0,hL0,fun f q=>by cases q;omega⟩ ?_ ?_
 . rintro z e B ⟨i,w,fo,m',rfl,hi,h15,h4,h13,h14,h5,hf,rB,le1,on1,aw1,hL,hfo⟩
   simp only[RT,Q0,Q1,Q2,Q3,Q4,Q5,Q6,Q7,Q8,h15,h14]
   refine Aa8 (fun q1=>?_) (fun q1=>?_)
   rotate_left
   . have:i=ps.length:=by omega
     subst this
     rw[List.take_length]at hL
     simp only[RT,Q0,Q1,Q2,Q3,Q4,Q5,Q6,Q7,Q8]
     exact⟨rfl,w,fo,m',h4,h5,hf,rB,on1,hL,aw1⟩
   obtain⟨p,hp⟩:=Ac7 (l:=ps) (i:=i) (by omega)
   have hpl:=hl p (List.mem_of_getElem? hp)
   obtain⟨b,o,c,g3,g4,g5⟩:=hs.at (P:=TP) (k:=.i64) (hm.fr0 hf) Tryz.underlying46 BY1 BW6 hp
   rw[BM8]at g5
   have hcl:=fun B=>g5.len (P:=TP) Tryz.underlying45 B
   have wB:=hf.wf hw
   obtain⟨b5,hb5⟩:∃b,b=B.blk.length:=⟨_,rfl⟩
   obtain⟨C,e5⟩:∃X,X=B.push ⟨bc (eW p.length),.arr b5 0⟩:=⟨_,rfl⟩
   obtain⟨b6,hb6⟩:∃b,b=C.blk.length:=⟨_,rfl⟩
   obtain⟨D,e6⟩:∃X,X=C.push ⟨[.sl b5 0 4 1,c],.arr b6 0⟩:=⟨_,rfl⟩
   have f5:Fr S0 B C:=by rw[e5,hb5];exact Fr.aF B _
   have f6:Fr S0 C D:=by rw[e6,hb6];exact Fr.aF C _
   have r5:C.blk[b5]?=some ⟨bc (eW p.length),.arr b5 0⟩:=by rw[e5,hb5];exact Ab9 B _
   have r6:D.blk[b6]?=some ⟨[.sl b5 0 4 1,c],.arr b6 0⟩:=by rw[e6,hb6];exact Ab9 C _
   have n5:C.blk.length=b5+1:=by rw[e5,Ad4,hb5]
   have on2:=(on1.fr0 f5).fr0 f6
   obtain⟨m2,hm2⟩:∃x,x=(m'.put b5 (bc (eW p.length))).put b6 [.sl b5 0 4 1,c]:=⟨_,rfl⟩
   have q5:m' b5=none:=on1.fresh (by omega)
   have q6:(m'.put b5 (bc (eW p.length))) b6=none:=by unfold Hp.put;rw[if_neg (by omega)];exact on1.fresh (by omega)
   have le2:m'.le m2:=by rw[hm2];exact Hp.le_trans (Hp.jj q5) (Hp.jj q6)
   have on3:m2.on D:=by rw[hm2];exact(on2.put (f6.af r5)).put r6
   have y5:m2 b5=some (bc (eW p.length)):=by rw[hm2];unfold Hp.put;rw[if_neg (by omega),if_pos rfl]
   have y6:m2 b6=some [.sl b5 0 4 1,c]:=by rw[hm2];exact Hp.iT _ _ _
   have hs2:Slc (eSl eU8) m2 (.sl b6 0 2 1) [eW p.length,p]:=Cv0 y6 rfl rfl fun j z hz=>by
    match j,hz with
    | 0,hz=>cases hz;exact⟨_,rfl,Br3 y5 rfl⟩
    | 1,hz=>cases hz;exact⟨_,rfl,g5.mono (Hp.le_trans le1 le2)⟩
    |j+2,hz=>simp at hz
   have hL2:=(hL.fr0 (f5.ab f6)).mono le2
   have fBD:=f5.ab f6
   have fAD:=hf.ab fBD
   have wD:=fAD.wf hw
   have aw2:kF m2 D fo:=fun b q=>by
    have hq:=q
    have e0:∀b,b≠b5->b≠b6->m2 b=m' b:=fun b z1 z2=>by rw[hm2];unfold Hp.put;rw[if_neg z2,if_neg z1]
    have fam:∀f,fo=some f->f<b5:=fun f z=>by have:=hL.bO f z;omega
    by_cases z5:b=b5
    . exfalso
      cases fo with
      |none=>exact hq
      |some f =>
       obtain⟨k,base,y1,y2⟩:=hq
       rw[z5,f6.af r5]at y1;cases y1;cases y2
       exact absurd (fam b5 rfl) (by omega)
    by_cases z6:b=b6
    . exfalso
      cases fo with
      |none=>exact hq
      |some f =>
       obtain⟨k,base,y1,y2⟩:=hq
       rw[z6,r6]at y1;cases y1;cases y2
       exact absurd (fam b6 rfl) (by omega)
    rw[e0 b z5 z6]
    rcases Ae7 fBD q with q |q
    . exact aw1 b q
    . exact on1.fresh q
   obtain⟨cs',s1,s2⟩:=hs2.src (P:=TP) (tx:=46) Tryz.underlying46 on3
   have hll:(pu::[0]::ek (ps.take i)).length=2+2*i:=by rw[List.length_cons,List.length_cons,A68,List.length_take,Nat.min_eq_left hi];omega
   obtain⟨w',E,fo',p1,p2,p3,p4⟩:=hL2.app (P:=TP) (t:=46) (tx:=46) CE4 wD s1 s2 (by rw[hll];simp;omega) (by rw[hll];simp;omega)
   have hfE:Fr S0 A E:=fAD.eh hw p3 hfo
   have sI:(pu::[0]::ek (ps.take i))++[eW p.length,p]=pu::[0]::ek (ps.take (i+1)):=by rw[Ab6 hp,AU6];rfl
   rw[sI]at p2
   have wi:IntKind.i64.wrap ((i:Int)+1)=((i+1:Nat):Int):=by rw[Ac2 (by omega)]
   have h24:bg .shr .i64 (p.length:Int) 24=some (.int .i64 ((p.length/2^24:Nat):Int)):=Ck8 p.length 24 (by decide)
   have h16:bg .shr .i64 (p.length:Int) 16=some (.int .i64 ((p.length/2^16:Nat):Int)):=Ck8 p.length 16 (by decide)
   have h8:bg .shr .i64 (p.length:Int) 8=some (.int .i64 ((p.length/2^8:Nat):Int)):=Ck8 p.length 8 (by decide)
   have oD:bsl TP 45 4 (some [(0,.int .u8 ((UInt8.ofNat (p.length/2^24)).toNat:Int)),(1,.int .u8 ((UInt8.ofNat (p.length/2^16)).toNat:Int)),(2,.int .u8 ((UInt8.ofNat (p.length/2^8)).toNat:Int)),(3,.int .u8 ((UInt8.ofNat p.length).toNat:Int))])=some (.aB (bc (eW p.length)) 4 1):=B32 _ _ _ _
   simp only[RT,Q0,Q1,Q2,Q3,Q4,Q5,Q6,Q7,Q8,h13,h15,g3,g4,hcl,h5,Ax9,h24,h16,h8,Ck7,oD,<- hb5,<- e5,Ck6 (AO8 g5),<- hb6,<- e6,p1,wi]
   have on4:m2.on E:=on3.fr p3 aw2
   have aw3:kF m2 E fo':=aw2.fr wD on3 p3 p4
   have rE:=p3.row _ _ (f6.af (f5.af rB)) (Ab0 (f6.af (f5.af rB)))
   have tP:∀f,fo'=some f->A.blk.length<=f:=fun f q=>by
    rcases p4.or q with y |y
    . exact hfo f y
    . have:=fAD.len;omega
   have le3:=Hp.le_trans le1 le2
   refine⟨ps.length-(i+1),by omega,i+1,w',fo',m2,rfl,by omega,?_⟩
   and_intros<;>first |rfl |assumption
 . rintro z e B hz ⟨rfl,w,fo,m',h4,h5,hf,rB,on1,hL,aw1⟩
   have hsl:Slc (eSl eU8) (gJ m' B) w (pu::[0]::ek ps):=hL.slc (Bb7 _ _) fun b cs f base _ q=>A06 on1 q
   have hfl:(pu::[0]::ek ps).flatten=pu++0::(ek ps).flatten:=by simp
   have qN:=Aw4 (n:=1000000000) hl
   obtain⟨_,C,k1,f5,rfl⟩:=Ba4 (hf.wf hw) (Bb8 on1) hsl (by rw[hfl,List.length_append,List.length_cons];have:ps.length*(1000000000+4)<=100*1000000004:=Nat.mul_le_mul hn (Nat.le_refl _);omega) (by rw[List.length_cons,List.length_cons,A68];omega)
   rw[hfl]at k1
   obtain⟨D,u1,u2,u3⟩:=AA5 (f5.af rB) (by simp[bF]) (AD9 (pu++0::(ek ps).flatten))
   simp only[RT,Q0,Q1,Q2,Q3,Q4,Q5,Q6,Q7,Q8,h5]
   refine Aa0 k1 ?_
   simp only[RT,Q0,Q1,Q2,Q3,Q4,Q5,Q6,Q7,Q8,h4,u1,ldI u3 (AD9 _)]
   exact⟨(hf.ab f5).ar u2 (by omega),rfl⟩
end
end Go.Sv.Tryz
namespace Go.Sv
open Go
abbrev bj:=Int×Int×Int
def de(x:bj):List V:=[.int .i64 x.1,.int .i64 x.2.1,.int .i64 x.2.2]
def dQ:Enc bj:=⟨3,true,fun _ cs x=>cs=de x,fun h=>by rw[h];rfl,fun h=>by simp at h,fun h=>by rw[h];rfl,fun _ h=>h⟩
def cE(r:Int):Int:=3+2*max 0 (min r 1000)
theorem A69(r:Int):3<=cE r/\cE r<=2003:=by unfold cE;omega
structure Co where
 rd:Rd
 now:Int
 tim:List bj
 bat:List (Bts×Bts)
 cG:List Int
 done:Bts
 bL:Bool
def cV(now:Int)(l:List bj)(r s:Int):List bj:=if l.length>=40 then l else l++[(now+cE r,r,s)]
def coC(rp:Nat)(n me:Int)(h:Int)(now:Int)(tv dv:V)(mb mg:Nat)(bL:Bool):List V:=[.ptr rp 0,.int .i64 now,tv,.int .i64 n,.int .i64 me,.int .i64 h,.map mb,.map mg,dv,.bool bL]
end Go.Sv
namespace Go.Sv.Tryz
open Go Go.Proofs
section
variable {A B C:AS} {cb rp mb mg:Nat} {n me h now:Int} {tv dv:V} {bL:Bool} {k:BK} {l:List bj} {ft:Option Nat}
theorem An0(b:Nat):ae TP 78 (.ptr b 0) 0=some (.ptr b 0)/\ae TP 78 (.ptr b 0) 1=some (.ptr b 1)/\ae TP 78 (.ptr b 0) 2=some (.ptr b 3)/\ae TP 78 (.ptr b 0) 3=some (.ptr b 4)/\ae TP 78 (.ptr b 0) 4=some (.ptr b 5)/\ae TP 78 (.ptr b 0) 5=some (.ptr b 6)/\ae TP 78 (.ptr b 0) 6=some (.ptr b 7)/\ae TP 78 (.ptr b 0) 7=some (.ptr b 8)/\ae TP 78 (.ptr b 0) 8=some (.ptr b 9):=
 ⟨by kernel_rfl,by kernel_rfl,by kernel_rfl,by kernel_rfl,by kernel_rfl,by kernel_rfl,by kernel_rfl,by kernel_rfl,by kernel_rfl⟩
theorem Cf8(b:Nat):ae TP 76 (.ptr b 1) 0=some (.ptr b 1)/\ae TP 76 (.ptr b 1) 1=some (.ptr b 2):=⟨by kernel_rfl,by kernel_rfl⟩
theorem Ap2(hb:A.blk[cb]?=some ⟨coC rp n me h now tv dv mb mg bL,k⟩):aa TP 69 (.ptr cb 0) A=some (.ptr rp 0)/\aa TP 3 (.ptr cb 1) A=some (.int .i64 now)/\aa TP 74 (.ptr cb 2) A=some tv/\aa TP 3 (.ptr cb 3) A=some (.int .i64 n)/\aa TP 3 (.ptr cb 4) A=some (.int .i64 me)/\aa TP 3 (.ptr cb 5) A=some (.int .i64 h)/\aa TP 72 (.ptr cb 6) A=some (.map mb)/\aa TP 73 (.ptr cb 7) A=some (.map mg)/\aa TP 45 (.ptr cb 8) A=some dv/\aa TP 4 (.ptr cb 9) A=some (.bool bL):=
 ⟨by rw[Ab2 CD5 hb];rfl,by rw[Ab2 ag3 hb];rfl,by rw[Ab2 Cr3 hb];rfl,by rw[Ab2 ag3 hb];rfl,by rw[Ab2 ag3 hb];rfl,by rw[Ab2 ag3 hb];rfl,by rw[Ab2 CD6 hb];rfl,by rw[Ab2 CD7 hb];rfl,by rw[Ab2 BW6 hb];rfl,by rw[Ab2 ag4 hb];rfl⟩
theorem Ck9(hb:A.blk[cb]?=some ⟨coC rp n me h now tv dv mb mg bL,.var⟩){w:V}(hw:w.one=true):∃A',ag TP 74 (.ptr cb 2) w A=some A'/\Fr (·=.row cb) A A'/\A'.blk[cb]?=some ⟨coC rp n me h now w dv mb mg bL,.var⟩:=by
 obtain⟨A',s1,s2,s3,s4⟩:=Ab1 (P:=TP) (t:=74) (o:=2) (x:=w) (cs:=[w]) hb (Ad5 hw) Cx3 (by simp[coC]) (by simp[hw])
 exact⟨A',s1,s2,s3⟩
theorem CA4(hb:A.blk[cb]?=some ⟨coC rp n me h now tv dv mb mg bL,.var⟩){w:V}(hw:w.one=true):∃A',ag TP 45 (.ptr cb 8) w A=some A'/\Fr (·=.row cb) A A'/\A'.blk[cb]?=some ⟨coC rp n me h now tv w mb mg bL,.var⟩:=by
 obtain⟨A',s1,s2,s3,s4⟩:=Ab1 (P:=TP) (t:=45) (o:=8) (x:=w) (cs:=[w]) hb (Ad5 hw) BY1 (by simp[coC]) (by simp[hw])
 exact⟨A',s1,s2,s3⟩
theorem B33(hb:A.blk[cb]?=some ⟨coC rp n me h now tv dv mb mg bL,.var⟩)(w:Bool):∃A',ag TP 4 (.ptr cb 9) (.bool w) A=some A'/\Fr (·=.row cb) A A'/\A'.blk[cb]?=some ⟨coC rp n me h now tv dv mb mg w,.var⟩:=by
 obtain⟨A',s1,s2,s3,s4⟩:=Ab1 (P:=TP) (t:=4) (o:=9) (x:=.bool w) (cs:=[.bool w]) hb rfl sz4 (by simp[coC]) rfl
 exact⟨A',s1,s2,s3⟩
theorem Cl0(hb:A.blk[cb]?=some ⟨coC rp n me h now tv dv mb mg bL,.var⟩)(w:Int):∃A',ag TP 3 (.ptr cb 1) (.int .i64 w) A=some A'/\Fr (·=.row cb) A A'/\A'.blk[cb]?=some ⟨coC rp n me h w tv dv mb mg bL,.var⟩:=by
 obtain⟨A',s1,s2,s3,s4⟩:=Ab1 (P:=TP) (t:=3) (o:=1) (x:=.int .i64 w) (cs:=[.int .i64 w]) hb rfl sz3 (by simp[coC]) rfl
 exact⟨A',s1,s2,s3⟩
theorem BJ5(a b:Int):iU (fun x y=>if y<x then y else x) [.int .i64 a,.int .i64 b]=some (.int .i64 (min a b)):=by
 show eX _ _ _ _=_
 simp only[eX,if_true]
 congr 2
 split<;>omega
theorem BJ6(a b:Int):iU (fun x y=>if y>x then y else x) [.int .i64 a,.int .i64 b]=some (.int .i64 (max a b)):=by
 show eX _ _ _ _=_
 simp only[eX,if_true]
 congr 2
 split<;>omega
theorem Bb9(r:Int):EvF TP HH 89 [.int .i64 r] A (.int .i64 (cE r)) A:=by
 suffices h:∃w A',EvF TP HH 89 [.int .i64 r] A w A'/\A'=A/\w=.int .i64 (cE r) by
  obtain⟨w,A',h,rfl,rfl⟩:=h;exact h
 refine Aa4 rfl Tryz.func89 (by unfold Tryz.f89;rfl) Tryz.ntmps89 (by unfold Tryz.f89;rfl) (by simp) ?_
 have w1:IntKind.i64.wrap (2*max 0 (min r 1000))=2*max 0 (min r 1000):=Ac6 (by omega) (by omega)
 have w2:IntKind.i64.wrap (3+2*max 0 (min r 1000))=cE r:=Ac6 (by omega) (by omega)
 simp only[RT,Q0,Q1,Q2,Q3,Q4,Q5,Q6,Q7,Q8,BJ5,BJ6,w1,w2]
theorem B34(a b c:Int):au TP 161 [(0,.int .i64 a),(1,.int .i64 b),(2,.int .i64 c)]=some (.agg (de (a,b,c))):=by kernel_rfl
theorem BG4(x:bj):bsl TP 74 1 (some [(0,.agg (de x))])=some (.aB (de x) 1 3):=by kernel_rfl
set_option maxRecDepth 10000 in
set_option maxHeartbeats 8000000 in
theorem Bt9(hw:WF A)(hb:A.blk[cb]?=some ⟨coC rp n me h now tv dv mb mg bL,.var⟩)(hl:Lst dQ Hp.emp A tv l ft)(hll:l.length<=100)(hn0:0<=now)(hn:now<=1000000000)(R S:Int):
 ∃w A',EvF TP HH 65 [.ptr cb 1,.int .i64 R,.int .i64 S] A w A'/\Fr (fun z=>z=.row cb∨aI A ft z) A A'/\∃tv' ft',A'.blk[cb]?=some ⟨coC rp n me h now tv' dv mb mg bL,.var⟩/\Lst dQ Hp.emp A' tv' (cV now l R S) ft'/\Gr A ft ft':=by
 refine Aa4 rfl Tryz.func65 (by unfold Tryz.f65;rfl) Tryz.ntmps65 (by unfold Tryz.f65;rfl) (by simp) ?_
 have fa:=Cf8 cb
 have ld:=Ap2 hb
 have hlen:=fun B=>hl.len (P:=TP) Tryz.underlying74 B
 by_cases c:(l.length:Int)>=40
 . simp only[RT,Q0,Q1,Q2,Q3,Q4,Q5,Q6,Q7,Q8,fa,ld,hlen,DT c]
   have e:cV now l R S=l:=by unfold cV;rw[if_pos (by omega)]
   rw[e]
   exact⟨.refl _ _,tv,ft,hb,hl,.inl rfl⟩
 have e:cV now l R S=l++[(now+cE R,R,S)]:=by unfold cV;rw[if_neg (by omega)]
 have hd:=A69 R
 have wi:IntKind.i64.wrap (now+cE R)=now+cE R:=Ac6 (by omega) (by omega)
 obtain⟨v4,D,ft',p1,p2,p3,p4⟩:=hl.push (P:=TP) (t:=74) (tx:=74) (n:=3) rfl Cx6 Tryz.underlying74 hw (y:=(now+cE R,R,S)) (cs':=de (now+cE R,R,S)) rfl (by omega) (by omega)
 have hbD:=p3.row _ _ hb (Ab0 hb)
 obtain⟨E,s1,s2,s3⟩:=Ck9 hbD p2.one
 simp only[RT,Q0,Q1,Q2,Q3,Q4,Q5,Q6,Q7,Q8,fa,ld,hlen,DF c,BV4,Aa1]
 refine Aa0 (Bb9 R) ?_
 simp only[RT,Q0,Q1,Q2,Q3,Q4,Q5,Q6,Q7,Q8,Aa1]
 refine⟨Aa5 (ha:=rfl) rfl ld.2.2.1 rfl (Aa5 (ha:=rfl) rfl ld.2.1 rfl Aa1),?_⟩
 simp only[RT,Q0,Q1,Q2,Q3,Q4,Q5,Q6,Q7,Q8,fa,wi,B34,BG4,p1,s1,Aa1]
 rw[<- e]at p2
 exact⟨p3.mono (fun z q=>.inr q) |>.trans s2 (fun z q=>.inl (.inl q)),v4,ft',s3,p2.fr s2 (.box hbD),p4⟩
set_option maxRecDepth 10000 in
theorem Bc0(hb:A.blk[cb]?=some ⟨coC rp n me h now tv dv mb mg bL,.var⟩):
 ∃w A',EvF TP HH 66 [.ptr cb 1] A w A'/\Fr (·=.row cb) A A'/\A'.blk[cb]?=some ⟨coC rp n me h now .ah dv mb mg bL,.var⟩:=by
 refine Aa4 rfl Tryz.func66 (by unfold Tryz.f66;rfl) Tryz.ntmps66 (by unfold Tryz.f66;rfl) (by simp) ?_
 obtain⟨E,s1,s2,s3⟩:=Ck9 (w:=.ah) hb rfl
 simp only[RT,Q0,Q1,Q2,Q3,Q4,Q5,Q6,Q7,Q8,Cf8 cb,s1]
 exact⟨s2,s3⟩
end
end Go.Sv.Tryz
namespace Go.Sv.Tryz
open Go Go.Proofs
section
variable {A B C:AS} {rp cp:Nat} {r r':Rd} {vb:Nat->Nat} {fk fa:Option Nat}
theorem B35(g k:Nat->V):au TP 128 [(0,.agg ((List.range 32).map g)),(1,.agg ((List.range 32).map k))]=some (.agg ((List.range 32).map g++(List.range 32).map k)):=by kernel_rfl
theorem Cl1{x y:Bts}(hx:x.length=32)(hy:y.length=32):au TP 128 [(0,.agg (bc x)),(1,.agg (bc y))]=some (.agg (bc (x++y))):=by
 obtain⟨g,hg⟩:=Ac3 (l:=bc x) (n:=32) (by rw[Aa7,hx])
 obtain⟨k,hk⟩:=Ac3 (l:=bc y) (n:=32) (by rw[Aa7,hy])
 rw[AZ0,hg,hk];exact B35 g k
theorem CA5:(aC TP 128).bind V.cells=some (bc (z32++z32)):=Cs0
theorem Cl2{A:AS}{b:Nat}{x y:Bts}(h:A.blk[b]?=some ⟨bc x,.var⟩)(hx:x.length=64)(hy:y.length=64):∃A',ag TP 128 (.ptr b 0) (.agg (bc y)) A=some A'/\Fr (·=.row b) A A'/\A'.blk[b]?=some ⟨bc y,.var⟩:=by
 obtain⟨A',s1,s2,s3,s4⟩:=Ab1 (P:=TP) (t:=128) (o:=0) (x:=.agg (bc y)) (cs:=bc y) h rfl (by rw[Aa7,hy];exact Ce6) (by rw[Aa7,Aa7];omega) (Ac9 _)
 exact⟨A',s1,s2,by rw[s3,Ah3 (by rw[Aa7,Aa7,hx,hy])]⟩
theorem CA6{A:AS}{b:Nat}{k:BK}{x:Bts}(h:A.blk[b]?=some ⟨bc x,k⟩)(hx:x.length=64):aa TP 128 (.ptr b 0) A=some (.agg (bc x)):=At.load h (At.all _) Cr9 Ce6 (by rw[Aa7,hx])
def own(r:Rd)(R:Int):Bts:=dN r.n r.v R 0 r.me++dN r.n r.v R 1 r.me
set_option maxRecDepth 10000 in
set_option maxHeartbeats 8000000 in
theorem Bu0(hw:WF A)(h:a4 A rp r cp vb fk fa)(R:Int):∃w A',EvF TP HH 61 [.ptr rp 0,.int .i64 R] A w A'/\Fr S0 A A'/\w=.agg (bc (own r R)):=by
 refine Aa4 rfl Tryz.func61 (by unfold Tryz.f61;rfl) Tryz.ntmps61 (by unfold Tryz.f61;rfl) (by simp) ?_
 simp only[RT,Q0,Q1,Q2,Q3,Q4,Q5,Q6,Q7,Q8,CA5]
 obtain⟨A1,e1,f1,r1,n1⟩:=Aa3 A (bc (z32++z32))
 rw[<- e1]
 have h1:=h.fr0 f1
 obtain⟨kv,av,b1,b2,b3⟩:=h1.box
 have ld:=Ap1 b1 h.ok
 obtain⟨_,A2,k1,k2,rfl⟩:=AN6 h1.cnt R 0 r.me
 have h2:=h1.fr0 k2
 obtain⟨_,_,c1,_⟩:=h2.box
 have ld2:=Ap1 c1 h.ok
 obtain⟨_,A3,m1,m2,rfl⟩:=AN6 h2.cnt R 1 r.me
 have l0:=Ap5 (n:=r.n) h.cnt.len R 0 r.me
 have l1:=Ap5 (n:=r.n) h.cnt.len R 1 r.me
 obtain⟨A4,s1,s2,s3⟩:=Cl2 (m2.af (k2.af r1)) (by decide) (y:=dN r.n r.v R 0 r.me++dN r.n r.v R 1 r.me) (by rw[List.length_append,l0,l1])
 simp only[RT,Q0,Q1,Q2,Q3,Q4,Q5,Q6,Q7,Q8,BV3,AB9 rp,ld,Aa1]
 refine Aa0 k1 ?_
 simp only[RT,Q0,Q1,Q2,Q3,Q4,Q5,Q6,Q7,Q8,Aa1]
 refine⟨Aa5 (ha:=rfl) rfl (ld2.2.2.2.2.2.2.2.2.2.2.2.1) rfl <| Aa5 (ha:=rfl) rfl ld2.2.1 rfl Aa1,?_⟩
 refine Aa0 m1 ?_
 simp only[RT,Q0,Q1,Q2,Q3,Q4,Q5,Q6,Q7,Q8,Cl1 l0 l1,s1,CA6 s3 (by rw[List.length_append,l0,l1]),Aa1]
 exact⟨((f1.ab k2).ab m2).ar s2 (Nat.le_refl _),rfl⟩
end
end Go.Sv.Tryz
namespace Go.Sv
open Go
def lU:Bts:=[98,97,116,99,104]
def az(b:Bts):Bts:=pC lU [b]
theorem Ab4(b:Bts):(az b).length=32:=AD9 _
end Go.Sv
namespace Go.Sv.Tryz
open Go Go.Proofs
section
variable {A B C:AS} {rp cp:Nat} {r r':Rd} {vb:Nat->Nat} {fk fa:Option Nat}
theorem Cl3{v:V}(h:v=.ah∨∃b o n z,v=.sl b o n z):bsl TP 46 1 (some [(0,v)])=some (.aB [v] 1 1):=by
 rcases h with rfl |⟨_,_,_,_,rfl⟩<;>kernel_rfl
theorem AF1{m:Hp}{v:V}{b:Bts}(hw:WF A)(hm:m.on A)(hv:Slc eU8 m v b)(hb:b.length<=1000000000):
 ∃w A',EvF TP HH 30 [v] A w A'/\Fr S0 A A'/\w=.agg (bc (az b)):=by
 refine Aa4 rfl Tryz.func30 (by unfold Tryz.f30;rfl) Tryz.ntmps30 (by unfold Tryz.f30;rfl) (by simp) ?_
 obtain⟨A1,e1,f1,r1,n1⟩:=Aa3 A (bc bF)
 obtain⟨b1,hb1⟩:∃b,b=A.blk.length:=⟨_,rfl⟩
 rw[<- hb1]at r1 n1
 obtain⟨b2,hb2⟩:∃b,b=A1.blk.length:=⟨_,rfl⟩
 obtain⟨A2,e2⟩:∃B,B=A1.push ⟨[v],.arr b2 0⟩:=⟨_,rfl⟩
 have f2:Fr S0 A1 A2:=by rw[e2,hb2];exact Fr.aF A1 _
 have r2:A2.blk[b2]?=some ⟨[v],.arr b2 0⟩:=by rw[e2,hb2];exact Ab9 A1 _
 have f12:=f1.ab f2
 have q2:m b2=none:=hm.fresh (by omega)
 have hs:Slc (eSl eU8) (m.put b2 [v]) (.sl b2 0 1 1) [b]:=Cv0 (Hp.iT _ _ _) rfl rfl fun i z hz=>by
  match i,hz with
  | 0,hz=>cases hz;exact⟨_,rfl,hv.mono (Hp.jj q2)⟩
  |i+1,hz=>simp at hz
 obtain⟨_,A3,k3,f3,rfl⟩:=A07 (pu:=lU) (f12.wf hw) ((hm.fr0 f12).put r2) hs (by decide) (by simp) (fun p hp=>by rw[List.mem_singleton.1 hp];exact hb)
 have k3:EvF TP HH 69 [.str [98,97,116,99,104],.sl b2 0 1 1] A2 (.agg (bc (az b))) A3:=k3
 obtain⟨A4,u1,u2,u3⟩:=AA5 (f3.af (f2.af r1)) (by simp[bF]) (Ab4 b)
 simp only[RT,Q0,Q1,Q2,Q3,Q4,Q5,Q6,Q7,Q8,Av8,<- e1,<- hb1,Cl3 (AO8 hv),<- hb2,<- e2]
 refine Aa0 k3 ?_
 simp only[RT,Q0,Q1,Q2,Q3,Q4,Q5,Q6,Q7,Q8,u1,ldI u3 (Ab4 b)]
 exact(f12.ab f3).ar u2 (by omega)
end
end Go.Sv.Tryz
namespace Go.Sv
section
variable {r:Rd}
end
end Go.Sv
namespace Go.Sv.Tryz
open Go Go.Proofs
section
variable {A A' B:AS} {rp cp:Nat} {r r':Rd} {vb:Nat->Nat} {fk fa fk' fa':Option Nat} {kv av:V}
theorem zcA:(aC TP 123).bind V.cells=some (aX ⟨0,0,0,0,z32⟩):=BW9
theorem Bu1(a:Act):(aX a).all V.one=true:=by simp only[aX,List.all_cons,Ac9];rfl
theorem Cl4{A:AS}{a:Act}(h:a.id.length=32):∃A',ag TP 123 (.ptr A.blk.length 0) (.agg (aX a)) (A.push ⟨aX ⟨0,0,0,0,z32⟩,.var⟩)=some A'/\Fr S0 A A'/\A'.blk[A.blk.length]?=some ⟨aX a,.var⟩:=by
 obtain⟨A2,s1,s2,s3,s4⟩:=Ag5 (P:=TP) A (z:=aX ⟨0,0,0,0,z32⟩) (t:=123) (x:=.agg (aX a)) (cs:=aX a) rfl (by rw[Aj2 h];exact Br0) (by rw[Aj2 h,Aj2 Aa9]) (Bu1 a)
 exact⟨A2,s1,s2,s3⟩
def eA3:Enc (Int×Int×Int):=ePair (eInt .i64) (ePair (eInt .i64) (eInt .i64))
theorem ld3{A:AS}{b:Nat}{k:BK}{x y z:Int}(h:A.blk[b]?=some ⟨[.int .i64 x,.int .i64 y,.int .i64 z],k⟩):aa TP 3 (.ptr b 0) A=some (.int .i64 x)/\aa TP 3 (.ptr b 1) A=some (.int .i64 y)/\aa TP 3 (.ptr b 2) A=some (.int .i64 z):=
 ⟨by rw[Ab2 ag3 h];rfl,by rw[Ab2 ag3 h];rfl,by rw[Ab2 ag3 h];rfl⟩
end
end Go.Sv.Tryz
namespace Go.Sv.Tryz
open Go Go.Proofs
section
variable {X:Nat->Prop} {A B C:AS} {w:V} {b:Nat}
theorem Cv1{m:Hp}{v:V}{l:List Bts}(hm:m.on A)(h:Slc kZ m v l){j:Nat}{p:Bts}(hp:l[j]?=some p):∃b o,aj TP 146 v (.int .i64 (j:Int))=some (.ptr b o)/\aa TP 9 (.ptr b o) A=some (.str p):=by
 obtain⟨b,o,w,g1,g2,g3⟩:=h.at (P:=TP) (k:=.i64) hm Tryz.underlying146 sz9 ag9 hp
 rw[B78.1 g3]at g2
 exact⟨b,o,g1,g2⟩
set_option maxRecDepth 10000 in
set_option maxHeartbeats 16000000 in
theorem A08{m:Hp}{v:V}{pu:Bts}{ps:List Bts}(hw:WF A)(hm:m.on A)(hs:Slc kZ m v ps)(hpu:pu.length<=1000)(hn:ps.length<=100)(hl:∀p∈ps,p.length<=100000000):
 ∃w A',EvF TP HH 73 [.str pu,v] A w A'/\Fr S0 A A'/\w=.agg (bc (pC pu ps)):=by
 refine Aa4 rfl Tryz.func73 (by unfold Tryz.f73;rfl) Tryz.ntmps73 (by unfold Tryz.f73;rfl) (by simp) ?_
 have hlen:=fun B=>hs.len (P:=TP) Tryz.underlying146 B
 obtain⟨A1,e1,f1,r1,n1⟩:=Aa3 A (bc bF)
 obtain⟨b4,hb4⟩:∃b,b=A.blk.length:=⟨_,rfl⟩
 rw[<- hb4]at r1 n1
 have ad0:aw TP .add 9 (.str pu) (.str [0])=some (.str (pu++[0])):=A52 (by simp;omega)
 simp only[RT,Q0,Q1,Q2,Q3,Q4,Q5,Q6,Q7,Q8,Av8,<- e1,<- hb4,ad0]
 refine Aa6 (fun z e B=>∃i:Nat,z=ps.length-i/\i<=ps.length/\e.get 6=.int .i64 i/\e.get 1=v/\e.get 4=.ptr b4 0/\e.get 5=.str (pu++0::(ek (ps.take i)).flatten)/\Fr S0 A B/\B.blk[b4]?=some ⟨bc bF,.var⟩)
  (fun z e B=>Is z (.exit 0)/\e.get 4=.ptr b4 0/\e.get 5=.str (pu++0::(ek ps).flatten)/\Fr S0 A B/\B.blk[b4]?=some ⟨bc bF,.var⟩)
  ⟨_,0,rfl,by omega,rfl,rfl,rfl,by simp[ek,Env.get],f1,r1⟩ ?_ ?_
 . rintro z e B ⟨i,rfl,hi,h6,h1,h4,h5,hf,rB⟩
   simp only[RT,Q0,Q1,Q2,Q3,Q4,Q5,Q6,Q7,Q8,h6,h1,hlen]
   refine Aa8 (fun q1=>?_) (fun q1=>?_)
   rotate_left
   . have:i=ps.length:=by omega
     subst this
     rw[List.take_length]at h5
     simp only[RT,Q0,Q1,Q2,Q3,Q4,Q5,Q6,Q7,Q8]
     exact⟨rfl,h4,h5,hf,rB⟩
   obtain⟨p,hp⟩:=Ac7 (l:=ps) (i:=i) (by omega)
   have hpl:=hl p (List.mem_of_getElem? hp)
   obtain⟨bb,o,g1,g2⟩:=Cv1 (hm.fr0 hf) hs hp
   have hwi:IntKind.i64.wrap ((i:Int)+1)=((i+1:Nat):Int):=by rw[Ac2 (by omega)]
   have d1:aw TP .quo 3 (.int .i64 (p.length:Int)) (.int .i64 16777216)=some (.int .i64 ((p.length/16777216:Nat):Int)):=AA0 _ 16777216 (by decide) (by omega)
   have d2:aw TP .quo 3 (.int .i64 (p.length:Int)) (.int .i64 65536)=some (.int .i64 ((p.length/65536:Nat):Int)):=AA0 _ 65536 (by decide) (by omega)
   have d3:aw TP .quo 3 (.int .i64 (p.length:Int)) (.int .i64 256)=some (.int .i64 ((p.length/256:Nat):Int)):=AA0 _ 256 (by decide) (by omega)
   have m1:aw TP .rem 3 (.int .i64 ((p.length/16777216:Nat):Int)) (.int .i64 256)=some (.int .i64 ((p.length/16777216%256:Nat):Int)):=Av1 _ 256 (by decide)
   have m2:aw TP .rem 3 (.int .i64 ((p.length/65536:Nat):Int)) (.int .i64 256)=some (.int .i64 ((p.length/65536%256:Nat):Int)):=Av1 _ 256 (by decide)
   have m3:aw TP .rem 3 (.int .i64 ((p.length/256:Nat):Int)) (.int .i64 256)=some (.int .i64 ((p.length/256%256:Nat):Int)):=Av1 _ 256 (by decide)
   have m4:aw TP .rem 3 (.int .i64 (p.length:Int)) (.int .i64 256)=some (.int .i64 ((p.length%256:Nat):Int)):=Av1 _ 256 (by decide)
   obtain⟨C,eC⟩:∃C,C=B.push ⟨bc (eW p.length),.arr B.blk.length 0⟩:=⟨_,rfl⟩
   have fC:Fr S0 B C:=by rw[eC];exact Fr.aF B _
   have hcv:cnv TP 45 9 (some (.sl B.blk.length 0 4 1)) C=some (.val (.str (eW p.length))):=
    BR5 (l:=eW p.length) (by decide) Tryz.underlying45 Tryz.underlying5 Tryz.underlying9 (by rw[eC];exact Ab9 B _)
   have eC:C=B.push ⟨[.int .u8 ((UInt8.ofNat (p.length/16777216)).toNat:Int),.int .u8 ((UInt8.ofNat (p.length/65536)).toNat:Int),.int .u8 ((UInt8.ofNat (p.length/256)).toNat:Int),.int .u8 ((UInt8.ofNat p.length).toNat:Int)],.arr B.blk.length 0⟩:=eC
   have g2C:aa TP 9 (.ptr bb o) C=some (.str p):=by
    obtain⟨bb',o',g1',g2'⟩:=Cv1 (hm.fr0 (hf.ab fC)) hs hp
    rw[g1]at g1';cases g1';exact g2'
   have hfl:((ek (ps.take i)).flatten).length<=100*(100000000+4):=Nat.le_trans (Aw4 fun q hq=>hl q (List.mem_of_mem_take hq)) (Nat.mul_le_mul_right _ (by rw[List.length_take];omega))
   have ad1:aw TP .add 9 (.str (eW p.length)) (.str p)=some (.str (eW p.length++p)):=A52 (by simp[eW];omega)
   have ad2:aw TP .add 9 (.str (pu++0::(ek (ps.take i)).flatten)) (.str (eW p.length++p))=some (.str ((pu++0::(ek (ps.take i)).flatten)++(eW p.length++p))):=A52 (by simp[eW]at hfl ⊢;omega)
   have en:(pu++0::(ek (ps.take i)).flatten)++(eW p.length++p)=pu++0::(ek (ps.take (i+1))).flatten:=by
    rw[Ab6 hp,AU6];simp
   rw[en]at ad2
   simp only[RT,Q0,Q1,Q2,Q3,Q4,Q5,Q6,Q7,Q8,h1,h6,g1,g2,As1 Tryz.underlying9]
   rw[BV7,Aa2 (by rfl)]
   simp only[RT,Q0,Q1,Q2,Q3,Q4,Q5,Q6,Q7,Q8,h5,d1,d2,d3,m1,m2,m3,m4,Cy5,Cd6,Cr0,B32]
   simp only[RT,Q0,Q1,Q2,Q3,Q4,Q5,Q6,Q7,Q8,<- eC,hcv,h1,h6,g1,g2C,ad1,ad2,hwi]
   refine⟨ps.length-(i+1),by omega,i+1,rfl,by omega,rfl,?_⟩
   exact⟨h4,rfl,hf.ab fC,fC.af rB⟩
 rintro z e B hz ⟨rfl,h4,h5,hf,rB⟩
 have hfl:((ek ps).flatten).length<=100*(100000000+4):=Nat.le_trans (Aw4 hl) (Nat.mul_le_mul_right _ hn)
 obtain⟨_,C,k1,k2,rfl⟩:=Bb6 (s:=pu++0::(ek ps).flatten) (hf.wf hw) (by simp at hfl ⊢;omega)
 obtain⟨D,u1,u2,u3⟩:=AA5 (k2.af rB) (by simp[bF]) (AD9 (pu++0::(ek ps).flatten))
 simp only[RT,Q0,Q1,Q2,Q3,Q4,Q5,Q6,Q7,Q8,h5]
 refine Aa0 k1 ?_
 simp only[RT,Q0,Q1,Q2,Q3,Q4,Q5,Q6,Q7,Q8,h4,u1,ldI u3 (AD9 _)]
 exact⟨(hf.ab k2).ar u2 (by omega),rfl⟩
set_option maxRecDepth 10000 in
theorem rId{s:Bts}(hw:WF A)(hs:s.length<=100000000):∃w A',EvF TP HH 33 [.str s] A w A'/\Fr S0 A A'/\w=.agg (bc (az s)):=by
 refine Aa4 rfl Tryz.func33 (by unfold Tryz.f33;rfl) Tryz.ntmps33 (by unfold Tryz.f33;rfl) (by simp) ?_
 obtain⟨A1,e1,f1,r1,n1⟩:=Aa3 A (bc bF)
 obtain⟨b2,hb2⟩:∃b,b=A.blk.length:=⟨_,rfl⟩
 rw[<- hb2]at r1
 obtain⟨A2,e2⟩:∃B,B=A1.push ⟨[.str s],.arr A1.blk.length 0⟩:=⟨_,rfl⟩
 have f2:Fr S0 A1 A2:=by rw[e2];exact Fr.aF A1 _
 have L2:Lst kZ Hp.emp A2 (.sl A1.blk.length 0 1 1) [s] (some A1.blk.length):=by
  rw[e2];exact Lst.row (l:=[s]) (E:=kZ) (aL.single (E:=kZ) rfl)
 have f12:=f1.ab f2
 obtain⟨_,A3,k3,f3,rfl⟩:=A08 (pu:=lU) (f12.wf hw) (Ai2 A2) (L2.gK (fun b cs q=>by cases q)) (by decide) (by simp) (fun p hp=>by rw[List.mem_singleton.1 hp];exact hs)
 have k3:EvF TP HH 73 [.str [98,97,116,99,104],.sl A1.blk.length 0 1 1] A2 (.agg (bc (az s))) A3:=k3
 obtain⟨A4,u1,u2,u3⟩:=AA5 (f3.af (f2.af r1)) (by simp[bF]) (Ab4 s)
 have bs1:bsl TP 146 1 (some [(0,.str s)])=some (.aB [.str s] 1 1):=by kernel_rfl
 simp only[RT,Q0,Q1,Q2,Q3,Q4,Q5,Q6,Q7,Q8,Av8,<- e1,<- hb2,bs1]
 simp only[RT,Q0,Q1,Q2,Q3,Q4,Q5,Q6,Q7,Q8,<- e2]
 refine Aa0 k3 ?_
 simp only[RT,Q0,Q1,Q2,Q3,Q4,Q5,Q6,Q7,Q8,u1,ldI u3 (Ab4 s)]
 exact(f12.ab f3).ar u2 (by omega)
end
end Go.Sv.Tryz
namespace Go.Sv
open Go
def eZ(r:Rd)(R:Int):Ofr:=if R<0∨R>=12 then jH else r.offers R.toNat
end Go.Sv
namespace Go.Sv.Tryz
open Go Go.Proofs
section
variable {A B C:AS} {rp cp:Nat} {r r':Rd} {vb:Nat->Nat} {fk fa:Option Nat}
theorem Cl5{b:Nat}{x y:Ofr}(h:A.blk[b]?=some ⟨cR x,.var⟩)(hx:x.id.length=32)(hy:y.id.length=32):∃A',ag TP 94 (.ptr b 0) (.agg (cR y)) A=some A'/\Fr (·=.row b) A A'/\A'.blk[b]?=some ⟨cR y,.var⟩:=by
 obtain⟨A',s1,s2,s3,s4⟩:=Ab1 (P:=TP) (t:=94) (o:=0) (x:=.agg (cR y)) (cs:=cR y) h rfl (by rw[Ae1 hy];exact BW7) (by rw[Ae1 hx,Ae1 hy];omega) (AN4 y)
 exact⟨A',s1,s2,by rw[s3,Ah3 (by rw[Ae1 hx,Ae1 hy])]⟩
theorem BJ7{b:Nat}{k:BK}{x:Ofr}(h:A.blk[b]?=some ⟨cR x,k⟩)(hx:x.id.length=32):aa TP 94 (.ptr b 0) A=some (.agg (cR x)):=At.load h (At.all _) Cr4 BW7 (Ae1 hx)
theorem BG5:au TP 94 []=some (.agg (cR jH)):=by kernel_rfl
theorem AC6(h:Rok r)(R:Int):(eZ r R).id.length=32:=by
 unfold eZ;split
 . rfl
 . exact h.offers _
set_option maxRecDepth 10000 in
set_option maxHeartbeats 8000000 in
theorem AF2(hw:WF A)(h:a4 A rp r cp vb fk fa)(R:Int):∃w A',EvF TP HH 36 [.ptr rp 0,.int .i64 R] A w A'/\Fr S0 A A'/\w=.agg (cR (eZ r R)):=by
 refine Aa4 rfl Tryz.func36 (by unfold Tryz.f36;rfl) Tryz.ntmps36 (by unfold Tryz.f36;rfl) (by simp) ?_
 obtain⟨A1,e1,f1,r1,n1⟩:=Aa3 A (cR jH)
 obtain⟨b4,hb4⟩:∃b,b=A.blk.length:=⟨_,rfl⟩
 rw[<- hb4]at r1 n1
 have h0:jH.id.length=32:=rfl
 have hol:=AC6 h.ok R
 obtain⟨A2,s1,s2,s3⟩:=Cl5 r1 h0 hol
 by_cases c1:R<0
 . have e:eZ r R=jH:=if_pos (.inl c1)
   rw[e]at s1 s3 hol ⊢
   simp only[RT,Q0,Q1,Q2,Q3,Q4,Q5,Q6,Q7,Q8,B18,<- hb4,<- e1,DT c1,BG5,s1,BJ7 s3 hol]
   exact f1.ar s2 (by omega)
 by_cases c2:R>=12
 . have e:eZ r R=jH:=if_pos (.inr c2)
   rw[e]at s1 s3 hol ⊢
   simp only[RT,Q0,Q1,Q2,Q3,Q4,Q5,Q6,Q7,Q8,B18,<- hb4,<- e1,DF c1,DT c2,BG5,s1,BJ7 s3 hol]
   exact f1.ar s2 (by omega)
 obtain⟨i,rfl⟩:=Int.eq_ofNat_of_zero_le (show 0<=R by omega)
 have hi:i<12:=by omega
 have e:eZ r (i:Int)=r.offers i:=if_neg (by omega)
 rw[e]at s1 s3 hol ⊢
 obtain⟨kv,av,b1,b2,b3⟩:=(h.fr0 f1).box
 have ldo:aa TP 94 (.ptr rp (103+i*34)) A1=some (.agg (cR (r.offers i))):=At.load b1 (Cf3 h.ok hi) Cr4 BW7 (Ae1 hol)
 simp only[RT,Q0,Q1,Q2,Q3,Q4,Q5,Q6,Q7,Q8,B18,<- hb4,<- e1,DF c1,DF c2,AB9 rp,Bf3 hi,ldo,s1,BJ7 s3 hol]
 exact f1.ar s2 (by omega)
set_option maxRecDepth 10000 in
theorem Bc1(hw:WF A)(h:a4 A rp r cp vb fk fa)(R K w:Int):∃u A',EvF TP HH 38 [.ptr rp 0,.int .i64 R,.int .i64 K,.int .i64 w] A u A'/\Fr S0 A A'/\u=.agg (bc (dN r.n r.v R K w)):=by
 refine Aa4 rfl Tryz.func38 (by unfold Tryz.f38;rfl) Tryz.ntmps38 (by unfold Tryz.f38;rfl) (by simp) ?_
 obtain⟨A1,e1,f1,r1,n1⟩:=Aa3 A (bc z32)
 obtain⟨b4,hb4⟩:∃b,b=A.blk.length:=⟨_,rfl⟩
 rw[<- hb4]at r1 n1
 have h1:=h.fr0 f1
 obtain⟨kv,av,b1,b2,b3⟩:=h1.box
 have ld:=Ap1 b1 h.ok
 obtain⟨_,A2,k1,k2,rfl⟩:=AN6 h1.cnt R K w
 have hl:=Ap5 (n:=r.n) h.cnt.len R K w
 obtain⟨A3,s1,s2,s3⟩:=AJ0 (k2.af r1) Aa9 hl
 simp only[RT,Q0,Q1,Q2,Q3,Q4,Q5,Q6,Q7,Q8,A59,<- hb4,<- e1,AB9 rp,ld]
 refine Aa0 k1 ?_
 simp only[RT,Q0,Q1,Q2,Q3,Q4,Q5,Q6,Q7,Q8,s1,Ai8 s3 hl]
 exact(f1.ab k2).ar s2 (by omega)
set_option maxRecDepth 10000 in
theorem Bc2(hw:WF A)(h:a4 A rp r cp vb fk fa):∃u A',EvF TP HH 49 [.ptr rp 0] A u A'/\Fr S0 A A'/\u=.tup [.int .i64 r.valid,.agg (bc r.a7)]:=by
 refine Aa4 rfl Tryz.func49 (by unfold Tryz.f49;rfl) Tryz.ntmps49 (by unfold Tryz.f49;rfl) (by simp) ?_
 obtain⟨A1,e1,f1,r1,n1⟩:=Aa3 A (bc z32)
 obtain⟨b4,hb4⟩:∃b,b=A.blk.length:=⟨_,rfl⟩
 rw[<- hb4]at r1 n1
 have h1:=h.fr0 f1
 obtain⟨kv,av,b1,b2,b3⟩:=h1.box
 have ld:=Ap1 b1 h.ok
 obtain⟨A3,s1,s2,s3⟩:=AJ0 r1 Aa9 h.ok.a7
 simp only[RT,Q0,Q1,Q2,Q3,Q4,Q5,Q6,Q7,Q8,A59,<- hb4,<- e1]
 rw[BU2,Aa2 (by rfl)]
 simp only[RT,Q0,Q1,Q2,Q3,Q4,Q5,Q6,Q7,Q8,AB9 rp,ld,s1,Ai8 s3 h.ok.a7]
 exact f1.ar s2 (by omega)
end
end Go.Sv.Tryz
namespace Go.Sv
open Go
abbrev Idb:={x:Bts // x.length=32}
def lV(p:Idb):V:=V.agg (bc p.1)
def mU(n:Int):V:=V.int .i64 n
theorem B36{P:Program}{kt:TypeId}(hs:bT P 50 kt=some (List.replicate 32 (.int .u8)))(ha:aH P kt=some true):lW P kt lV where
 ok:=fun k es h=>by
  have fb:∀p:Idb,an (List.replicate 32 (.int .u8)) (bc p.1)=true:=fun p=>by have:=Ak8 p.1;rwa[p.2]at this
  unfold gj
  simp only[hs,ha,lV]
  rw[Bool.and_eq_true,Bool.and_eq_true]
  refine⟨⟨fb k,AA2 fun e he=>?_⟩,List.all_eq_true.2 fun e he=>?_⟩
  . obtain⟨a,q⟩:=h e he;rw[q];exact fb a
  . obtain⟨a,q⟩:=h e he;rw[q];rfl
 eq:=fun a b=>by
  show aN (bc a.1) (bc b.1)=_
  rw[Ak2 a.1 b.1 (by rw[a.2,b.2])]
  by_cases q:a.1=b.1
  . rw[DT q,DT (Subtype.ext q)]
  . rw[DF q,DF (fun z=>q (congrArg Subtype.val z))]
abbrev oE:=List (Idb×(V×Bts))
def nE(bl:oE):List (Bts×Bts):=bl.map fun p=>(p.1.1,p.2.2)
theorem AO9(k:Idb):∀bl:oE,aQ (nE bl) k.1=(aQ bl k).map (·.2)
 |[]=>rfl
 | (a,v,x)::bl=>by
  have ih:=AO9 k bl
  show aQ ((a.1,x)::nE bl) k.1=_
  unfold aQ
  by_cases q:k=a
  . rw[if_pos q,if_pos (congrArg Subtype.val q)];rfl
  . rw[if_neg q,if_neg (fun z=>q (Subtype.ext z))];exact ih
def fU(l:List (Bts×Bts))(b:Bts):List (Bts×Bts):=match aQ l (az b)with
 |some _=>l
 |none=>l++[(az b,b)]
end Go.Sv
namespace Go.Sv.Tryz
open Go Go.Proofs
structure CoM(X:Nat->Prop)(A:AS)(cb rp mb mg:Nat)(c:Co)(ft:Option Nat):Prop where
 ex:∃(tv dv:V) (bl:oE),A.blk[cb]?=some ⟨coC rp c.rd.n c.rd.me c.rd.ai c.now tv dv mb mg c.bL,.var⟩/\Lst dQ Hp.emp A tv c.tim ft/\ee A mb lV Prod.fst bl/\c.bat=nE bl/\(∀p∈bl,Slc eU8 (qHp X A) p.2.1 p.2.2/\p.2.1≠.ah)/\Slc eU8 (qHp X A) dv c.done
 gv:ee A mg mU V.bool (c.cG.map fun w=>(w,true))
 mm:mb≠mg
section
variable {X Y:Nat->Prop} {A B C:AS} {cb rp mb mg:Nat} {c:Co} {ft:Option Nat}
theorem CoM.fr{S:Loc->Prop}(h:CoM X A cb rp mb mg c ft)(hf:Fr S A B)(h1:¬S (.row cb))(h2:¬S (.map mb))(h3:¬S (.map mg))(h4:Off ft A S)(hq:(qHp X A).le (qHp Y B)):CoM Y B cb rp mb mg c ft:=by
 obtain⟨tv,dv,bl,b1,b2,b3,b4,b5,b6⟩:=h.ex
 exact⟨⟨tv,dv,bl,hf.row _ _ b1 h1,b2.fr hf h4,b3.fr hf h2,b4,fun p q=>⟨(b5 p q).1.mono hq,(b5 p q).2⟩,b6.mono hq⟩,h.gv.fr hf h3,h.mm⟩
theorem CoM.fr0(h:CoM X A cb rp mb mg c ft)(hf:Fr S0 A B):CoM X B cb rp mb mg c ft:=h.fr hf (fun q=>q) (fun q=>q) (fun q=>q) .s0 (Ac8 hf)
theorem BJ8:ia TP 72=some (30,45):=by kernel_rfl
theorem Cl6:lW TP 30 lV:=B36 (by kernel_rfl) Av4
theorem Cv2:aC TP 45=some .ah:=by kernel_rfl
theorem Bu2:bsl TP 45 0 (some [])=some (.aB [] 0 1):=by kernel_rfl
set_option maxRecDepth 10000 in
set_option maxHeartbeats 8000000 in
theorem Bi7{m:Hp}{v:V}{b:Bts}(hw:WF A)(h:CoM X A cb rp mb mg c ft)(hX:∀f,X f->f<A.blk.length)(hm:m.on A)(hv:Slc eU8 m v b)(hb:b.length<=1000000000):
 ∃w A',EvF TP HH 55 [.ptr cb 0,v] A w A'/\Fr (·=.map mb) A A'/\w=.agg (bc (az b))/\CoM X A' cb rp mb mg { c with bat:=fU c.bat b } ft:=by
 refine Aa4 rfl Tryz.func55 (by unfold Tryz.f55;rfl) Tryz.ntmps55 (by unfold Tryz.f55;rfl) (by simp) ?_
 have hil:=Ab4 b
 obtain⟨A1,e1,f1,r1,n1⟩:=Aa3 A (bc bF)
 obtain⟨b4,hb4⟩:∃b,b=A.blk.length:=⟨_,rfl⟩
 rw[<- hb4]at r1 n1
 obtain⟨_,A2,k2,f2,rfl⟩:=AF1 (f1.wf hw) (hm.fr0 f1) hv hb
 have f12:=f1.ab f2
 obtain⟨A3,s1,f3,r3⟩:=BX9 (A:=A2) (az b) hil
 obtain⟨b5,hb5⟩:∃b,b=A2.blk.length:=⟨_,rfl⟩
 rw[<- hb5]at s1 r3
 have f13:=f12.ab f3
 have w3:=f13.wf hw
 have h3:=h.fr0 f13
 obtain⟨tv,dv,bl,x1,x2,x3,x4,x5,x6⟩:=h3.ex
 have x4:c.bat=nE bl:=x4
 have ld:=Ap2 x1
 obtain⟨key,sJ⟩:∃k:Idb,k=⟨az b,hil⟩:=⟨_,rfl⟩
 have hlk:=AO9 key bl
 rw[<- x4]at hlk
 have hk1:key.1=az b:=by rw[sJ]
 rw[hk1]at hlk
 have lk:=x3.look (P:=TP) Cl6 BJ8 Cv2 key true
 have qY:lV key=.agg (bc (az b)):=by unfold lV;rw[hk1]
 rw[qY]at lk
 have r1':=f3.af (f2.af r1)
 cases hq:aQ bl key with
 |some y =>
  rw[hq]at lk hlk
  have hhv:fU c.bat b=c.bat:=by unfold fU;rw[hlk];rfl
  obtain⟨A4,u1,u2,u3⟩:=AA5 r1' (by simp[bF]) hil
  simp only[RT,Q0,Q1,Q2,Q3,Q4,Q5,Q6,Q7,Q8,Av8,<- hb4,<- e1]
  refine Aa0 k2 ?_
  simp only[RT,Q0,Q1,Q2,Q3,Q4,Q5,Q6,Q7,Q8,Av8,<- hb5,s1]
  rw[Bp6,Aa2 (by rfl)]
  simp only[RT,Q0,Q1,Q2,Q3,Q4,Q5,Q6,Q7,Q8,An0 cb,ld,ldI r3 hil,lk,Af4,u1,ldI u3 hil]
  rw[hhv]
  have fA4:Fr S0 A A4:=f13.ar u2 (by omega)
  exact⟨fA4.mono fun z q=>q.elim,h.fr0 fA4⟩
 |none =>
  rw[hq]at lk hlk
  have hhv:fU c.bat b=c.bat++[(az b,b)]:=by unfold fU;rw[hlk];rfl
  obtain⟨c',B,y1,y2,y3,y4,y5⟩:=At1 (P:=TP) (t:=45) (tx:=45) w3 BX5 Tryz.underlying45 hv (hm.fr0 f13) (by omega) (by omega)
  have h4:=h3.fr0 y5
  have x3B:=x3.fr y5 (fun q=>q)
  have ldB:=Ap2 (y5.af x1)
  have r3B:=y5.af r3
  obtain⟨D,t1,t2,t3⟩:=x3B.put (P:=TP) Cl6 BJ8 (k:=key) (V.sl c' 0 b.length 1,b) hq
  rw[qY]at t1
  have t1:aZ TP 72 (.map mb) (.agg (bc (az b))) (.sl c' 0 b.length 1) B=some D:=t1
  have fAB:Fr S0 A B:=f13.ab y5
  obtain⟨E,u1,u2,u3⟩:=AA5 (t2.row _ _ (y5.af r1') (fun q=>by cases q)) (by simp[bF]) hil
  simp only[RT,Q0,Q1,Q2,Q3,Q4,Q5,Q6,Q7,Q8,Av8,<- hb4,<- e1]
  refine Aa0 k2 ?_
  simp only[RT,Q0,Q1,Q2,Q3,Q4,Q5,Q6,Q7,Q8,Av8,<- hb5,s1]
  rw[Bp6,Aa2 (by rfl)]
  simp only[RT,Q0,Q1,Q2,Q3,Q4,Q5,Q6,Q7,Q8,An0 cb,ld,ldI r3 hil,lk,Af4]
  simp only[RT,Q0,Q1,Q2,Q3,Q4,Q5,Q6,Q7,Q8,BU7,Aa1,An0 cb,ld,ldI r3 hil,Bu2,y1]
  refine⟨Aa5 (ha:=rfl) rfl ldB.2.2.2.2.2.2.1 rfl (Aa5 (ha:=rfl) rfl (ldI r3B hil) rfl Aa1),?_⟩
  have r3D:=t2.row _ _ r3B (fun q=>by cases q)
  have hcb:cb<A.blk.length:=by
   obtain⟨_,_,_,z,_⟩:=h.ex
   exact Ab3 z
  have l23:=(f2.ab f3).len
  have nD:c'≠b4:=by omega
  have mT:cb≠b4:=by omega
  have wB:=fAB.wf hw
  have wD:=t2.wf wB
  have r1B:=y5.af r1'
  have r1D:=t2.row _ _ r1B (fun q=>by cases q)
  have l13:=f13.len
  have q1:(qHp X B).le (qHp X D):=Ae4 t2 (fun b k z=>by cases z) wB fun f q=>.inl q
  have q2:(qHp X D).le (qHp X E):=Ae4 u2 (fun b k z y=>by cases z;rw[r1D]at y;cases y;exact .inl rfl) wD fun f q=>.inl q
  have q3:(qHp X A3).le (qHp X E):=Hp.le_trans (Ac8 y5) (Hp.le_trans q1 q2)
  have yE:=u2.row _ _ (t2.row _ _ y2 (fun q=>by cases q)) (fun q=>nD (by injection q))
  have hnX:¬X A3.blk.length:=fun q=>by have:=hX _ q;omega
  have lM:CoM X E cb rp mb mg { c with bat:=fU c.bat b } ft:=by
   rw[hhv]
   refine⟨⟨tv,dv,bl++[(key,(V.sl c' 0 b.length 1,b))],u2.row _ _ (t2.row _ _ (y5.af x1) (fun q=>by cases q)) (fun q=>mT (by injection q)),?_,t3.fr u2 (fun q=>by cases q),?_,fun p q=>?_,x6.mono q3⟩,?_,h.mm⟩
   . exact((x2.fr0 y5).fr t2 (fun b z=>by cases z)).fr u2 (.box r1D)
   . show c.bat++[(az b,b)]=_
     rw[x4];unfold nE;rw[List.map_append,List.map_singleton,hk1]
   . rcases List.mem_append.1 q with q |q
     . exact⟨(x5 p q).1.mono q3,(x5 p q).2⟩
     . rw[List.mem_singleton.1 q]
       exact⟨Br3 (Aj1 yE hnX) rfl,fun z=>by cases z⟩
   . exact ee.fr (ee.fr (ee.fr h3.gv y5 (fun q=>q)) t2 (fun q=>by cases q;exact h.mm rfl)) u2 (fun q=>by cases q)
  simp only[RT,Q0,Q1,Q2,Q3,Q4,Q5,Q6,Q7,Q8,t1,ldI r3D hil,u1,ldI u3 hil,Aa1]
  refine⟨((fAB.mono fun z q=>q.elim).trans t2 fun z q=>.inl q).trans u2 fun z q=>.inr (by subst q;show A.blk.length<=b4;omega),lM⟩
end
end Go.Sv.Tryz
namespace Go.Sv.Tryz
open Go Go.Proofs
end Go.Sv.Tryz
namespace Go.Sv.Tryz
open Go Go.Proofs
abbrev mcZ:List V:=mc (eU 0) .ah .ah .ah
theorem zcM:(aC TP 48).bind V.cells=some mcZ:=by kernel_rfl
theorem Cv3{A:AS}{b o:Nat}{x:M}{dv iv lv:V}{t:TypeId}{w:V}{cs:List V}(h:A.blk[b]?=some ⟨mc x dv iv lv,.var⟩)(hx:x.id.length=32)(hw:w.cells=some cs)(hs:szT TP t=some cs.length)(ho:o+cs.length<=41)(h1:cs.all V.one=true):
 ∃A',ag TP t (.ptr b o) w A=some A'/\Fr (·=.row b) A A'/\A'.blk[b]?=some ⟨putAt (mc x dv iv lv) o cs,.var⟩:=by
 obtain⟨A',h1,h2,h3,_⟩:=Ab1 (P:=TP) (t:=t) (o:=o) (x:=w) h hw hs (by rw[Am0 hx];exact ho) h1
 exact⟨A',h1,h2,h3⟩
end Go.Sv.Tryz
namespace Go.Sv.Tryz
open Go Go.Proofs
end Go.Sv.Tryz
namespace Go.Sv.Tryz
open Go Go.Proofs
end Go.Sv.Tryz
namespace Go.Sv.Tryz
open Go Go.Proofs
end Go.Sv.Tryz
namespace Go.Sv.Tryz
open Go Go.Proofs
end Go.Sv.Tryz
namespace Go.Sv.Tryz
open Go Go.Proofs
theorem M.ext'{x y:Go.Sv.M}(h0:x.kind=y.kind)(h1:x.who=y.who)(h2:x.ai=y.ai)(h3:x.round=y.round)(h4:x.valid=y.valid)(h5:x.num=y.num)(h6:x.id=y.id)(h7:x.data=y.data)(h8:x.ids=y.ids)(h9:x.list=y.list):x=y:=by
 cases x;cases y;simp at h0 h1 h2 h3 h4 h5 h6 h7 h8 h9;simp[*]
theorem A70{α:Type}{a b:List α}(hl:a.length=b.length)(h:∀(j:Nat) u v,a[j]?=some u->b[j]?=some v->u=v):a=b:=by
 apply AR6 hl
 intro i x hx
 have hi:=(LG.1 hx).1
 obtain⟨y,hy⟩:=Ac7 (l:=a) (i:=i) (by omega)
 rw[hy,h i y x hy hx]
set_option maxRecDepth 10000 in
set_option maxHeartbeats 32000000 in
theorem AU7{m:Hp}{A:AS}{x y:Go.Sv.M}{dv iv lv dv' iv' lv':V}(hm:m.on A)(h:cw m x dv iv lv)(h':cw m y dv' iv' lv')(hs:x.ids.length<=9223372036854775806)(hs2:x.list.length<=9223372036854775806):
 ∃w A',EvF TP HH 24 [.agg (mc x dv iv lv),.agg (mc y dv' iv' lv')] A w A'/\Fr S0 A A'/\∃r,w=.bool r/\(r=true↔x=y):=by
 refine Aa4 rfl Tryz.func24 (by unfold Tryz.f24;rfl) Tryz.ntmps24 (by unfold Tryz.f24;rfl) (by simp) ?_
 simp only[RT,Q0,Q1,Q2,Q3,Q4,Q5,Q6,Q7,Q8]
 obtain⟨A1,e1,f1,r1,n1⟩:=Aa3 A (mc x dv iv lv)
 rw[<- e1]
 obtain⟨A2,e2,f2,r2,n2⟩:=Aa3 A1 (mc y dv' iv' lv')
 rw[<- e2]
 have fA:=f1.ab f2
 have hm2:=hm.fr0 fA
 have ld:=ldM (f2.af r1) h.id
 have ld':=ldM r2 h'.id
 have fa:=faM A.blk.length
 have fa':=faM A1.blk.length
 have tx:=Ah2 (P:=TP) (s:=45) (d:=9) (by decide) h.data hm2 Tryz.underlying45 Tryz.underlying5 Tryz.underlying9
 have tx':=Ah2 (P:=TP) (s:=45) (d:=9) (by decide) h'.data hm2 Tryz.underlying45 Tryz.underlying5 Tryz.underlying9
 have il:=fun B=>h.ids.len (P:=TP) Tryz.underlying32 B
 have il':=fun B=>h'.ids.len (P:=TP) Tryz.underlying32 B
 have ll:=fun B=>h.list.len (P:=TP) Tryz.underlying46 B
 have ll':=fun B=>h'.list.len (P:=TP) Tryz.underlying46 B
 have ei:=eqI h.id h'.id
 have no:∀{p:Prop},(x=y->p)->¬p->(false=true↔x=y):=fun q z=>⟨fun w=>by simp at w,fun w=>absurd (q w) z⟩
 simp only[RT,Q0,Q1,Q2,Q3,Q4,Q5,Q6,Q7,Q8,fa,fa',ld,ld']
 by_cases g0:x.kind=y.kind
 rotate_left
 . simp only[RT,Q0,Q1,Q2,Q3,Q4,Q5,Q6,Q7,Q8,g0]
   exact⟨fA,false,rfl,no (fun q=>by rw[q]) g0⟩
 simp only[RT,Q0,Q1,Q2,Q3,Q4,Q5,Q6,Q7,Q8,g0,fa,fa',ld,ld']
 by_cases g1:x.who=y.who
 rotate_left
 . simp only[RT,Q0,Q1,Q2,Q3,Q4,Q5,Q6,Q7,Q8,g1]
   exact⟨fA,false,rfl,no (fun q=>by rw[q]) g1⟩
 simp only[RT,Q0,Q1,Q2,Q3,Q4,Q5,Q6,Q7,Q8,g1,fa,fa',ld,ld']
 by_cases g2:x.ai=y.ai
 rotate_left
 . simp only[RT,Q0,Q1,Q2,Q3,Q4,Q5,Q6,Q7,Q8,g2]
   exact⟨fA,false,rfl,no (fun q=>by rw[q]) g2⟩
 simp only[RT,Q0,Q1,Q2,Q3,Q4,Q5,Q6,Q7,Q8,g2,fa,fa',ld,ld']
 by_cases g3:x.round=y.round
 rotate_left
 . simp only[RT,Q0,Q1,Q2,Q3,Q4,Q5,Q6,Q7,Q8,g3]
   exact⟨fA,false,rfl,no (fun q=>by rw[q]) g3⟩
 simp only[RT,Q0,Q1,Q2,Q3,Q4,Q5,Q6,Q7,Q8,g3,fa,fa',ld,ld']
 by_cases g4:x.valid=y.valid
 rotate_left
 . simp only[RT,Q0,Q1,Q2,Q3,Q4,Q5,Q6,Q7,Q8,g4]
   exact⟨fA,false,rfl,no (fun q=>by rw[q]) g4⟩
 simp only[RT,Q0,Q1,Q2,Q3,Q4,Q5,Q6,Q7,Q8,g4,fa,fa',ld,ld']
 by_cases g5:x.num=y.num
 rotate_left
 . simp only[RT,Q0,Q1,Q2,Q3,Q4,Q5,Q6,Q7,Q8,g5]
   exact⟨fA,false,rfl,no (fun q=>by rw[q]) g5⟩
 simp only[RT,Q0,Q1,Q2,Q3,Q4,Q5,Q6,Q7,Q8,g5,fa,fa',ld,ld',ei]
 by_cases g6:x.id=y.id
 rotate_left
 . simp only[RT,Q0,Q1,Q2,Q3,Q4,Q5,Q6,Q7,Q8,g6]
   exact⟨fA,false,rfl,no (fun q=>by rw[q]) g6⟩
 simp only[RT,Q0,Q1,Q2,Q3,Q4,Q5,Q6,Q7,Q8,g6,fa,fa',ld,ld',tx,tx']
 by_cases g7:x.data=y.data
 rotate_left
 . simp only[RT,Q0,Q1,Q2,Q3,Q4,Q5,Q6,Q7,Q8,g7]
   exact⟨fA,false,rfl,no (fun q=>by rw[q]) g7⟩
 simp only[RT,Q0,Q1,Q2,Q3,Q4,Q5,Q6,Q7,Q8,g7,fa,fa',ld,ld',il,il']
 by_cases g8:x.ids.length=y.ids.length
 rotate_left
 . have g8':¬((x.ids.length:Int)=y.ids.length):=by omega
   simp only[RT,Q0,Q1,Q2,Q3,Q4,Q5,Q6,Q7,Q8,g8']
   exact⟨fA,false,rfl,no (fun q=>by rw[q]) g8⟩
 have g8':((x.ids.length:Int)=y.ids.length):=by omega
 simp only[RT,Q0,Q1,Q2,Q3,Q4,Q5,Q6,Q7,Q8,g8',fa,fa',ld,ld',ll,ll']
 by_cases g9:x.list.length=y.list.length
 rotate_left
 . have g9':¬((x.list.length:Int)=y.list.length):=by omega
   simp only[RT,Q0,Q1,Q2,Q3,Q4,Q5,Q6,Q7,Q8,g9']
   exact⟨fA,false,rfl,no (fun q=>by rw[q]) g9⟩
 have g9':((x.list.length:Int)=y.list.length):=by omega
 simp only[RT,Q0,Q1,Q2,Q3,Q4,Q5,Q6,Q7,Q8,g9']
 clear g8' g9'
 refine Aa6 (fun n e B=>B=A2/\e.get 2=.ptr A.blk.length 0/\e.get 3=.ptr A1.blk.length 0/\∃i:Nat,n=x.ids.length-i/\i<=x.ids.length/\e.get 5=.int .i64 i/\∀(j:Nat) u v,j<i->x.ids[j]?=some u->y.ids[j]?=some v->u=v)
  (fun z e B=>B=A2/\((Is z (.exit 0)/\e.get 2=.ptr A.blk.length 0/\e.get 3=.ptr A1.blk.length 0/\x.ids=y.ids)∨(Is z .ret/\e.get 4=.bool false/\x.ids≠y.ids)))
  ⟨_,rfl,rfl,rfl,0,rfl,by omega,rfl,fun j u v q=>absurd q (by omega)⟩ ?_ ?_
 . rintro n e B ⟨rfl,h2,h3,i,rfl,hi,h5,gL⟩
   simp only[RT,Q0,Q1,Q2,Q3,Q4,Q5,Q6,Q7,Q8,h5,h2,fa,ld,il]
   refine Aa8 (fun g=>?_) (fun g=>?_)
   . obtain⟨u,hu⟩:=Ac7 (l:=x.ids) (i:=i) (by omega)
     obtain⟨v,hv⟩:=Ac7 (l:=y.ids) (i:=i) (by omega)
     obtain⟨b1,o1,c1,p1,p2,p3⟩:=h.ids.at (P:=TP) (k:=.i64) hm2 Tryz.underlying32 Ap3 Av4 hu
     obtain⟨rfl,hul⟩:=Cq9.1 p3
     obtain⟨b3,o3,c3,q1,q2,q3⟩:=h'.ids.at (P:=TP) (k:=.i64) hm2 Tryz.underlying32 Ap3 Av4 hv
     obtain⟨rfl,hvl⟩:=Cq9.1 q3
     simp only[RT,Q0,Q1,Q2,Q3,Q4,Q5,Q6,Q7,Q8]
     rw[BT1,Aa2 (by rfl)]
     simp only[RT,Q0,Q1,Q2,Q3,Q4,Q5,Q6,Q7,Q8,h5,h2,h3,fa,fa',ld,ld',p1,p2,q1,q2,eqI hul hvl]
     by_cases g1:u=v
     . simp only[RT,Q0,Q1,Q2,Q3,Q4,Q5,Q6,Q7,Q8,g1,h5]
       refine⟨x.ids.length-(i+1),by omega,h2,h3,i+1,rfl,by omega,by rw[Ac2 (by omega)],fun j u' v' hj hu' hv'=>?_⟩
       rcases Nat.lt_or_ge j i with r |r
       . exact gL j u' v' r hu' hv'
       . have:j=i:=by omega
         subst this
         rw[hu]at hu';rw[hv]at hv';cases hu';cases hv';exact g1
     . simp only[RT,Q0,Q1,Q2,Q3,Q4,Q5,Q6,Q7,Q8,g1]
       exact .inr ⟨rfl,fun q=>g1 (by rw[q]at hu;rw[hu]at hv;cases hv;rfl)⟩
   . simp only[RT,Q0,Q1,Q2,Q3,Q4,Q5,Q6,Q7,Q8]
     refine .inl ⟨rfl,h2,h3,A70 g8 fun j u v hu hv=>gL j u v ?_ hu hv⟩
     have:=(LG.1 hu).1
     omega
 rintro z e B hz ⟨rfl,⟨rfl,h2,h3,gi⟩ |⟨rfl,h4,gi⟩⟩
 rotate_left
 . simp only[RT,Q0,Q1,Q2,Q3,Q4,Q5,Q6,Q7,Q8,h4]
   exact⟨fA,false,rfl,no (fun q=>by rw[q]) gi⟩
 simp only[RT,Q0,Q1,Q2,Q3,Q4,Q5,Q6,Q7,Q8]
 refine Aa6 (fun n e C=>C=B/\e.get 2=.ptr A.blk.length 0/\e.get 3=.ptr A1.blk.length 0/\∃i:Nat,n=x.list.length-i/\i<=x.list.length/\e.get 6=.int .i64 i/\∀(j:Nat) u v,j<i->x.list[j]?=some u->y.list[j]?=some v->u=v)
  (fun z e C=>C=B/\((Is z (.exit 2)/\x.list=y.list)∨(Is z .ret/\e.get 4=.bool false/\x.list≠y.list)))
  ⟨_,rfl,h2,h3,0,rfl,by omega,rfl,fun j u v q=>absurd q (by omega)⟩ ?_ ?_
 . rintro n e C ⟨rfl,h2,h3,i,rfl,hi,h6,gL⟩
   simp only[RT,Q0,Q1,Q2,Q3,Q4,Q5,Q6,Q7,Q8,h6,h2,fa,ld,ll]
   refine Aa8 (fun g=>?_) (fun g=>?_)
   . obtain⟨u,hu⟩:=Ac7 (l:=x.list) (i:=i) (by omega)
     obtain⟨v,hv⟩:=Ac7 (l:=y.list) (i:=i) (by omega)
     obtain⟨b1,o1,c1,p1,p2,p3⟩:=h.list.at (P:=TP) (k:=.i64) hm2 Tryz.underlying46 BY1 BW6 hu
     obtain⟨b3,o3,c3,q1,q2,q3⟩:=h'.list.at (P:=TP) (k:=.i64) hm2 Tryz.underlying46 BY1 BW6 hv
     rw[BM8]at p3 q3
     have p4:=Ah2 (P:=TP) (s:=45) (d:=9) (by decide) p3 hm2 Tryz.underlying45 Tryz.underlying5 Tryz.underlying9
     have q4:=Ah2 (P:=TP) (s:=45) (d:=9) (by decide) q3 hm2 Tryz.underlying45 Tryz.underlying5 Tryz.underlying9
     simp only[RT,Q0,Q1,Q2,Q3,Q4,Q5,Q6,Q7,Q8]
     rw[BA5,Aa2 (by rfl)]
     simp only[RT,Q0,Q1,Q2,Q3,Q4,Q5,Q6,Q7,Q8,h6,h2,h3,fa,fa',ld,ld',p1,p2,p4,q1,q2,q4]
     by_cases g1:u=v
     . simp only[RT,Q0,Q1,Q2,Q3,Q4,Q5,Q6,Q7,Q8,g1,h6]
       refine⟨x.list.length-(i+1),by omega,h2,h3,i+1,rfl,by omega,by rw[Ac2 (by omega)],fun j u' v' hj hu' hv'=>?_⟩
       rcases Nat.lt_or_ge j i with r |r
       . exact gL j u' v' r hu' hv'
       . have:j=i:=by omega
         subst this
         rw[hu]at hu';rw[hv]at hv';cases hu';cases hv';exact g1
     . simp only[RT,Q0,Q1,Q2,Q3,Q4,Q5,Q6,Q7,Q8,g1]
       exact .inr ⟨rfl,fun q=>g1 (by rw[q]at hu;rw[hu]at hv;cases hv;rfl)⟩
   . simp only[RT,Q0,Q1,Q2,Q3,Q4,Q5,Q6,Q7,Q8]
     refine .inl ⟨rfl,A70 g9 fun j u v hu hv=>gL j u v ?_ hu hv⟩
     have:=(LG.1 hu).1
     omega
 rintro z e C hz ⟨rfl,⟨rfl,gl⟩ |⟨rfl,h4,gl⟩⟩
 . simp only[RT,Q0,Q1,Q2,Q3,Q4,Q5,Q6,Q7,Q8]
   exact⟨fA,true,rfl,by simp[M.ext' g0 g1 g2 g3 g4 g5 g6 g7 gi gl]⟩
 . simp only[RT,Q0,Q1,Q2,Q3,Q4,Q5,Q6,Q7,Q8,h4]
   exact⟨fA,false,rfl,no (fun q=>by rw[q]) gl⟩
end Go.Sv.Tryz
namespace Go.Sv
open Go
end Go.Sv
namespace Go.Sv.Tryz
open Go Go.Proofs
theorem Au3{A:AS}{x:Go.Sv.M}{dv iv lv:V}{m:Hp}(h:cw m x dv iv lv):∃A',ag TP 48 (.ptr A.blk.length 0) (.agg (mc x dv iv lv)) (A.push ⟨mcZ,.var⟩)=some A'/\Fr S0 A A'/\A'.blk[A.blk.length]?=some ⟨mc x dv iv lv,.var⟩:=by
 obtain⟨A2,s1,s2,s3,s4⟩:=Ag5 (P:=TP) A (z:=mcZ) (t:=48) (x:=.agg (mc x dv iv lv)) (cs:=mc x dv iv lv) rfl (by rw[Am0 h.id];exact Br4) (by rw[Am0 h.id];rfl) (At3 h)
 exact⟨A2,s1,s2,s3⟩
end Go.Sv.Tryz
namespace Go.Sv
open Go
def cy(r:Rd):List Bts:=(List.range 24).map fun i=>dN r.n r.v ((i/2:Nat):Int) ((i%2:Nat):Int) r.me
def fc(me:Int)(h:Int)(ids:List Bts):M:=⟨4,me,h,0,0,0,gF,[],ids,[]⟩
def dL(l:List Bts):Nat->Nat
 | 0=>0
 |k+1=>match l[k]? with
  |some x=>if x=z32 then dL l k else k+1
  |none=>dL l k
def cW(r:Rd):List Bts:=(cy r).take (dL (cy r) 24)
theorem AF3(r:Rd):(cy r).length=24:=by unfold cy;simp
theorem Bu3(r:Rd){R j:Nat}(hR:R<12)(hj:j<2):(cy r)[2*R+j]?=some (dN r.n r.v (R:Int) (j:Int) r.me):=by
 unfold cy
 rw[List.getElem?_map,List.getElem?_range (by omega),Option.map_some,show(2*R+j)/2=R by omega,show(2*R+j)%2=j by omega]
theorem AC7(l:List Bts):∀k,dL l k<=k
 | 0=>Nat.le_refl _
 |k+1=>by
  have:=AC7 l k
  unfold dL
  split
  . split<;>omega
  . omega
theorem AK8{l:List Bts}{k:Nat}{x:Bts}(h:l[k]?=some x):dL l (k+1)=if x=z32 then dL l k else k+1:=by
 conv=>lhs;unfold dL
 rw[h]
end Go.Sv
namespace Go.Sv.Tryz
open Go Go.Proofs
section
variable {A B C:AS} {rp cp:Nat} {r r':Rd} {vb:Nat->Nat} {fk fa:Option Nat}
theorem CA7(g k:Nat->V):dU TP 128 (.agg ((List.range 32).map g++(List.range 32).map k)) (.int .i64 0)=some (.agg ((List.range 32).map g))/\dU TP 128 (.agg ((List.range 32).map g++(List.range 32).map k)) (.int .i64 1)=some (.agg ((List.range 32).map k)):=⟨by kernel_rfl,by kernel_rfl⟩
theorem ixV{x y:Bts}(hx:x.length=32)(hy:y.length=32):dU TP 128 (.agg (bc (x++y))) (.int .i64 0)=some (.agg (bc x))/\dU TP 128 (.agg (bc (x++y))) (.int .i64 1)=some (.agg (bc y)):=by
 obtain⟨g,hg⟩:=Ac3 (l:=bc x) (n:=32) (by rw[Aa7,hx])
 obtain⟨k,hk⟩:=Ac3 (l:=bc y) (n:=32) (by rw[Aa7,hy])
 rw[AZ0,hg,hk];exact CA7 g k
theorem Cl7(hl:∀a b c,(r.v a b c).length=32)(R:Int){j:Nat}(hj:j<2):dU TP 128 (.agg (bc (own r R))) (.int .i64 (j:Int))=some (.agg (bc (dN r.n r.v R (j:Int) r.me))):=by
 have h:=ixV (Ap5 (n:=r.n) hl R 0 r.me) (Ap5 (n:=r.n) hl R 1 r.me)
 match j,hj with
 | 0,_=>exact h.1
 | 1,_=>exact h.2
theorem B37(a b:Int):au TP 48 [(0,.int .i64 4),(1,.int .i64 a),(2,.int .i64 b)]=some (.agg (mc (fc a b []) .ah .ah .ah)):=by kernel_rfl
theorem B38{x:M}{dv iv lv w:V}(h:x.id.length=32):putAt (mc x dv iv lv) 39 [w]=mc x dv w lv:=by
 obtain⟨g,hg⟩:=Ac3 (l:=bc x.id) (n:=32) (by rw[Aa7,h])
 unfold mc;rw[hg];rfl
theorem A71{b:Nat}{x:M}{dv iv lv w:V}(h:A.blk[b]?=some ⟨mc x dv iv lv,.var⟩)(hx:x.id.length=32)(hw:w.one=true):
 ∃A',ag TP 32 (.ptr b 39) w A=some A'/\Fr (·=.row b) A A'/\A'.blk[b]?=some ⟨mc x dv w lv,.var⟩:=by
 obtain⟨A',h1,h2,h3⟩:=Cv3 (t:=32) (o:=39) (w:=w) (cs:=[w]) h hx (Ad5 hw) Cr1 (by simp) (by simp[hw])
 exact⟨A',h1,h2,by rw[h3,B38 hx]⟩
theorem An3{b:Nat}{x y:M}{dv iv lv dv' iv' lv':V}(h:A.blk[b]?=some ⟨mc x dv iv lv,.var⟩)(hx:x.id.length=32)(hy:y.id.length=32)(ho:(mc y dv' iv' lv').all V.one=true):
 ∃A',ag TP 48 (.ptr b 0) (.agg (mc y dv' iv' lv')) A=some A'/\Fr (·=.row b) A A'/\A'.blk[b]?=some ⟨mc y dv' iv' lv',.var⟩:=by
 obtain⟨A',h1,h2,h3⟩:=Cv3 (t:=48) (o:=0) (w:=.agg (mc y dv' iv' lv')) (cs:=mc y dv' iv' lv') h hx rfl (by rw[Am0 hy];exact Br4) (by rw[Am0 hy];omega) ho
 exact⟨A',h1,h2,by rw[h3,Ah3 (by rw[Am0 hx,Am0 hy])]⟩
set_option maxRecDepth 10000 in
set_option maxHeartbeats 32000000 in
theorem Ay9{cb mb mg:Nat}{now:Int}{tv dv:V}{bL:Bool}(hw:WF A)(hR:a4 A rp r cp vb fk fa)(hb:A.blk[cb]?=some ⟨coC rp r.n r.me r.ai now tv dv mb mg bL,.var⟩):
 ∃w A',EvF TP HH 20 [.ptr cb 0] A w A'/\Fr S0 A A'/\∃iv fo,w=.tup [.agg (mc (fc r.me r.ai (cW r)) .ah iv .ah),.bool (decide (0<(cW r).length))]/\Lst eId Hp.emp A' iv (cW r) fo/\∀f,fo=some f->A.blk.length<=f:=by
 have hl:=hR.cnt.len
 refine Aa4 rfl Tryz.func20 (by unfold Tryz.f20;rfl) Tryz.ntmps20 (by unfold Tryz.f20;rfl) (by simp) ?_
 obtain⟨A1,e1,f1,r1,n1⟩:=Aa3 A mcZ
 obtain⟨b2,hb2⟩:∃b,b=A.blk.length:=⟨_,rfl⟩
 rw[<- hb2]at r1 n1
 obtain⟨A2,e2,f2,r2,n2⟩:=Aa3 A1 mcZ
 obtain⟨b4,hb4⟩:∃b,b=A1.blk.length:=⟨_,rfl⟩
 rw[<- hb4]at r2 n2
 have f12:=f1.ab f2
 have hz:(gF:Bts).length=32:=rfl
 have hmZ:mcZ=mc (eU 0) .ah .ah .ah:=rfl
 rw[hmZ]at r2
 obtain⟨A3,s1,s2,s3⟩:=An3 (y:=fc r.me r.ai []) (dv':=.ah) (iv':=.ah) (lv':=.ah) r2 rfl hz (At3 (m:=Hp.emp) ⟨rfl,.inl ⟨rfl,rfl⟩,.inl ⟨rfl,rfl⟩,.inl ⟨rfl,rfl⟩⟩)
 have f13:Fr S0 A A3:=f12.ar s2 (by omega)
 have ld1:=Ap2 (f1.af hb)
 have r1':=s2.row _ _ (f2.af r1) (fun q=>by injection q with q;omega)
 simp only[RT,Q0,Q1,Q2,Q3,Q4,Q5,Q6,Q7,Q8,zcM,<- hb2,<- e1]
 rw[BS9,Aa2 (by rfl)]
 simp only[RT,Q0,Q1,Q2,Q3,Q4,Q5,Q6,Q7,Q8,An0 cb,ld1,B37,zcM,<- hb4,<- e2,s1]
 have hlS:=AF3 r
 refine Aa6 (fun z e B=>∃(R:Nat) (w:V) (fo:Option Nat),z=12-R/\R<=12/\e.get 18=.int .i64 R/\e.get 0=.ptr cb 0/\e.get 2=.ptr b2 0/\e.get 4=.ptr b4 0/\e.get 5=.int .i64 (dL (cy r) (2*R):Int)/\Fr S0 A B/\B.blk[b2]?=some ⟨mcZ,.var⟩/\B.blk[b4]?=some ⟨mc (fc r.me r.ai []) .ah w .ah,.var⟩/\Lst eId Hp.emp B w ((cy r).take (2*R)) fo/\∀f,fo=some f->A.blk.length<=f)
  (fun z e B=>Is z (.exit 0)/\∃(w:V) (fo:Option Nat),e.get 2=.ptr b2 0/\e.get 4=.ptr b4 0/\e.get 5=.int .i64 (dL (cy r) 24:Int)/\Fr S0 A B/\B.blk[b2]?=some ⟨mcZ,.var⟩/\B.blk[b4]?=some ⟨mc (fc r.me r.ai []) .ah w .ah,.var⟩/\Lst eId Hp.emp B w (cy r) fo/\∀f,fo=some f->A.blk.length<=f)
  ⟨_,0,.ah,none,rfl,by omega,rfl,rfl,rfl,rfl,rfl,f13,r1',s3,.nil,fun f q=>by cases q⟩ ?_ ?_
 . rintro z e B ⟨R,w,fo,rfl,hR12,h18,h0,h2,h4,h5,hf,rb2,rb4,hL,hfo⟩
   simp only[RT,Q0,Q1,Q2,Q3,Q4,Q5,Q6,Q7,Q8,h18]
   refine Aa8 (fun q1=>?_) (fun q1=>?_)
   rotate_left
   . have:R=12:=by omega
     subst this
     rw[List.take_of_length_le (by omega)]at hL
     simp only[RT,Q0,Q1,Q2,Q3,Q4,Q5,Q6,Q7,Q8]
     refine⟨rfl,w,fo,?_⟩
     and_intros<;>first |rfl |assumption
   have hRB:=hR.fr0 hf
   obtain⟨_,B1,k1,g1,rfl⟩:=Bu0 (hf.wf hw) hRB (R:Int)
   have ldB:=Ap2 (hf.af hb)
   have hf1:=hf.ab g1
   have wi:IntKind.i64.wrap ((R:Int)+1)=((R+1:Nat):Int):=by rw[Ac2 (by omega)]
   simp only[RT,Q0,Q1,Q2,Q3,Q4,Q5,Q6,Q7,Q8,h18,h0,An0 cb,ldB]
   refine Aa0 k1 ?_
   simp only[RT,Q0,Q1,Q2,Q3,Q4,Q5,Q6,Q7,Q8]
   refine Aa6 (fun z e B=>∃(j:Nat) (w:V) (fo:Option Nat),z=2-j/\j<=2/\e.get 27=.int .i64 j/\e.get 26=.agg (bc (own r R))/\e.get 6=.int .i64 R/\e.get 18=.int .i64 R/\e.get 0=.ptr cb 0/\e.get 2=.ptr b2 0/\e.get 4=.ptr b4 0/\e.get 5=.int .i64 (dL (cy r) (2*R+j):Int)/\Fr S0 A B/\B.blk[b2]?=some ⟨mcZ,.var⟩/\B.blk[b4]?=some ⟨mc (fc r.me r.ai []) .ah w .ah,.var⟩/\Lst eId Hp.emp B w ((cy r).take (2*R+j)) fo/\∀f,fo=some f->A.blk.length<=f)
    (fun z e B=>Is z (.exit 2)/\∃(w:V) (fo:Option Nat),e.get 18=.int .i64 R/\e.get 0=.ptr cb 0/\e.get 2=.ptr b2 0/\e.get 4=.ptr b4 0/\e.get 5=.int .i64 (dL (cy r) (2*(R+1)):Int)/\Fr S0 A B/\B.blk[b2]?=some ⟨mcZ,.var⟩/\B.blk[b4]?=some ⟨mc (fc r.me r.ai []) .ah w .ah,.var⟩/\Lst eId Hp.emp B w ((cy r).take (2*(R+1))) fo/\∀f,fo=some f->A.blk.length<=f)
    ⟨_,0,w,fo,rfl,by omega,rfl,rfl,rfl,h18,h0,h2,h4,h5,hf1,g1.af rb2,g1.af rb4,hL.fr0 g1,hfo⟩ ?_ ?_
   rotate_left
   . clear h18 h0 h2 h4 h5
     rintro z e C hz ⟨rfl,w',fo',h18,h0,h2,h4,h5,hfC,rc2,rc4,hLC,hfoC⟩
     simp only[RT,Q0,Q1,Q2,Q3,Q4,Q5,Q6,Q7,Q8,h18,wi]
     refine⟨12-(R+1),by omega,R+1,w',fo',rfl,by omega,?_⟩
     and_intros<;>first |rfl |assumption
   clear h18 h0 h2 h4 h5 hL hfo
   rintro z e C ⟨j,w',fo',rfl,hj,h27,h26,h6,h18,h0,h2,h4,h5,hfC,rc2,rc4,hL,hfo⟩
   simp only[RT,Q0,Q1,Q2,Q3,Q4,Q5,Q6,Q7,Q8,h27]
   refine Aa8 (fun q2=>?_) (fun q2=>?_)
   rotate_left
   . have:j=2:=by omega
     subst this
     simp only[RT,Q0,Q1,Q2,Q3,Q4,Q5,Q6,Q7,Q8]
     refine⟨rfl,w',fo',?_⟩
     and_intros<;>first |rfl |assumption
   obtain⟨x,hx⟩:∃x,x=dN r.n r.v (R:Int) (j:Int) r.me:=⟨_,rfl⟩
   have hxl:x.length=32:=by rw[hx];exact Ap5 hl _ _ _
   have hat:=Bu3 r (R:=R) (j:=j) (by omega) (by omega)
   have hix:=Cl7 (r:=r) hl (R:Int) (j:=j) (by omega)
   rw[<- hx]at hat hix
   have hls:=AK8 hat
   obtain⟨D,t1,t2,t3⟩:=BX9 (A:=C) x hxl
   obtain⟨b8,hb8⟩:∃b,b=C.blk.length:=⟨_,rfl⟩
   rw[<- hb8]at t1 t3
   have hfD:=hfC.ab t2
   have l1:(cy r).length=24:=hlS
   obtain⟨v4,E,fo2,p1,p2,p3,p4⟩:=(hL.fr0 t2).push (P:=TP) (t:=32) (tx:=32) (n:=32) rfl Cg5 Tryz.underlying32 (hfD.wf hw) (y:=x) (cs':=bc x) ⟨rfl,hxl⟩ (by rw[List.length_take];omega) (by rw[List.length_take];omega)
   rw[<- Ab6 hat]at p2
   have rd4:=t2.af rc4
   have re4:=p3.row _ _ rd4 (Ab0 rd4)
   have re2:=p3.row _ _ (t2.af rc2) (Ab0 (t2.af rc2))
   have re8:=p3.row _ _ t3 (Ab0 t3)
   obtain⟨F,u1,u2,u3⟩:=A71 re4 rfl p2.one
   have hfE:Fr S0 A E:=hfD.eh hw p3 hfo
   have hfF:Fr S0 A F:=hfE.ar u2 (by have:=f1.len;omega)
   have sK:b8≠b4:=by have:=Ab3 rc4;omega
   have rf8:=u2.row _ _ re8 (fun q=>sK (by injection q))
   have rf2:=u2.row _ _ re2 (fun q=>by injection q with q;omega)
   have pF:=p2.fr u2 (.box re4)
   have jM:∀f,fo2=some f->A.blk.length<=f:=fun f q=>by
    rcases p4.or q with y |y
    . exact hfo f y
    . have:=hfD.len;omega
   have wj:IntKind.i64.wrap ((j:Int)+1)=((j+1:Nat):Int):=by rw[Ac2 (by omega)]
   have v1:IntKind.i64.wrap (2*(R:Int))=2*(R:Int):=Ac6 (by omega) (by omega)
   have v2:IntKind.i64.wrap (2*(R:Int)+(j:Int))=2*(R:Int)+(j:Int):=Ac6 (by omega) (by omega)
   have v3:IntKind.i64.wrap (2*(R:Int)+(j:Int)+1)=((2*R+j+1:Nat):Int):=by rw[Ac6 (by omega) (by omega)];omega
   have fa8:ae TP 48 (.ptr b4 0) 8=some (.ptr b4 39):=by kernel_rfl
   have ld4:=ldM rd4 (rfl:(fc r.me r.ai []).id.length=32)
   simp only[RT,Q0,Q1,Q2,Q3,Q4,Q5,Q6,Q7,Q8,h27,h26,hix,Av8,<- hb8,t1,h4,fa8,ld4,ldI t3 hxl,Bt4 hxl,p1,u1,ldI rf8 hxl,Ad8,eqI hxl Aa9]
   rw[show 2*R+j+1=2*R+(j+1) by omega]at hls
   rw[show 2*R+j+1=2*R+(j+1) by omega]at pF v3
   by_cases hz0:x=z32
   . rw[if_pos hz0]at hls
     rw[<- hls]at h5
     simp only[RT,Q0,Q1,Q2,Q3,Q4,Q5,Q6,Q7,Q8,DT hz0,h27,wj]
     refine⟨2-(j+1),by omega,j+1,v4,fo2,rfl,by omega,?_⟩
     and_intros<;>first |rfl |assumption
   . rw[if_neg hz0]at hls
     simp only[RT,Q0,Q1,Q2,Q3,Q4,Q5,Q6,Q7,Q8,DF hz0,h6,v1,v2,v3,h27,wj]
     refine⟨2-(j+1),by omega,j+1,v4,fo2,rfl,by omega,?_⟩
     rw[hls]
     and_intros<;>first |rfl |assumption
 . rintro z e B hz ⟨rfl,w,fo,h2,h4,h5,hf,rb2,rb4,hL,hfo⟩
   have sL:=AC7 (cy r) 24
   obtain⟨iv,t1,t2⟩:=hL.toN (P:=TP) (t:=32) Tryz.underlying32 Ap3 (hi:=dL (cy r) 24) (by omega) (kh:=.i64) B
   have fa8:ae TP 48 (.ptr b4 0) 8=some (.ptr b4 39):=by kernel_rfl
   have ld4:=ldM rb4 (rfl:(fc r.me r.ai []).id.length=32)
   obtain⟨C,u1,u2,u3⟩:=A71 rb4 rfl t2.one
   have ldC4:=ldM u3 (rfl:(fc r.me r.ai []).id.length=32)
   have sM:b2≠b4:=by omega
   have rc2:=u2.row _ _ rb2 (fun q=>sM (by injection q))
   have t3:=t2.fr u2 (.box rb4)
   have hlen:(cW r).length=dL (cy r) 24:=by unfold cW;rw[List.length_take];omega
   obtain⟨D,x1,x2,x3⟩:=An3 (y:=fc r.me r.ai []) (dv':=.ah) (iv':=iv) (lv':=.ah) (x:=eU 0) (dv:=.ah) (iv:=.ah) (lv:=.ah) rc2 rfl rfl (by simp only[mc,List.all_cons,List.all_append,Ac9,t2.one,List.all_nil];rfl)
   simp only[RT,Q0,Q1,Q2,Q3,Q4,Q5,Q6,Q7,Q8,h4,fa8,ld4,h5,t1,u1,ldC4,h2,x1,(ldM x3 (rfl:(fc r.me r.ai []).id.length=32))]
   have fD:Fr S0 A D:=(hf.ar u2 (by have:=f1.len;omega)).ar x2 (by omega)
   rw[hlen]
   have pD:decide ((dL (cy r) 24:Int)>0)=decide (0<dL (cy r) 24):=by simp
   rw[pD,hb2]
   exact⟨fD,iv,fo,rfl,t3.fr x2 (.box rc2),hfo⟩
end
end Go.Sv.Tryz
