/- Cores of agreement, in memory: all but the round; batches. -/
import Derived.Test.YtnikcplcdapjhaaGb
import Derived.Test.YtnikcplcdapjhaaSv4
import Derived.Test.YtnikcplcdapjhaaGa
set_option linter.unusedSimpArgs false
set_option linter.unusedVariables false
open Nat renaming reduceLT → Q0, reduceBEq → Q1, reduceEqDiff → Q2, reduceAdd → Q3
open Int renaming reduceEq → Q4, reduceLT → Q5, reduceLE → Q6, reduceGT → Q7, reduceGE → Q8
namespace Go.Sv
open Go
abbrev Idb:={x:Bts // x.length=32}
def encB (p:Idb):V:=V.agg (bc p.1)
def encW (n:Int):V:=V.int .i64 n
theorem BS0 {P:Program} {kt:TypeId} (hs:shapeT P 50 kt=some (List.replicate 32 (.int .u8))) (ha:aggT P kt=some true):KeyT P kt encB where
 ok:=fun k es h=>by
  have fb:∀ p:Idb,fitsAll (List.replicate 32 (.int .u8)) (bc p.1)=true:=fun p=>by have:=As8 p.1;rwa [p.2]at this
  unfold keyOk
  simp only [hs,ha,encB]
  rw [Bool.and_eq_true,Bool.and_eq_true]
  refine ⟨⟨fb k,AA1 fun e he=>?_⟩,List.all_eq_true.2 fun e he=>?_⟩
  . obtain ⟨a,q⟩:=h e he;rw [q];exact fb a
  . obtain ⟨a,q⟩:=h e he;rw [q];rfl
 eq:=fun a b=>by
  show eqFlats (bc a.1) (bc b.1)=_
  rw [Ap8 a.1 b.1 (by rw [a.2,b.2])]
  by_cases q:a.1=b.1
  . rw [decide_eq_true q,decide_eq_true (Subtype.ext q)]
  . rw [decide_eq_false q,decide_eq_false (fun z=>q (congrArg Subtype.val z))]
abbrev BatL:=List (Idb×(V×Bts))
def batM (bl:BatL):List (Bts×Bts):=bl.map fun p=>(p.1.1,p.2.2)
theorem AM8 (k:Idb):∀ bl:BatL,lookL (batM bl) k.1=(lookL bl k).map (·.2)
 | []=>rfl
 | (a,v,x)::bl=>by
  have ih:=AM8 k bl
  show lookL ((a.1,x)::batM bl) k.1=_
  unfold lookL
  by_cases q:k=a
  . rw [if_pos q,if_pos (congrArg Subtype.val q)];rfl
  . rw [if_neg q,if_neg (fun z=>q (Subtype.ext z))];exact ih
def haveB (l:List (Bts×Bts)) (b:Bts):List (Bts×Bts):=match lookL l (batchI b) with
 | some _=>l
 | none=>l++[(batchI b,b)]
end Go.Sv
namespace Go.Sv.Try
open Go Go.Proofs
structure CoM (X:Nat->Prop) (A:AS) (cb rp mb mg:Nat) (c:Co) (ft:Option Nat):Prop where
 ex:∃ (tv dv:V) (bl:BatL),A.blk[cb]?=some ⟨coC rp c.rd.n c.rd.me c.rd.height c.now tv dv mb mg c.over,.var⟩/\Lst eDue Hp.emp A tv c.tim ft/\MapIs A mb encB Prod.fst bl/\c.bat=batM bl/\(∀ p∈bl,Slc eU8 (qHp X A) p.2.1 p.2.2/\p.2.1≠.snil)/\Slc eU8 (qHp X A) dv c.done
 gv:MapIs A mg encW V.bool (c.gave.map fun w=>(w,true))
 mm:mb≠mg
section
variable {X Y:Nat->Prop} {A B C:AS} {cb rp mb mg:Nat} {c:Co} {ft:Option Nat}
theorem CoM.fr {S:Loc->Prop} (h:CoM X A cb rp mb mg c ft) (hf:Fr S A B) (h1:¬ S (.row cb)) (h2:¬ S (.map mb)) (h3:¬ S (.map mg)) (h4:Off ft A S) (hq:(qHp X A).le (qHp Y B)):CoM Y B cb rp mb mg c ft:=by
 obtain ⟨tv,dv,bl,b1,b2,b3,b4,b5,b6⟩:=h.ex
 exact ⟨⟨tv,dv,bl,hf.row _ _ b1 h1,b2.fr hf h4,b3.fr hf h2,b4,fun p q=>⟨(b5 p q).1.mono hq,(b5 p q).2⟩,b6.mono hq⟩,h.gv.fr hf h3,h.mm⟩
theorem CoM.fr0 (h:CoM X A cb rp mb mg c ft) (hf:Fr S0 A B):CoM X B cb rp mb mg c ft:=h.fr hf (fun q=>q) (fun q=>q) (fun q=>q) .s0 (Ad8 hf)
theorem BB2:mapT Try.prog 71=some (23,24):=by kernel_rfl
theorem B53:KeyT Try.prog 23 encB:=BS0 (by kernel_rfl) AX5
theorem Cc4:zeroT Try.prog 24=some .snil:=by kernel_rfl
theorem Bo6:bsl Try.prog 24 0 (some [])=some (.newSl [] 0 1):=by kernel_rfl
set_option maxRecDepth 10000 in
set_option maxHeartbeats 8000000 in
theorem Be4 {m:Hp} {v:V} {b:Bts} (hw:WF A) (h:CoM X A cb rp mb mg c ft) (hX:∀ f,X f->f < A.blk.length) (hm:m.on A) (hv:Slc eU8 m v b) (hb:b.length<=1000000000) :
 ∃ w A',EvF Try.prog HH 42 [.ptr cb 0,v] A w A'/\Fr (·=.map mb) A A'/\w=.agg (bc (batchI b))/\CoM X A' cb rp mb mg { c with bat:=haveB c.bat b } ft:=by
 refine Aa4 rfl Try.func42 (by unfold Try.f42;rfl) Try.ntmps42 (by unfold Try.f42;rfl) (by simp) ?_
 have hil:=Ad6 b
 obtain ⟨A1,e1,f1,r1,n1⟩:=Aa9 A (bc z32s)
 obtain ⟨b4,hb4⟩:∃ b,b=A.blk.length:=⟨_,rfl⟩
 rw [<- hb4]at r1 n1
 obtain ⟨_,A2,k2,f2,rfl⟩:=Ay2 (f1.wf hw) (hm.fr0 f1) hv hb
 have f12:=f1.then0 f2
 obtain ⟨A3,s1,f3,r3⟩:=BR3 (A:=A2) (batchI b) hil
 obtain ⟨b5,hb5⟩:∃ b,b=A2.blk.length:=⟨_,rfl⟩
 rw [<- hb5]at s1 r3
 have f13:=f12.then0 f3
 have w3:=f13.wf hw
 have h3:=h.fr0 f13
 obtain ⟨tv,dv,bl,x1,x2,x3,x4,x5,x6⟩:=h3.ex
 have x4:c.bat=batM bl:=x4
 have ld:=Aq0 x1
 obtain ⟨key,hkey⟩:∃ k:Idb,k=⟨batchI b,hil⟩:=⟨_,rfl⟩
 have hlk:=AM8 key bl
 rw [<- x4]at hlk
 have hk1:key.1=batchI b:=by rw [hkey]
 rw [hk1]at hlk
 have lk:=x3.look (P:=Try.prog) B53 BB2 Cc4 key true
 have henc:encB key=.agg (bc (batchI b)):=by unfold encB;rw [hk1]
 rw [henc]at lk
 have r1':=f3.row0 (f2.row0 r1)
 cases hq:lookL bl key with
 | some y =>
  rw [hq]at lk hlk
  have hhv:haveB c.bat b=c.bat:=by unfold haveB;rw [hlk];rfl
  obtain ⟨A4,u1,u2,u3⟩:=BR2 r1' (by simp [z32s]) hil
  simp only [RT,Q0,Q1,Q2,Q3,Q4,Q5,Q6,Q7,Q8,Bb8,<- hb4,<- e1]
  refine Aa0 k2 ?_
  simp only [RT,Q0,Q1,Q2,Q3,Q4,Q5,Q6,Q7,Q8,Bb8,<- hb5,s1]
  rw [Bm1,Aa2 (by rfl)]
  simp only [RT,Q0,Q1,Q2,Q3,Q4,Q5,Q6,Q7,Q8,Ao4 cb,ld,ldI r3 hil,lk,Ao0,u1,ldI u3 hil]
  rw [hhv]
  have fA4:Fr S0 A A4:=f13.row_ u2 (by omega)
  exact ⟨fA4.mono fun z q=>q.elim,h.fr0 fA4⟩
 | none =>
  rw [hq]at lk hlk
  have hhv:haveB c.bat b=c.bat++[(batchI b,b)]:=by unfold haveB;rw [hlk];rfl
  obtain ⟨c',B,y1,y2,y3,y4,y5⟩:=At0 (P:=Try.prog) (t:=24) (tx:=24) w3 B24 Try.underlying24 hv (hm.fr0 f13) (by omega) (by omega)
  have h4:=h3.fr0 y5
  have x3B:=x3.fr y5 (fun q=>q)
  have ldB:=Aq0 (y5.row0 x1)
  have r3B:=y5.row0 r3
  obtain ⟨D,t1,t2,t3⟩:=x3B.put (P:=Try.prog) B53 BB2 (k:=key) (V.sl c' 0 b.length 1,b) hq
  rw [henc]at t1
  have t1:evMapUpdate Try.prog 71 (.map mb) (.agg (bc (batchI b))) (.sl c' 0 b.length 1) B=some D:=t1
  have fAB:Fr S0 A B:=f13.then0 y5
  obtain ⟨E,u1,u2,u3⟩:=BR2 (t2.row _ _ (y5.row0 r1') (fun q=>by cases q)) (by simp [z32s]) hil
  simp only [RT,Q0,Q1,Q2,Q3,Q4,Q5,Q6,Q7,Q8,Bb8,<- hb4,<- e1]
  refine Aa0 k2 ?_
  simp only [RT,Q0,Q1,Q2,Q3,Q4,Q5,Q6,Q7,Q8,Bb8,<- hb5,s1]
  rw [Bm1,Aa2 (by rfl)]
  simp only [RT,Q0,Q1,Q2,Q3,Q4,Q5,Q6,Q7,Q8,Ao4 cb,ld,ldI r3 hil,lk,Ao0]
  simp only [RT,Q0,Q1,Q2,Q3,Q4,Q5,Q6,Q7,Q8,BL5,Aa1,Ao4 cb,ld,ldI r3 hil,Bo6,y1]
  refine ⟨Aa3 (ha:=rfl) rfl ldB.2.2.2.2.2.2.1 rfl (Aa3 (ha:=rfl) rfl (ldI r3B hil) rfl Aa1),?_⟩
  have r3D:=t2.row _ _ r3B (fun q=>by cases q)
  have hcb:cb < A.blk.length:=by
   obtain ⟨_,_,_,z,_⟩:=h.ex
   exact Ac3 z
  have l23:=(f2.then0 f3).len
  have hne1:c'≠b4:=by omega
  have hne2:cb≠b4:=by omega
  have wB:=fAB.wf hw
  have wD:=t2.wf wB
  have r1B:=y5.row0 r1'
  have r1D:=t2.row _ _ r1B (fun q=>by cases q)
  have l13:=f13.len
  have q1:(qHp X B).le (qHp X D):=Al7 t2 (fun b k z=>by cases z) wB fun f q=>.inl q
  have q2:(qHp X D).le (qHp X E):=Al7 u2 (fun b k z y=>by cases z;rw [r1D]at y;cases y;exact .inl rfl) wD fun f q=>.inl q
  have q3:(qHp X A3).le (qHp X E):=Hp.le_trans (Ad8 y5) (Hp.le_trans q1 q2)
  have yE:=u2.row _ _ (t2.row _ _ y2 (fun q=>by cases q)) (fun q=>hne1 (by injection q))
  have hnX:¬ X A3.blk.length:=fun q=>by have:=hX _ q;omega
  have hfin:CoM X E cb rp mb mg { c with bat:=haveB c.bat b } ft:=by
   rw [hhv]
   refine ⟨⟨tv,dv,bl++[(key,(V.sl c' 0 b.length 1,b))],u2.row _ _ (t2.row _ _ (y5.row0 x1) (fun q=>by cases q)) (fun q=>hne2 (by injection q)),?_,t3.fr u2 (fun q=>by cases q),?_,fun p q=>?_,x6.mono q3⟩,?_,h.mm⟩
   . exact ((x2.fr0 y5).fr t2 (fun b z=>by cases z)).fr u2 (.box r1D)
   . show c.bat ++ [(batchI b, b)] = _
     rw [x4];unfold batM;rw [List.map_append,List.map_singleton,hk1]
   . rcases List.mem_append.1 q with q | q
     . exact ⟨(x5 p q).1.mono q3,(x5 p q).2⟩
     . rw [List.mem_singleton.1 q]
       exact ⟨Be2 (Al1 yE hnX) rfl,fun z=>by cases z⟩
   . exact MapIs.fr (MapIs.fr (MapIs.fr h3.gv y5 (fun q=>q)) t2 (fun q=>by cases q;exact h.mm rfl)) u2 (fun q=>by cases q)
  simp only [RT,Q0,Q1,Q2,Q3,Q4,Q5,Q6,Q7,Q8,t1,ldI r3D hil,u1,ldI u3 hil,Aa1]
  refine ⟨((fAB.mono fun z q=>q.elim).trans t2 fun z q=>.inl q).trans u2 fun z q=>.inr (by subst q;show A.blk.length<=b4;omega),hfin⟩
end
end Go.Sv.Try
namespace Go.Sv.Try
open Go Go.Proofs
end Go.Sv.Try
namespace Go.Sv.Try
open Go Go.Proofs
abbrev mcZ:List V:=mc (msg0 0) .snil .snil .snil
theorem zcM:(zeroT Try.prog 28).bind V.cells=some mcZ:=by kernel_rfl
abbrev ptrs (b:Nat):List V:=[.ptr b 1,.ptr b 2,.ptr b 3,.ptr b 4,.ptr b 5]
theorem Cc5 {A:AS} {b o:Nat} {x:M} {dv iv lv:V} {t:TypeId} {w:V} {cs:List V} (h:A.blk[b]?=some ⟨mc x dv iv lv,.var⟩) (hx:x.id.length=32) (hw:w.cells=some cs) (hs:szT Try.prog t=some cs.length) (ho:o+cs.length<=41) (h1:cs.all V.one=true) :
 ∃ A',evStore Try.prog t (.ptr b o) w A=some A'/\Fr (·=.row b) A A'/\A'.blk[b]?=some ⟨putAt (mc x dv iv lv) o cs,.var⟩:=by
 obtain ⟨A',h1,h2,h3,_⟩:=Ac0 (P:=Try.prog) (t:=t) (o:=o) (x:=w) h hw hs (by rw [Ai6 hx];exact ho) h1
 exact ⟨A',h1,h2,h3⟩
structure CB (N b2 b5 b6 br bm:Nat) (m:Hp) (B:AS):Prop where
 r2:B.blk[b2]?=some ⟨mcZ,.var⟩
 r5:B.blk[b5]?=some ⟨[.ptr br 0],.var⟩
 r6:B.blk[b6]?=some ⟨ptrs bm,.var⟩
 on:m.on B
 wf:WF B
 len:N<=B.blk.length
theorem CB.fr {N b2 b5 b6 br bm:Nat} {m:Hp} {S:Loc->Prop} {B C:AS} (h:CB N b2 b5 b6 br bm m B) (hf:Fr S B C) (h1:∀ b,S (.row b)->b≠b2/\b≠b5/\b≠b6/\m b=none):CB N b2 b5 b6 br bm m C :=
 ⟨hf.row _ _ h.r2 fun q=>(h1 _ q).1 rfl,hf.row _ _ h.r5 fun q=>(h1 _ q).2.1 rfl,hf.row _ _ h.r6 fun q=>(h1 _ q).2.2.1 rfl,h.on.fr hf fun b q=>(h1 b q).2.2.2,hf.wf h.wf,by have:=hf.len;have:=h.len;omega⟩
def RdJ (N bm br:Nat) (k:Int) (xs:List (Nat×Bts)) (i:Nat) (B:AS):Prop:=∃ (M:Go.Sv.M) (dv iv lv:V),B.blk[bm]?=some ⟨mc M dv iv lv,.var⟩/\(∃ cs,B.blk[br]?=some ⟨cs,.var⟩)/\putAll (msg0 k) (xs.take i)=.ok M/\MsgIn (arrHq N B) M dv iv lv /\
 ∀ f,xs[i]?=some f->(f.1<=8->iv=.snil/\M.ids=[])/\lv=.snil/\M.list=[]
def RdE (N bm br:Nat) (k:Int) (s:Bts) (B:AS):Prop:=(∃ rv c,c≠0/\B.blk[br]?=some ⟨[rv,.int .i64 c],.var⟩/\restM (msg0 k) 0 s=.error c/\∃ (M:Go.Sv.M) (dv iv lv:V),B.blk[bm]?=some ⟨mc M dv iv lv,.var⟩/\M.id.length=32) ∨
 ∃ (rv:V) (M:Go.Sv.M) (dv iv lv:V),B.blk[br]?=some ⟨[rv,.int .i64 0],.var⟩/\restM (msg0 k) 0 s=.ok M/\B.blk[bm]?=some ⟨mc M dv iv lv,.var⟩/\MsgIn (arrHq N B) M dv iv lv
theorem RdJ.fr {N bm br:Nat} {k:Int} {xs:List (Nat×Bts)} {i:Nat} {S:Loc->Prop} {B C:AS} (h:RdJ N bm br k xs i B) (hf:Fr S B C) (h1:∀ b,S (.row b)->b=br) (hne:bm≠br):RdJ N bm br k xs i C:=by
 obtain ⟨M,dv,iv,lv,q1,⟨cs,q2⟩,q3,q4,q5⟩:=h
 obtain ⟨cs',z1,_⟩:=hf.kind br _ q2
 exact ⟨M,dv,iv,lv,hf.row _ _ q1 fun z=>hne (h1 _ z),⟨cs',z1⟩,q3,q4.mono (A64 hf fun b z=>by rw [h1 b z];exact Bl7 q2),q5⟩
theorem RdE.fr {N bm br:Nat} {k:Int} {s:Bts} {S:Loc->Prop} {B C:AS} (h:RdE N bm br k s B) (hf:Fr S B C) (h1:∀ b,¬ S (.row b)):RdE N bm br k s C:=by
 rcases h with ⟨rv,c,q1,q2,q3,M,dv,iv,lv,q4,q5⟩ | ⟨rv,M,dv,iv,lv,q1,q2,q3,q4⟩
 . exact .inl ⟨rv,c,q1,hf.row _ _ q2 (h1 _),q3,M,dv,iv,lv,hf.row _ _ q4 (h1 _),q5⟩
 . exact .inr ⟨rv,M,dv,iv,lv,hf.row _ _ q1 (h1 _),q2,hf.row _ _ q3 (h1 _),q4.mono (A64 hf fun b z=>absurd z (h1 b))⟩
theorem RdJ.step {N bm br:Nat} {k:Int} {s:Bts} {i:Nat} {f:Nat×Bts} {C:AS} {M M':Go.Sv.M} {iv lv dv' iv' lv':V} (hi:(items 0 s).1[i]?=some f) (h3:putAll (msg0 k) ((items 0 s).1.take i)=.ok M)
 (h5:(f.1<=8->iv=.snil/\M.ids=[])/\lv=.snil/\M.list=[]) (hp:putM M f.1 f.2=.ok M') (hc:C.blk[bm]?=some ⟨mc M' dv' iv' lv',.var⟩) (hbr:∃ cs,C.blk[br]?=some ⟨cs,.var⟩) (hM:MsgIn (arrHq N C) M' dv' iv' lv')
 (hiv:f.1 < 8->iv'=iv/\M'.ids=M.ids) (hlv:f.1 < 9->lv'=lv/\M'.list=M.list):RdJ N bm br k (items 0 s).1 (i+1) C:=by
 refine ⟨M',dv',iv',lv',hc,hbr,AY5 h3 hi hp,hM,fun g hg=>?_⟩
 have h1:=A77 s.length s 0 i f g (Nat.le_refl _) hi hg
 have h2:=A37 s.length s 0 (Nat.le_refl _) g (List.mem_of_getElem? hg)
 refine ⟨fun q=>?_,?_⟩
 . obtain ⟨z1, z2⟩ := hiv (by omega)
   obtain ⟨z3,z4⟩:=h5.1 (by omega)
   exact ⟨z1.trans z3,z2.trans z4⟩
 . obtain ⟨z1, z2⟩ := hlv (by omega)
   exact ⟨z1.trans h5.2.1,z2.trans h5.2.2⟩
end Go.Sv.Try
namespace Go.Sv.Try
open Go Go.Proofs
end Go.Sv.Try
namespace Go.Sv.Try
open Go Go.Proofs
end Go.Sv.Try
namespace Go.Sv.Try
open Go Go.Proofs
end Go.Sv.Try
namespace Go.Sv.Try
open Go Go.Proofs
end Go.Sv.Try
namespace Go.Sv.Try
open Go Go.Proofs
theorem M.ext' {x y:Go.Sv.M} (h0:x.kind=y.kind) (h1:x.who=y.who) (h2:x.height=y.height) (h3:x.round=y.round) (h4:x.valid=y.valid) (h5:x.num=y.num) (h6:x.id=y.id) (h7:x.data=y.data) (h8:x.ids=y.ids) (h9:x.list=y.list):x=y:=by
 cases x;cases y;simp at h0 h1 h2 h3 h4 h5 h6 h7 h8 h9;simp [*]
end Go.Sv.Try
namespace Go.Sv
open Go
end Go.Sv
namespace Go.Sv.Try
open Go Go.Proofs
theorem Ay3 {A:AS} {x:Go.Sv.M} {dv iv lv:V} {m:Hp} (h:MsgIn m x dv iv lv):∃ A',evStore Try.prog 28 (.ptr A.blk.length 0) (.agg (mc x dv iv lv)) (A.push ⟨mcZ,.var⟩)=some A'/\Fr S0 A A'/\A'.blk[A.blk.length]?=some ⟨mc x dv iv lv,.var⟩:=by
 obtain ⟨A2,s1,s2,s3,s4⟩:=Ai4 (P:=Try.prog) A (z:=mcZ) (t:=28) (x:=.agg (mc x dv iv lv)) (cs:=mc x dv iv lv) rfl (by rw [Ai6 h.id];exact Bm9) (by rw [Ai6 h.id];rfl) (AI6 h)
 exact ⟨A2,s1,s2,s3⟩
end Go.Sv.Try
namespace Go.Sv
open Go
def stAll (r:Rd):List Bts:=(List.range 24).map fun i=>getV r.n r.v ((i / 2:Nat):Int) ((i % 2:Nat):Int) r.me
def msgS (me:Int) (h:Int) (ids:List Bts):M:=⟨4,me,h,0,0,0,zero32,[],ids,[]⟩
def lastN (l:List Bts):Nat->Nat
 | 0=>0
 | k+1=>match l[k]? with
  | some x=>if x=z32 then lastN l k else k+1
  | none=>lastN l k
def stIds (r:Rd):List Bts:=(stAll r).take (lastN (stAll r) 24)
theorem Be5 (r:Rd):(stAll r).length=24:=by unfold stAll;simp
theorem Bo7 (r:Rd) {R j:Nat} (hR:R < 12) (hj:j < 2):(stAll r)[2 * R+j]?=some (getV r.n r.v (R:Int) (j:Int) r.me):=by
 unfold stAll
 rw [List.getElem?_map,List.getElem?_range (by omega),Option.map_some,show (2 * R+j) / 2=R by omega,show (2 * R+j) % 2=j by omega]
theorem AM9 (l:List Bts):∀ k,lastN l k<=k
 | 0=>Nat.le_refl _
 | k+1=>by
  have:=AM9 l k
  unfold lastN
  split
  . split <;> omega
  . omega
theorem A86 {l:List Bts} {k:Nat} {x:Bts} (h:l[k]?=some x):lastN l (k+1)=if x=z32 then lastN l k else k+1:=by
 conv=>lhs;unfold lastN
 rw [h]
end Go.Sv
namespace Go.Sv.Try
open Go Go.Proofs
section
variable {A B C:AS} {rp cp:Nat} {r r':Rd} {vb:Nat->Nat} {fk fa:Option Nat}
theorem Cg0 (g k:Nat->V):evIndex Try.prog 81 (.agg ((List.range 32).map g++(List.range 32).map k)) (.int .i64 0)=some (.agg ((List.range 32).map g))/\evIndex Try.prog 81 (.agg ((List.range 32).map g++(List.range 32).map k)) (.int .i64 1)=some (.agg ((List.range 32).map k)):=⟨by kernel_rfl,by kernel_rfl⟩
theorem ixV {x y:Bts} (hx:x.length=32) (hy:y.length=32):evIndex Try.prog 81 (.agg (bc (x++y))) (.int .i64 0)=some (.agg (bc x))/\evIndex Try.prog 81 (.agg (bc (x++y))) (.int .i64 1)=some (.agg (bc y)):=by
 obtain ⟨g,hg⟩:=Ac9 (l:=bc x) (n:=32) (by rw [Aa5,hx])
 obtain ⟨k,hk⟩:=Ac9 (l:=bc y) (n:=32) (by rw [Aa5,hy])
 rw [BA1,hg,hk];exact Cg0 g k
theorem B54 (hl:∀ a b c,(r.v a b c).length=32) (R:Int) {j:Nat} (hj:j < 2):evIndex Try.prog 81 (.agg (bc (own r R))) (.int .i64 (j:Int))=some (.agg (bc (getV r.n r.v R (j:Int) r.me))):=by
 have h:=ixV (Ao7 (n:=r.n) hl R 0 r.me) (Ao7 (n:=r.n) hl R 1 r.me)
 match j,hj with
 | 0,_=>exact h.1
 | 1,_=>exact h.2
theorem B55 (a b:Int):evBuild Try.prog 28 [(0,.int .i64 4),(1,.int .i64 a),(2,.int .i64 b)]=some (.agg (mc (msgS a b []) .snil .snil .snil)):=by kernel_rfl
theorem BS1 {x:M} {dv iv lv w:V} (h:x.id.length=32):putAt (mc x dv iv lv) 39 [w]=mc x dv w lv:=by
 obtain ⟨g,hg⟩:=Ac9 (l:=bc x.id) (n:=32) (by rw [Aa5,h])
 unfold mc;rw [hg];rfl
theorem Bz2 {b:Nat} {x:M} {dv iv lv w:V} (h:A.blk[b]?=some ⟨mc x dv iv lv,.var⟩) (hx:x.id.length=32) (hw:w.one=true) :
 ∃ A',evStore Try.prog 25 (.ptr b 39) w A=some A'/\Fr (·=.row b) A A'/\A'.blk[b]?=some ⟨mc x dv w lv,.var⟩:=by
 obtain ⟨A',h1,h2,h3⟩:=Cc5 (t:=25) (o:=39) (w:=w) (cs:=[w]) h hx (one_cells hw) Cd2 (by simp) (by simp [hw])
 exact ⟨A',h1,h2,by rw [h3,BS1 hx]⟩
theorem AS0 {b:Nat} {x y:M} {dv iv lv dv' iv' lv':V} (h:A.blk[b]?=some ⟨mc x dv iv lv,.var⟩) (hx:x.id.length=32) (hy:y.id.length=32) (ho:(mc y dv' iv' lv').all V.one=true) :
 ∃ A',evStore Try.prog 28 (.ptr b 0) (.agg (mc y dv' iv' lv')) A=some A'/\Fr (·=.row b) A A'/\A'.blk[b]?=some ⟨mc y dv' iv' lv',.var⟩:=by
 obtain ⟨A',h1,h2,h3⟩:=Cc5 (t:=28) (o:=0) (w:=.agg (mc y dv' iv' lv')) (cs:=mc y dv' iv' lv') h hx rfl (by rw [Ai6 hy];exact Bm9) (by rw [Ai6 hy];omega) ho
 exact ⟨A',h1,h2,by rw [h3,Ag5 (by rw [Ai6 hx,Ai6 hy])]⟩
set_option maxRecDepth 10000 in
set_option maxHeartbeats 32000000 in
theorem AI9 {cb mb mg:Nat} {now:Int} {tv dv:V} {over:Bool} (hw:WF A) (hR:IsRd A rp r cp vb fk fa) (hb:A.blk[cb]?=some ⟨coC rp r.n r.me r.height now tv dv mb mg over,.var⟩) :
 ∃ w A',EvF Try.prog HH 9 [.ptr cb 0] A w A'/\Fr S0 A A'/\∃ iv fo,w=.tup [.agg (mc (msgS r.me r.height (stIds r)) .snil iv .snil),.bool (decide (0 < (stIds r).length))]/\Lst eId Hp.emp A' iv (stIds r) fo/\∀ f,fo=some f->A.blk.length<=f:=by
 have hl:=hR.cnt.len
 refine Aa4 rfl Try.func9 (by unfold Try.f9;rfl) Try.ntmps9 (by unfold Try.f9;rfl) (by simp) ?_
 obtain ⟨A1,e1,f1,r1,n1⟩:=Aa9 A mcZ
 obtain ⟨b2,hb2⟩:∃ b,b=A.blk.length:=⟨_,rfl⟩
 rw [<- hb2]at r1 n1
 obtain ⟨A2,e2,f2,r2,n2⟩:=Aa9 A1 mcZ
 obtain ⟨b4,hb4⟩:∃ b,b=A1.blk.length:=⟨_,rfl⟩
 rw [<- hb4]at r2 n2
 have f12:=f1.then0 f2
 have hz:(zero32:Bts).length=32:=rfl
 have hmZ:mcZ=mc (msg0 0) .snil .snil .snil:=rfl
 rw [hmZ]at r2
 obtain ⟨A3,s1,s2,s3⟩:=AS0 (y:=msgS r.me r.height []) (dv':=.snil) (iv':=.snil) (lv':=.snil) r2 rfl hz (AI6 (m:=Hp.emp) ⟨rfl,.inl ⟨rfl,rfl⟩,.inl ⟨rfl,rfl⟩,.inl ⟨rfl,rfl⟩⟩)
 have f13:Fr S0 A A3:=f12.row_ s2 (by omega)
 have ld1:=Aq0 (f1.row0 hb)
 have r1':=s2.row _ _ (f2.row0 r1) (fun q=>by injection q with q;omega)
 simp only [RT,Q0,Q1,Q2,Q3,Q4,Q5,Q6,Q7,Q8,zcM,<- hb2,<- e1]
 rw [B04,Aa2 (by rfl)]
 simp only [RT,Q0,Q1,Q2,Q3,Q4,Q5,Q6,Q7,Q8,Ao4 cb,ld1,B55,zcM,<- hb4,<- e2,s1]
 have hlS:=Be5 r
 refine Aa6 (fun z e B=>∃ (R:Nat) (w:V) (fo:Option Nat),z=12 - R/\R<=12/\e.get 18=.int .i64 R/\e.get 0=.ptr cb 0/\e.get 2=.ptr b2 0/\e.get 4=.ptr b4 0/\e.get 5=.int .i64 (lastN (stAll r) (2 * R):Int)/\Fr S0 A B/\B.blk[b2]?=some ⟨mcZ,.var⟩/\B.blk[b4]?=some ⟨mc (msgS r.me r.height []) .snil w .snil,.var⟩/\Lst eId Hp.emp B w ((stAll r).take (2 * R)) fo/\∀ f,fo=some f->A.blk.length<=f)
  (fun z e B=>Is z (.exit 0)/\∃ (w:V) (fo:Option Nat),e.get 2=.ptr b2 0/\e.get 4=.ptr b4 0/\e.get 5=.int .i64 (lastN (stAll r) 24:Int)/\Fr S0 A B/\B.blk[b2]?=some ⟨mcZ,.var⟩/\B.blk[b4]?=some ⟨mc (msgS r.me r.height []) .snil w .snil,.var⟩/\Lst eId Hp.emp B w (stAll r) fo/\∀ f,fo=some f->A.blk.length<=f)
  ⟨_,0,.snil,none,rfl,by omega,rfl,rfl,rfl,rfl,rfl,f13,r1',s3,.nil,fun f q=>by cases q⟩ ?_ ?_
 . rintro z e B ⟨R, w, fo, rfl, hR12, h18, h0, h2, h4, h5, hf, rb2, rb4, hL, hfo⟩
   simp only [RT,Q0,Q1,Q2,Q3,Q4,Q5,Q6,Q7,Q8,h18]
   refine Aa7 (fun q1=>?_) (fun q1=>?_)
   rotate_left
   . have : R = 12 := by omega
     subst this
     rw [List.take_of_length_le (by omega)]at hL
     simp only [RT,Q0,Q1,Q2,Q3,Q4,Q5,Q6,Q7,Q8]
     refine ⟨rfl,w,fo,?_⟩
     and_intros <;> first | rfl | assumption
   have hRB:=hR.fr0 hf
   obtain ⟨_,B1,k1,g1,rfl⟩:=Bo5 (hf.wf hw) hRB (R:Int)
   have ldB:=Aq0 (hf.row0 hb)
   have hf1:=hf.then0 g1
   have wi:IntKind.i64.wrap ((R:Int)+1)=((R+1:Nat):Int):=by rw [Ae4 (by omega)]
   simp only [RT,Q0,Q1,Q2,Q3,Q4,Q5,Q6,Q7,Q8,h18,h0,Ao4 cb,ldB]
   refine Aa0 k1 ?_
   simp only [RT,Q0,Q1,Q2,Q3,Q4,Q5,Q6,Q7,Q8]
   refine Aa6 (fun z e B=>∃ (j:Nat) (w:V) (fo:Option Nat),z=2 - j/\j<=2/\e.get 27=.int .i64 j/\e.get 26=.agg (bc (own r R))/\e.get 6=.int .i64 R/\e.get 18=.int .i64 R/\e.get 0=.ptr cb 0/\e.get 2=.ptr b2 0/\e.get 4=.ptr b4 0/\e.get 5=.int .i64 (lastN (stAll r) (2 * R+j):Int)/\Fr S0 A B/\B.blk[b2]?=some ⟨mcZ,.var⟩/\B.blk[b4]?=some ⟨mc (msgS r.me r.height []) .snil w .snil,.var⟩/\Lst eId Hp.emp B w ((stAll r).take (2 * R+j)) fo/\∀ f,fo=some f->A.blk.length<=f)
    (fun z e B=>Is z (.exit 2)/\∃ (w:V) (fo:Option Nat),e.get 18=.int .i64 R/\e.get 0=.ptr cb 0/\e.get 2=.ptr b2 0/\e.get 4=.ptr b4 0/\e.get 5=.int .i64 (lastN (stAll r) (2 * (R+1)):Int)/\Fr S0 A B/\B.blk[b2]?=some ⟨mcZ,.var⟩/\B.blk[b4]?=some ⟨mc (msgS r.me r.height []) .snil w .snil,.var⟩/\Lst eId Hp.emp B w ((stAll r).take (2 * (R+1))) fo/\∀ f,fo=some f->A.blk.length<=f)
    ⟨_,0,w,fo,rfl,by omega,rfl,rfl,rfl,h18,h0,h2,h4,h5,hf1,g1.row0 rb2,g1.row0 rb4,hL.fr0 g1,hfo⟩ ?_ ?_
   rotate_left
   . clear h18 h0 h2 h4 h5
     rintro z e C hz ⟨rfl,w',fo',h18,h0,h2,h4,h5,hfC,rc2,rc4,hLC,hfoC⟩
     simp only [RT,Q0,Q1,Q2,Q3,Q4,Q5,Q6,Q7,Q8,h18,wi]
     refine ⟨12 - (R+1),by omega,R+1,w',fo',rfl,by omega,?_⟩
     and_intros <;> first | rfl | assumption
   clear h18 h0 h2 h4 h5 hL hfo
   rintro z e C ⟨j,w',fo',rfl,hj,h27,h26,h6,h18,h0,h2,h4,h5,hfC,rc2,rc4,hL,hfo⟩
   simp only [RT,Q0,Q1,Q2,Q3,Q4,Q5,Q6,Q7,Q8,h27]
   refine Aa7 (fun q2=>?_) (fun q2=>?_)
   rotate_left
   . have : j = 2 := by omega
     subst this
     simp only [RT,Q0,Q1,Q2,Q3,Q4,Q5,Q6,Q7,Q8]
     refine ⟨rfl,w',fo',?_⟩
     and_intros <;> first | rfl | assumption
   obtain ⟨x,hx⟩:∃ x,x=getV r.n r.v (R:Int) (j:Int) r.me:=⟨_,rfl⟩
   have hxl:x.length=32:=by rw [hx];exact Ao7 hl _ _ _
   have hat:=Bo7 r (R:=R) (j:=j) (by omega) (by omega)
   have hix:=B54 (r:=r) hl (R:Int) (j:=j) (by omega)
   rw [<- hx]at hat hix
   have hls:=A86 hat
   obtain ⟨D,t1,t2,t3⟩:=BR3 (A:=C) x hxl
   obtain ⟨b8,hb8⟩:∃ b,b=C.blk.length:=⟨_,rfl⟩
   rw [<- hb8]at t1 t3
   have hfD:=hfC.then0 t2
   have l1:(stAll r).length=24:=hlS
   obtain ⟨v4,E,fo2,p1,p2,p3,p4⟩:=(hL.fr0 t2).push (P:=Try.prog) (t:=25) (tx:=25) (n:=32) rfl Cd9 Try.underlying25 (hfD.wf hw) (y:=x) (cs':=bc x) ⟨rfl,hxl⟩ (by rw [List.length_take];omega) (by rw [List.length_take];omega)
   rw [<- Ac4 hat]at p2
   have rd4:=t2.row0 rc4
   have re4:=p3.row _ _ rd4 (Aa8 rd4)
   have re2:=p3.row _ _ (t2.row0 rc2) (Aa8 (t2.row0 rc2))
   have re8:=p3.row _ _ t3 (Aa8 t3)
   obtain ⟨F,u1,u2,u3⟩:=Bz2 re4 rfl p2.one
   have hfE:Fr S0 A E:=hfD.newFam hw p3 hfo
   have hfF:Fr S0 A F:=hfE.row_ u2 (by have:=f1.len;omega)
   have hne8:b8≠b4:=by have:=Ac3 rc4;omega
   have rf8:=u2.row _ _ re8 (fun q=>hne8 (by injection q))
   have rf2:=u2.row _ _ re2 (fun q=>by injection q with q;omega)
   have pF:=p2.fr u2 (.box re4)
   have hfo2:∀ f,fo2=some f->A.blk.length<=f:=fun f q=>by
    rcases p4.or q with y | y
    . exact hfo f y
    . have:=hfD.len;omega
   have wj:IntKind.i64.wrap ((j:Int)+1)=((j+1:Nat):Int):=by rw [Ae4 (by omega)]
   have v1:IntKind.i64.wrap (2 * (R:Int))=2 * (R:Int):=Ae1 (by omega) (by omega)
   have v2:IntKind.i64.wrap (2 * (R:Int)+(j:Int))=2 * (R:Int)+(j:Int):=Ae1 (by omega) (by omega)
   have v3:IntKind.i64.wrap (2 * (R:Int)+(j:Int)+1)=((2 * R+j+1:Nat):Int):=by rw [Ae1 (by omega) (by omega)];omega
   have fa8:evFieldAddr Try.prog 28 (.ptr b4 0) 8=some (.ptr b4 39):=by kernel_rfl
   have ld4:=ldM rd4 (rfl:(msgS r.me r.height []).id.length=32)
   simp only [RT,Q0,Q1,Q2,Q3,Q4,Q5,Q6,Q7,Q8,h27,h26,hix,Bb8,<- hb8,t1,h4,fa8,ld4,ldI t3 hxl,BP8 hxl,p1,u1,ldI rf8 hxl,Am4,eqI hxl Ab2]
   rw [show 2 * R+j+1=2 * R+(j+1) by omega]at hls
   rw [show 2 * R+j+1=2 * R+(j+1) by omega]at pF v3
   by_cases hz0:x=z32
   . rw [if_pos hz0] at hls
     rw [<- hls]at h5
     simp only [RT,Q0,Q1,Q2,Q3,Q4,Q5,Q6,Q7,Q8,decide_eq_true hz0,h27,wj]
     refine ⟨2 - (j+1),by omega,j+1,v4,fo2,rfl,by omega,?_⟩
     and_intros <;> first | rfl | assumption
   . rw [if_neg hz0] at hls
     simp only [RT,Q0,Q1,Q2,Q3,Q4,Q5,Q6,Q7,Q8,decide_eq_false hz0,h6,v1,v2,v3,h27,wj]
     refine ⟨2 - (j+1),by omega,j+1,v4,fo2,rfl,by omega,?_⟩
     rw [hls]
     and_intros <;> first | rfl | assumption
 . rintro z e B hz ⟨rfl, w, fo, h2, h4, h5, hf, rb2, rb4, hL, hfo⟩
   have hn24:=AM9 (stAll r) 24
   obtain ⟨iv,t1,t2⟩:=hL.toN (P:=Try.prog) (t:=25) Try.underlying25 AH3 (hi:=lastN (stAll r) 24) (by omega) (kh:=.i64) B
   have fa8:evFieldAddr Try.prog 28 (.ptr b4 0) 8=some (.ptr b4 39):=by kernel_rfl
   have ld4:=ldM rb4 (rfl:(msgS r.me r.height []).id.length=32)
   obtain ⟨C,u1,u2,u3⟩:=Bz2 rb4 rfl t2.one
   have ldC4:=ldM u3 (rfl:(msgS r.me r.height []).id.length=32)
   have hb24:b2≠b4:=by omega
   have rc2:=u2.row _ _ rb2 (fun q=>hb24 (by injection q))
   have t3:=t2.fr u2 (.box rb4)
   have hlen:(stIds r).length=lastN (stAll r) 24:=by unfold stIds;rw [List.length_take];omega
   obtain ⟨D,x1,x2,x3⟩:=AS0 (y:=msgS r.me r.height []) (dv':=.snil) (iv':=iv) (lv':=.snil) (x:=msg0 0) (dv:=.snil) (iv:=.snil) (lv:=.snil) rc2 rfl rfl (by simp only [mc,List.all_cons,List.all_append,Ae6,t2.one,List.all_nil];rfl)
   simp only [RT,Q0,Q1,Q2,Q3,Q4,Q5,Q6,Q7,Q8,h4,fa8,ld4,h5,t1,u1,ldC4,h2,x1,(ldM x3 (rfl:(msgS r.me r.height []).id.length=32))]
   have fD:Fr S0 A D:=(hf.row_ u2 (by have:=f1.len;omega)).row_ x2 (by omega)
   rw [hlen]
   have hdec:decide ((lastN (stAll r) 24:Int) > 0)=decide (0 < lastN (stAll r) 24):=by simp
   rw [hdec,hb2]
   exact ⟨fD,iv,fo,rfl,t3.fr x2 (.box rc2),hfo⟩
end
end Go.Sv.Try
namespace Go.Sv
section
variable {r:Rd}
end
end Go.Sv
namespace Go.Sv.Try
open Go Go.Proofs
section
variable {A A' B:AS} {rp cp:Nat} {r r':Rd} {vb:Nat->Nat} {fk fa fk' fa':Option Nat} {kv av:V}
theorem Rng.give (h:Rng r) (ha:r.acts=[]) (i:RIn):Rng (r.give i).1/\(r.give i).1.acts=[]:=by
 unfold Rd.give
 split
 . unfold Rd.Begin
   split
   . exact ⟨h.settle,rfl⟩
   . have h1 : Rng { r with fresh := if i.id = z32 then r.fresh else i.id } := { h with }
     exact ⟨(h1.begin (R:=0) (by omega)).1.settle,rfl⟩
 split
 . exact ⟨(h.remember i.id).1.settle,rfl⟩
 split
 . unfold Rd.Offered
   refine ⟨Rng.settle ?_,rfl⟩
   split
   . rename_i q
     exact { h with offers:=Am5 h.offers ⟨q.2.2.1,by show i.valid<=1000;have:=q.2.1;have:=q.2.2.2.1;omega⟩ }
   . exact h
 split
 . unfold Rd.Voted
   refine ⟨Rng.settle ?_,rfl⟩
   split
   . exact { h with }
   . exact h
 split
 . unfold Rd.Timeout
   refine ⟨Rng.settle ?_,rfl⟩
   split
   . rename_i q
     split
     . exact (h.vote (k:=0) (by omega) _).1
     split
     . exact (h.vote (k:=1) (by omega) _).1
     split
     . exact (h.begin (R:=i.round+1) (by have:=h.now;omega)).1
     . exact h
   . exact h
 split
 . exact ⟨{ h with },ha⟩
 split
 . exact ⟨(h.remember i.id).1,(h.remember i.id).2.trans ha⟩
 split
 . exact ⟨(h.recall _).1,(h.recall _).2.trans ha⟩
 . exact ⟨h,ha⟩
theorem Reads.bytesR (n:Nat) (hn:0 < n):Reads (eB n hn) (.arr n (.int .u8) 1) (fun _=>True) (fun _=>1):=by
 intro A d cs h
 cases h with
 | @arr n sz e l vs hl hv hh =>
  obtain ⟨r,h1,h2⟩:=Ap7 (R:=fun i (d:Dat) (x:UInt8)=>cs[i]?=some (.int .u8 x.toNat)) l 0 fun i d q=>by
   obtain ⟨x,q1,_⟩:=Reads.u8 A d _ (hh i d q)
   refine ⟨x,?_⟩
   have q1:(cs.drop (i * 1)).take 1=[.int .u8 x.toNat]:=q1
   rw [Nat.mul_one,List.take_one,List.head?_drop]at q1
   rw [Nat.zero_add]
   cases hc:cs[i]? with
   | none=>rw [hc]at q1;simp at q1
   | some c=>rw [hc]at q1;simpa using q1
  refine ⟨r,⟨AP7 (by rw [Aa5];omega) fun i x hx=>?_,by omega⟩,trivial,by simp [Dat.bulk]⟩
  rw [A61]at hx
  cases hr:r[i]? with
  | none=>rw [hr]at hx;simp at hx
  | some y =>
   rw [hr]at hx;simp at hx;subst hx
   have hi:=(List.getElem?_eq_some_iff.1 hr).1
   have:=h2 i l[i] y (List.getElem?_eq_getElem (by omega)) hr
   rwa [Nat.zero_add]at this
theorem zcA:(zeroT Try.prog 109).bind V.cells=some (actC ⟨0,0,0,0,z32⟩):=BN9
theorem A40 (a:Act):(actC a).all V.one=true:=by simp only [actC,List.all_cons,Ae6];rfl
theorem B56 {A:AS} {a:Act} (h:a.id.length=32):∃ A',evStore Try.prog 109 (.ptr A.blk.length 0) (.agg (actC a)) (A.push ⟨actC ⟨0,0,0,0,z32⟩,.var⟩)=some A'/\Fr S0 A A'/\A'.blk[A.blk.length]?=some ⟨actC a,.var⟩:=by
 obtain ⟨A2,s1,s2,s3,s4⟩:=Ai4 (P:=Try.prog) A (z:=actC ⟨0,0,0,0,z32⟩) (t:=109) (x:=.agg (actC a)) (cs:=actC a) rfl (by rw [Ar8 h];exact Bm7) (by rw [Ar8 h,Ar8 Ab2]) (A40 a)
 exact ⟨A2,s1,s2,s3⟩
def eA3:Enc (Int×Int×Int):=ePair (eInt .i64) (ePair (eInt .i64) (eInt .i64))
theorem Reads.a3:Reads eA3 (.arr 3 (.int .i64) 1) (fun x=>IntIn .i64 x.1/\IntIn .i64 x.2.1/\IntIn .i64 x.2.2) (fun _=>0):=by
 intro A d cs h
 cases h with
 | @arr n sz e l vs hl hv hh =>
  match l,hl with
  | [d0,d1,d2],_ =>
   obtain ⟨n0,p0,q0,_⟩:=Reads.int .i64 A _ _ (hh 0 _ rfl)
   obtain ⟨n1,p1,q1,_⟩:=Reads.int .i64 A _ _ (hh 1 _ rfl)
   obtain ⟨n2,p2,q2,_⟩:=Reads.int .i64 A _ _ (hh 2 _ rfl)
   have p0:(cs.drop 0).take 1=[.int .i64 n0]:=p0
   have p1:(cs.drop 1).take 1=[.int .i64 n1]:=p1
   have p2:(cs.drop 2).take 1=[.int .i64 n2]:=p2
   have hv:cs.length=3:=hv
   match cs,hv with
   | [a,b,c],_ =>
    simp at p0 p1 p2
    subst p0 p1 p2
    exact ⟨(n0,n1,n2),⟨_,_,rfl,rfl,_,_,rfl,rfl,rfl⟩,⟨q0,q1,q2⟩,Nat.zero_le _⟩
def bulkIn (_:InP):Nat:=1
theorem Reads.inn:Reads eIn shIn (fun x=>IntIn .i64 x.1/\IntIn .i64 x.2.1/\IntIn .i64 x.2.2.1/\IntIn .i64 x.2.2.2.1/\IntIn .i64 x.2.2.2.2.1) bulkIn :=
 Reads.weak (Reads.struct (.cons (Reads.int .i64) rfl rfl (.cons (Reads.int .i64) rfl rfl (.cons (Reads.int .i64) rfl rfl (.cons (Reads.int .i64) rfl rfl (.cons (Reads.int .i64) rfl rfl (.last (Reads.bytesR 32 (by decide)) rfl)))))) rfl)
  (fun _ h=>⟨h.1,h.2.1,h.2.2.1,h.2.2.2.1,h.2.2.2.2.1⟩) fun o=>by
   show 1<=_+1
   omega
theorem ld3 {A:AS} {b:Nat} {k:BK} {x y z:Int} (h:A.blk[b]?=some ⟨[.int .i64 x,.int .i64 y,.int .i64 z],k⟩):evLoad Try.prog 3 (.ptr b 0) A=some (.int .i64 x)/\evLoad Try.prog 3 (.ptr b 1) A=some (.int .i64 y)/\evLoad Try.prog 3 (.ptr b 2) A=some (.int .i64 z) :=
 ⟨by rw [Ab3 ag3 h];rfl,by rw [Ab3 ag3 h];rfl,by rw [Ab3 ag3 h];rfl⟩
end
end Go.Sv.Try
namespace Go.Sv
end Go.Sv
namespace Go.Sv.Try
open Go Go.Proofs
section
variable {A B C:AS} {rp cp:Nat} {r r':Rd} {vb:Nat->Nat} {fk:Option Nat} {cp2 n:Nat} {vb2:Nat->Nat} {v2:Vt}
structure J2 (A B:AS) (rp cp:Nat) (vb:Nat->Nat) (r:Rd) (fk:Option Nat) (cp2 n:Nat) (vb2:Nat->Nat) (v2:Vt):Prop where
 fr:Fr S0 A B
 gk:Gr A none fk
 rd:IsRd B rp r cp vb fk none
 nr:NewR A rp vb
 c2:IsCnt B cp2 n v2 vb2
 n2:A.blk.length<=cp2/\∀ j,j < 24->A.blk.length<=vb2 j
 ne:∀ i j,i < 24->j < 24->vb i≠vb2 j
 nf:∀ j,j < 24->fk≠some (vb2 j)
 nc:rp≠cp2
theorem J2.s0 (h:J2 A B rp cp vb r fk cp2 n vb2 v2) (hf:Fr S0 B C):J2 A C rp cp vb r fk cp2 n vb2 v2 :=
 { h with fr:=h.fr.then0 hf,rd:=h.rd.fr0 hf,c2:=h.c2.fr0 hf }
theorem Be6 (hw:WF A) (hf:Fr S0 A B) (hn:NewR A rp vb) (gk:Gr A none fk) {x:Loc} (q:rdS B rp vb fk none x):x.newTo A:=by
 rcases AC2 (A:=A) (B:=B) (rp:=rp) (vb:=vb) (fk:=none) (fa:=none) hf gk (.inl rfl) hw (hf.wf hw) q with q | q
 . rcases q with rfl | ⟨j, hj, rfl⟩ | q | q
   . exact hn.1
   . exact hn.2 j hj
   . exact q.elim
   . exact q.elim
 . exact q
theorem Bo8 {S:Loc->Prop} (h:Fr S0 A B) (k:Fr S B C) (hs:∀ x,S x->x.newTo A):Fr S0 A C:=h.trans k fun x q=>.inr (hs x q)
theorem J2.give (hw:WF A) (h:J2 A B rp cp vb r fk cp2 n vb2 v2) {x:Rd×List Act} {w:V} (k:GRes B rp cp vb fk none C x w) :
 ∃ fk' fo,J2 A C rp cp vb x.1 fk' cp2 n vb2 v2/\Lst eAct Hp.emp C w x.2 fo/\(∀ j,j < 24->fo≠some (vb2 j))/\KV rp B C/\∀ (mr:Nat) (mo:MapO),B.maps[mr]?=some mo->C.maps[mr]?=some mo:=by
 obtain ⟨fk',fo,k1,k2,k3,k4,k5,k6,k7⟩:=k
 have lt2:∀ j,j < 24->vb2 j < B.blk.length:=fun j hj=>h.c2.lt hj
 have off:∀ j,j < 24->¬ rdS B rp vb fk none (.row (vb2 j))/\¬ rdS B rp vb fk none (.fam (vb2 j)):=by
  intro j hj
  have hr:=h.c2.row j hj
  constructor
  . rintro (q | ⟨i, hi, q⟩ | q | q)
    . injection q with q
      obtain ⟨_,_,b,_⟩:=h.rd.box
      rw [q,b]at hr;simp at hr
    . injection q with q;exact h.ne i j hi hj q.symm
    . cases hfk : fk with
      | none=>rw [hfk]at q;exact q
      | some f =>
       rw [hfk]at q
       obtain ⟨k,base,z1,z2⟩:=q
       rw [hr]at z1;cases z1;cases z2
       exact h.nf j hj hfk
    . exact q
  . rintro (q | ⟨i, hi, q⟩ | q | q)
    . cases q
    . cases q
    . cases hfk : fk with
      | none=>rw [hfk]at q;exact q
      | some f =>
       rw [hfk]at q
       exact h.nf j hj (by rw [hfk];exact congrArg some (show f=vb2 j from (show vb2 j=f from q).symm))
    . exact q
 refine ⟨fk',fo,{ fr:=Bo8 h.fr k1 fun x q=>Be6 hw h.fr h.nr h.gk q,gk:=h.gk.trans k2 h.fr.len,rd:=k4,nr:=h.nr,c2:=?_,n2:=h.n2,ne:=h.ne,nf:=?_,nc:=h.nc },k5,?_,h.rd.keeps k1,fun mr mo q=>k1.map mr mo q ?_⟩
 . refine h.c2.fr k1 ?_ off
   rintro (q | ⟨j,hj,q⟩ | q | q)
   . injection q with q;exact h.nc q.symm
   . injection q with q;exact h.rd.cnt.nevar hj h.c2.box q.symm
   . exact Aa8 h.c2.box q
   . exact q
 . intro j hj q
   rcases k2.or q with y | y
   . exact h.nf j hj y
   . have:=lt2 j hj;omega
 . intro j hj q
   rcases k3.or q with y | y
   . cases y
   . have:=lt2 j hj;omega
 . rintro (q | ⟨i, hi, q⟩ | q | q)
   . cases q
   . cases q
   . cases hfk : fk with
     | none=>rw [hfk]at q;exact q
     | some f=>rw [hfk]at q;exact q
   . exact q
theorem B57 {E:Enc Act} {fo:Option Nat} (h:IsCnt B cp2 n v2 vb2) (hfo:∀ j,j < 24->fo≠some (vb2 j)):Off fo B (vbS vb2):=by
 intro b q f k base hf hk
 obtain ⟨j,hj,q⟩:=q
 injection q with q;subst q
 rw [h.row j hj]at hk;cases hk
 intro z
 injection z with z1 z2
 exact hfo j hj (by rw [hf,z1])
theorem Bz3 {fo:Option Nat} (h:IsCnt B cp2 n v2 vb2) (hfo:∀ j,j < 24->fo≠some (vb2 j)):Off fo B (vbS vb2):=B57 (E:=eAct) h hfo
theorem J2.put (h:J2 A B rp cp vb r fk cp2 n vb2 v2) {v':Vt} (hf:Fr (vbS vb2) B C) (hc:IsCnt C cp2 n v' vb2):J2 A C rp cp vb r fk cp2 n vb2 v':=by
 refine { h with fr:=Bo8 h.fr hf ?_,rd:=h.rd.fr hf ?_ ?_ ?_ ?_ ?_,c2:=hc }
 . rintro x ⟨j,hj,rfl⟩;exact h.n2.2 j hj
 . rintro ⟨j, hj, q⟩
   obtain ⟨_,_,b,_⟩:=h.rd.box
   injection q with q;exact h.c2.nevar hj b q.symm
 . rintro ⟨j, hj, q⟩
   injection q with q;exact h.c2.nevar hj h.rd.cnt.box q.symm
 . refine fun i hi => ⟨?_, ?_⟩
   . rintro ⟨j,hj,q⟩;injection q with q;exact h.ne i j hi hj q
   . rintro ⟨j,hj,q⟩;cases q
 . exact Bz3 h.c2 h.nf
 . exact Bz3 h.c2 fun j hj q=>by cases q
theorem J2.var (h:J2 A B rp cp vb r fk cp2 n vb2 v2) {b:Nat} {cs:List V} (hb:B.blk[b]?=some ⟨cs,.var⟩) (h1:b≠rp) (h2:b≠cp) (h3:b≠cp2) (h4:A.blk.length<=b) (hf:Fr (·=.row b) B C):J2 A C rp cp vb r fk cp2 n vb2 v2:=by
 refine { h with fr:=h.fr.row_ hf h4,rd:=h.rd.fr hf ?_ ?_ ?_ ?_ ?_,c2:=h.c2.fr hf ?_ ?_ }
 . intro q;injection q with q;exact h1 q.symm
 . intro q;injection q with q;exact h2 q.symm
 . exact fun j hj=>⟨fun q=>by injection q with q;exact h.rd.cnt.nevar hj hb q,fun q=>by cases q⟩
 . exact .box hb
 . exact .box hb
 . intro q;injection q with q;exact h3 q.symm
 . exact fun j hj=>⟨fun q=>by injection q with q;exact h.c2.nevar hj hb q,fun q=>by cases q⟩
theorem J2.map (h:J2 A B rp cp vb r fk cp2 n vb2 v2) {mr:Nat} (h4:A.maps.length<=mr) (hf:Fr (·=.map mr) B C):J2 A C rp cp vb r fk cp2 n vb2 v2:=by
 refine { h with fr:=Bo8 h.fr hf (fun x q=>by subst q;exact h4),rd:=h.rd.fr hf ?_ ?_ ?_ ?_ ?_,c2:=h.c2.fr hf ?_ ?_ }
 . intro q;cases q
 . intro q;cases q
 . exact fun j hj=>⟨fun q=>(by cases q),fun q=>(by cases q)⟩
 . intro b q;cases q
 . intro b q;cases q
 . intro q;cases q
 . exact fun j hj=>⟨fun q=>(by cases q),fun q=>(by cases q)⟩
theorem J2.new {A2:AS} (hA:Fr S0 A A2) (hR:IsRd A2 rp r cp vb none none) (hN:NewR A rp vb) (f:Fr S0 A2 B) (hc:IsCnt B cp2 n v2 vb2) (hcp:A2.blk.length<=cp2) (hvb:∀ j,j < 24->A2.blk.length<=vb2 j):J2 A B rp cp vb r none cp2 n vb2 v2:=by
 have hl:=hA.len
 refine { fr:=hA.then0 f,gk:=.inl rfl,rd:=hR.fr0 f,nr:=hN,c2:=hc,n2:=⟨by omega,fun j hj=>by have:=hvb j hj;omega⟩,ne:=fun i j hi hj q=>?_,nf:=fun j hj q=>(by cases q),nc:=fun q=>?_ }
 . have:=hR.cnt.lt hi;have:=hvb j hj;omega
 . obtain ⟨_, _, b, _⟩ := hR.box
   have:=Ac3 b;omega
end
end Go.Sv.Try
namespace Go.Sv
end Go.Sv
namespace Go.Sv.Try
open Go Go.Proofs
section
variable {A B C:AS} {rp cp:Nat} {r r':Rd} {vb:Nat->Nat} {fk:Option Nat} {cp2 n:Nat} {vb2:Nat->Nat} {v2:Vt}
end
end Go.Sv.Try
namespace Go.Sv
structure Rc (n me:Nat) (s:Led) (r:Rd):Prop where
 hn:r.n=n
 hm:r.me=me
 v:∀ R K,r.v R K me=s.v R K me
 lk:(r.locked,r.lock)=s.lk
 now:r.now=s.top
theorem Af5 {n:Nat} {v:Vt} {R K w:Int} {id:Bts} (h:putC n v R K w id=0):right n R K w/\id≠z32/\v R.toNat K.toNat w.toNat=z32:=by
 unfold putC at h
 split at h
 . simp at h
 . rename_i q
   split at h
   . simp at h
   . rename_i q2
     exact ⟨Decidable.not_not.1 fun z=>q (.inl z),fun z=>q (.inr z),Decidable.not_not.1 q2⟩
theorem AS1 {n:Nat} {v:Vt} {R K w:Int} {id:Bts} (h1:right n R K w) (h2:id≠z32) (h3:v R.toNat K.toNat w.toNat=z32):putC n v R K w id=0:=by
 unfold putC
 rw [if_neg (fun q=>q.elim (fun z=>z h1) h2),if_neg (fun q=>q h3)]
theorem Rc.act {n me:Nat} {s:Led} {r:Rd} {kn:List Bts} {a:Act} (h:Rc n me s r) (k:s.ok n me kn a):Rc n me (s.after me a) (r.Recall a):=by
 cases k with
 | send R val id h1 h2 h3 h4 =>
  rw [Am1]
  unfold Rd.Recall
  split
  . exact { h with }
  . rw [if_pos rfl]
    split
    . exact { h with }
    . exact { h with }
 | tim R K h1 h2 h3 h4 h5 h6 =>
  rw [Aq1]
  unfold Rd.Recall
  rw [if_pos (.inr (.inr rfl))]
  exact { h with }
 | done R id h1 h2 h3 =>
  rw [Am3]
  unfold Rd.Recall
  split
  . exact { h with }
  . rw [if_neg (show ¬ ((4 : Int) = 1) by omega), if_neg (show ¬ ((4 : Int) = 2) by omega)]
    exact { h with }
 | vote R K id h1 h2 h3 h4 =>
  rw [Am2]
  obtain ⟨q1,q2,q3⟩:=Af5 h2
  have hc:putC r.n r.v R K r.me id=0:=by
   rw [h.hn,h.hm]
   refine AS1 q1 q2 ?_
   rw [show ((me:Int)).toNat=me from rfl,h.v];exact q3
  have hv:∀ A B,(putV r.n r.v R K r.me id) A B me=setV s.v R.toNat K.toNat me id A B me:=by
   intro A B
   unfold putV
   rw [if_pos hc,h.hm]
   show setV r.v R.toNat K.toNat me id A B me=_
   unfold setV
   split
   . rfl
   . exact h.v A B
  unfold Rd.Recall
  have c1:¬ (R < 0∨R >= 12∨id=z32):=by
   have:=q1.1;have:=q1.2.1
   rintro (z | z | z)
   . omega
   . omega
   . exact q2 z
  rw [if_neg c1,if_neg (show ¬ ((2:Int)=1) by omega),if_pos rfl,if_neg (show ¬ (putC r.n r.v R K r.me id≠0) from fun z=>z hc)]
  simp only []
  rw [if_neg (show ¬ (R < r.now) by rw [h.now];omega)]
  split
  . exact { hn:=h.hn,hm:=h.hm,v:=hv,lk:=rfl,now:=rfl }
  . exact { hn:=h.hn,hm:=h.hm,v:=hv,lk:=h.lk,now:=rfl }
structure Vo (me:Nat) (w0:Nat->Nat->Bts) (r:Rd):Prop where
 hm:r.me=me
 keep:∀ R K,w0 R K≠z32->r.v R K me≠z32
 acts:∀ a∈r.acts,a.kind=2->(a.num=0∨a.num=1)/\0<=a.round/\a.round < 12/\w0 a.round.toNat a.num.toNat=z32
section
variable {me:Nat} {w0:Nat->Nat->Bts} {r r':Rd}
theorem Vo.same (h:Vo me w0 r) (h1:r'.me=r.me) (h2:r'.v=r.v) (h3:r'.acts=r.acts):Vo me w0 r' :=
 ⟨h1.trans h.hm,by rw [h2];exact h.keep,by rw [h3];exact h.acts⟩
theorem Vo.snoc (h:Vo me w0 r) {a:Act} (k:a.kind≠2) (h1:r'.me=r.me) (h2:r'.v=r.v) (h3:r'.acts=r.acts++[a]):Vo me w0 r':=by
 refine ⟨h1.trans h.hm,by rw [h2];exact h.keep,fun b hb hk=>?_⟩
 rw [h3]at hb
 rcases List.mem_append.1 hb with hb | hb
 . exact h.acts b hb hk
 . simp at hb;subst hb;exact absurd hk k
theorem Vo.timer (h:Vo me w0 r) (k:Nat):Vo me w0 (r.timer k):=by
 unfold Rd.timer;split
 . exact h
 . exact h.snoc (a:=⟨3,r.now,k,0,z32⟩) (by show ¬ ((3:Int)=2);omega) rfl rfl rfl
theorem Vo.vote (h:Vo me w0 r) (k:Nat) (id:Bts):Vo me w0 (r.vote k id):=by
 unfold Rd.vote;simp only []
 split
 . rename_i hc
   obtain ⟨q1,q2,q3⟩:=Af5 hc
   refine ⟨h.hm,fun R K q=>?_,fun b hb hk=>?_⟩
   . show putV r.n r.v r.now k r.me id R K me ≠ z32
     unfold putV;rw [if_pos hc]
     unfold setV;split
     . exact q2
     . exact h.keep R K q
   . have hb : b ∈ r.acts ++ [⟨2, r.now, k, 0, id⟩] := hb
     rcases List.mem_append.1 hb with hb | hb
     . exact h.acts b hb hk
     . simp at hb; subst hb
       refine ⟨q1.2.2.1,q1.1,q1.2.1,?_⟩
       apply Decidable.byContradiction
       intro z
       refine h.keep _ _ z ?_
       rw [<- h.hm]
       exact q3
 . exact h.same rfl rfl rfl
theorem Vo.begin (h:Vo me w0 r) (R:Int):Vo me w0 (r.begin R):=by
 unfold Rd.begin
 split
 . exact h.same rfl rfl rfl
 . simp only []
   have h1:Vo me w0 { r with now:=R,step:=0 }:=h.same rfl rfl rfl
   generalize (if r.valid > 0 then r.best else r.fresh)=id
   split
   . exact h1.timer _
   split
   . exact h1
   split
   . exact h1.timer _
   . exact h1.snoc (a:=⟨1,R,0,r.valid,id⟩) (by show ¬ ((1:Int)=2);omega) rfl rfl rfl
theorem Vo.rest (h:Vo me w0 r):Vo me w0 r.rest.1:=by
 unfold Rd.rest
 simp only []
 have last:Vo me w0 (if r.step=1/\need r.n<=forI r.n r.v r.now 0 n32 then (r.vote 1 n32,true) else
  (if need r.n<=allI r.n r.v r.now 1 then (if r.step=1/\need r.n<=allI r.n r.v r.now 0 then r.timer 1 else r).timer 2 else (if r.step=1/\need r.n<=allI r.n r.v r.now 0 then r.timer 1 else r),false):Rd×Bool).1:=by
  split
  . exact h.vote _ _
  . have h1 : Vo me w0 (if r.step = 1 /\ need r.n <= allI r.n r.v r.now 0 then r.timer 1 else r) := by
     split
     . exact h.timer _
     . exact h
    show Vo me w0 (if _ then _ else _)
    split
    . exact h1.timer _
    . exact h1
 split
 . rename_i id _
   split
   . show Vo me w0 (if _ then _ else _)
     split
     . exact Vo.vote (r:={ r with valid:=r.now+1,best:=id,locked:=r.now+1,lock:=id }) (h.same rfl rfl rfl) _ _
     . exact h.same rfl rfl rfl
   . exact last
 . exact last
theorem Vo.rule (h:Vo me w0 r):Vo me w0 r.rule.1:=by
 unfold Rd.rule
 split
 . exact h
 split
 . rename_i k id _
   exact h.snoc (a:=⟨4,k,0,0,id⟩) (by show ¬ ((4:Int)=2);omega) rfl rfl rfl
 split
 . exact h.begin _
 split
 . split
   . exact h.vote _ _
   . exact h.rest
 . exact h.rest
theorem Vo.rules:∀ (k:Nat) {r:Rd},Vo me w0 r->Vo me w0 (Rd.rules k r)
 | 0,r,h=>h
 | k+1,r,h=>by
  unfold Rd.rules
  split
  . exact Vo.rules k h.rule
  . exact h.rule
structure VoX (me:Nat) (w0:Nat->Nat->Bts) (x:Rd×List Act):Prop where
 st:Vo me w0 x.1
 out:∀ a∈x.2,a.kind=2->(a.num=0∨a.num=1)/\0<=a.round/\a.round < 12/\w0 a.round.toNat a.num.toNat=z32
theorem Vo.settle (h:Vo me w0 r):VoX me w0 r.settle:=by
 have k:=h.rules 1000
 exact ⟨⟨k.hm,k.keep,fun a q=>by cases q⟩,k.acts⟩
theorem Vo.quiet (h:Vo me w0 r):VoX me w0 (r,[]):=⟨h,fun a q=>by cases q⟩
theorem Vo.give (h:Vo me w0 r) {i:RIn} (h6:i.kind≠6):VoX me w0 (r.give i):=by
 have hrem:Vo me w0 (r.Remember i.id):=by
  unfold Rd.Remember;split
  . exact h.same rfl rfl rfl
  . exact h
 unfold Rd.give
 split
 . unfold Rd.Begin
   split
   . exact h.settle
   . exact ((h.same (r':={ r with fresh:=if i.id=z32 then r.fresh else i.id }) rfl rfl rfl).begin 0).settle
 split
 . exact hrem.settle
 split
 . unfold Rd.Offered
   refine Vo.settle ?_
   split
   . exact h.same rfl rfl rfl
   . exact h
 split
 . unfold Rd.Voted
   refine Vo.settle ?_
   split
   . rename_i q
     refine ⟨h.hm,fun R K z=>?_,h.acts⟩
     show putV r.n r.v i.round i.num i.who i.id R K me≠z32
     rw [Ax5 (by rw [<- h.hm];exact q)]
     exact h.keep R K z
   . exact h
 split
 . unfold Rd.Timeout
   refine Vo.settle ?_
   split
   . split
     . exact h.vote _ _
     split
     . exact h.vote _ _
     split
     . exact h.begin _
     . exact h
   . exact h
 split
 . exact (h.same (r':={ r with fresh:=i.id }) rfl rfl rfl).quiet
 split
 . exact hrem.quiet
 exact h.quiet
end
end Go.Sv
namespace Go.Sv.Try
open Go Go.Proofs
section
variable {A B C:AS} {rp cp:Nat} {r r':Rd} {vb:Nat->Nat} {fk fa:Option Nat} {rp2 cp2:Nat} {vb2:Nat->Nat} {r2:Rd} {fk2:Option Nat}
structure JR (A B:AS) (rp cp:Nat) (vb:Nat->Nat) (r:Rd) (fk:Option Nat) (rp2 cp2:Nat) (vb2:Nat->Nat) (r2:Rd) (fk2:Option Nat):Prop where
 fr:Fr S0 A B
 gk:Gr A none fk
 gk2:Gr A none fk2
 rd:IsRd B rp r cp vb fk none
 rd2:IsRd B rp2 r2 cp2 vb2 fk2 none
 nr:NewR A rp vb
 nr2:NewR A rp2 vb2
 ne:∀ i j,i < 24->j < 24->vb i≠vb2 j
 nf:∀ j,j < 24->fk≠some (vb2 j)
 nf2:∀ j,j < 24->fk2≠some (vb j)
 nk:∀ f,fk=some f->fk2≠some f
 nc:rp≠rp2
 nc1:rp≠cp2
 nc2:rp2≠cp
theorem JR.symm (h:JR A B rp cp vb r fk rp2 cp2 vb2 r2 fk2):JR A B rp2 cp2 vb2 r2 fk2 rp cp vb r fk :=
 ⟨h.fr,h.gk2,h.gk,h.rd2,h.rd,h.nr2,h.nr,fun i j hi hj q=>h.ne j i hj hi q.symm,h.nf2,h.nf,fun f q w=>h.nk f w q,fun q=>h.nc q.symm,h.nc2,h.nc1⟩
theorem JR.s0 (h:JR A B rp cp vb r fk rp2 cp2 vb2 r2 fk2) (hf:Fr S0 B C):JR A C rp cp vb r fk rp2 cp2 vb2 r2 fk2 :=
 { h with fr:=h.fr.then0 hf,rd:=h.rd.fr0 hf,rd2:=h.rd2.fr0 hf }
theorem B58 {fo:Option Nat} (hR:IsRd B rp r cp vb fk none) (h1:∀ j,j < 24->fo≠some (vb j)) (h2:∀ f,fo=some f->fk≠some f):Off fo B (rdS B rp vb fk none):=by
 intro b q f k base hf hk
 rcases q with q | ⟨j,hj,q⟩ | q | q
 . injection q with q; subst q
   obtain ⟨_,_,b,_⟩:=hR.box
   rw [b]at hk;cases hk;simp
 . injection q with q; subst q
   rw [hR.cnt.row j hj]at hk;cases hk
   intro z;injection z with z1 z2
   exact h1 j hj (by rw [hf,z1])
 . cases hfk : fk with
   | none=>rw [hfk]at q;exact q.elim
   | some g =>
    rw [hfk]at q
    obtain ⟨k',base',z1,z2⟩:=q
    rw [z1]at hk;cases hk
    rw [z2]
    intro z;injection z with z3 z4
    exact h2 f hf (by rw [hfk,z3])
 . exact q.elim
theorem JR.give (hw:WF A) (h:JR A B rp cp vb r fk rp2 cp2 vb2 r2 fk2) {x:Rd×List Act} {w:V} (k:GRes B rp cp vb fk none C x w) :
 ∃ fk' fo,JR A C rp cp vb x.1 fk' rp2 cp2 vb2 r2 fk2/\Lst eAct Hp.emp C w x.2 fo/\(∀ j,j < 24->fo≠some (vb2 j))/\(∀ f,fo=some f->fk2≠some f)/\(∀ j,j < 24->fo≠some (vb j))/\(∀ f,fo=some f->fk'≠some f)/\Fr (rdS B rp vb fk none) B C/\Gr B fk fk':=by
 obtain ⟨fk',fo,k1,k2,k3,k4,k5,k6,k7⟩:=k
 have lt2:∀ j,j < 24->vb2 j < B.blk.length:=fun j hj=>h.rd2.cnt.lt hj
 obtain ⟨kv2,av2,bx2,bk2,_⟩:=h.rd2.box
 have ltk:∀ f,fk2=some f->f < B.blk.length:=fun f q=>bk2.famLt f q
 have off:∀ j,j < 24->¬ rdS B rp vb fk none (.row (vb2 j))/\¬ rdS B rp vb fk none (.fam (vb2 j)):=by
  intro j hj
  have hr:=h.rd2.cnt.row j hj
  constructor
  . rintro (q | ⟨i, hi, q⟩ | q | q)
    . injection q with q
      obtain ⟨_,_,b,_⟩:=h.rd.box
      rw [q,b]at hr;simp at hr
    . injection q with q;exact h.ne i j hi hj q.symm
    . cases hfk : fk with
      | none=>rw [hfk]at q;exact q
      | some f =>
       rw [hfk]at q
       obtain ⟨k,base,z1,z2⟩:=q
       rw [hr]at z1;cases z1;cases z2
       exact h.nf j hj hfk
    . exact q
  . rintro (q | ⟨i, hi, q⟩ | q | q)
    . cases q
    . cases q
    . cases hfk : fk with
      | none=>rw [hfk]at q;exact q
      | some f =>
       rw [hfk]at q
       exact h.nf j hj (by rw [hfk];exact congrArg some (show f=vb2 j from (show vb2 j=f from q).symm))
    . exact q
 refine ⟨fk',fo,{ fr:=Bo8 h.fr k1 fun x q=>Be6 hw h.fr h.nr h.gk q,gk:=h.gk.trans k2 h.fr.len,gk2:=h.gk2,rd:=k4,rd2:=?_,nr:=h.nr,nr2:=h.nr2,ne:=h.ne,nf:=?_,nf2:=h.nf2,nk:=?_,nc:=h.nc,nc1:=h.nc1,nc2:=h.nc2 },k5,?_,?_,k7,k6,k1,k2⟩
 . refine h.rd2.fr k1 ?_ ?_ off (B58 h.rd h.nf2 fun f q w => h.nk f w q) fun b q f k base hf => by cases hf
   . rintro (q | ⟨j, hj, q⟩ | q | q)
     . injection q with q;exact h.nc q.symm
     . injection q with q;exact h.rd.cnt.nevar hj bx2 q.symm
     . exact Aa8 bx2 q
     . exact q
   . rintro (q | ⟨j, hj, q⟩ | q | q)
     . injection q with q;exact h.nc1 q.symm
     . injection q with q;exact h.rd.cnt.nevar hj h.rd2.cnt.box q.symm
     . exact Aa8 h.rd2.cnt.box q
     . exact q
 . intro j hj q
   rcases k2.or q with y | y
   . exact h.nf j hj y
   . have:=lt2 j hj;omega
 . intro f q w
   rcases k2.or q with y | y
   . exact h.nk f y w
   . have:=ltk f w;omega
 . intro j hj q
   rcases k3.or q with y | y
   . cases y
   . have:=lt2 j hj;omega
 . intro f q w
   rcases k3.or q with y | y
   . cases y
   . have:=ltk f w;omega
theorem JR.new {A2:AS} (hA:Fr S0 A A2) (hR:IsRd A2 rp r cp vb none none) (hN:NewR A rp vb) (hf:Fr S0 A2 B) (hR2:IsRd B rp2 r2 cp2 vb2 none none) (hN2:NewR A2 rp2 vb2) (hc2:A2.blk.length<=cp2):JR A B rp cp vb r none rp2 cp2 vb2 r2 none:=by
 have hl:=hA.len
 obtain ⟨_,_,b,_⟩:=hR.box
 have l1:=Ac3 b
 have l2:=Ac3 hR.cnt.box
 refine ⟨hA.then0 hf,.inl rfl,.inl rfl,hR.fr0 hf,hR2,hN,⟨by have:=hN2.1;omega,fun j hj=>by have:=hN2.2 j hj;omega⟩,fun i j hi hj q=>?_,fun j _ q=>(by cases q),fun j _ q=>(by cases q),fun f q=>(by cases q),fun q=>?_,fun q=>?_,fun q=>?_⟩
 . have:=hR.cnt.lt hi;have:=hN2.2 j hj;omega
 . have:=hN2.1;omega
 . omega
 . have:=hN2.1;omega
end
end Go.Sv.Try
namespace Go.Sv
def cnt (n:Nat) (v:Vt) (R K:Nat) (id:Bts):Nat:=(List.range n).countP fun w=>decide (v R K w=id)
theorem Bo9 {n:Nat} {v:Vt} {R K:Nat} {id:Bts} (h:id≠z32):forL (castL n v R K) id=cnt n v R K id:=by
 unfold forL castL cnt
 rw [List.countP_filter,List.countP_map]
 congr 1;funext w
 show (decide (v R K w=id) && decide (v R K w≠z32))=decide (v R K w=id)
 by_cases q:v R K w=id
 . rw [q];simp [h]
 . simp [q]
theorem Aq4 {n:Nat} {v:Vt} {r k:Int} {id:Bts} (h:sureI n v r k=some id):id≠z32/\need n<=cnt n v r.toNat k.toNat id:=by
 obtain ⟨h1,h2,h3⟩:=AI4 h
 refine ⟨h2,?_⟩
 rw [<- Bo9 h2]
 unfold forI castI at h3
 rw [if_pos h1]at h3;exact h3
theorem AJ0 {α:Type} (p q:α->Bool):∀ l:List α,l.countP p+l.countP q<=l.length+l.countP fun x=>p x && q x
 | []=>by simp
 | x::l=>by
  have:=AJ0 p q l
  simp only [List.countP_cons,List.length_cons]
  cases p x <;> cases q x <;> simp <;> omega
theorem AE2 (p:Nat->Bool) (g:Nat) (h:∀ w,w < g->p w=false):∀ n,(List.range n).countP p<=n - g
 | 0=>by simp
 | n+1=>by
  have:=AE2 p g h n
  rw [List.range_succ,List.countP_append]
  simp only [List.countP_cons,List.countP_nil]
  by_cases q:n < g
  . rw [h n q];simp;omega
  . split <;> omega
theorem AA5 {n:Nat} (hn:okN n) (p q:Nat->Bool) (hp:need n<=(List.range n).countP p) (hq:need n<=(List.range n).countP q):∃ w,w < n - flts n/\p w=true/\q w=true:=by
 apply Decidable.byContradiction
 intro z
 have h1:=AJ0 p q (List.range n)
 have h2:=AE2 (fun x=>p x && q x) (n - flts n) (fun w hw=>by
  cases hx:(p w && q w) with
  | false=>rfl
  | true =>
   rw [Bool.and_eq_true]at hx
   exact absurd ⟨w,hw,hx.1,hx.2⟩ z) n
 rw [List.length_range]at h1
 unfold okN at hn
 unfold need at hp hq
 unfold flts at h2
 omega
def Up (v v':Vt):Prop:=∀ R K w,v R K w≠z32->v' R K w=v R K w
theorem Av5 {n:Nat} {v v':Vt} (h:Up v v') {R K:Nat} {id:Bts} (hid:id≠z32):cnt n v R K id<=cnt n v' R K id:=by
 unfold cnt
 apply List.countP_mono_left
 intro w _ q
 have q:=of_decide_eq_true q
 exact decide_eq_true (by rw [h R K w (by rw [q];exact hid),q])
structure Hist (n me:Nat) (s:Led):Prop where
 h1:∀ R,s.v R 1 me≠z32->s.v R 1 me≠n32->need n<=cnt n s.v R 0 (s.v R 1 me)
 h2:∀ R1 R2,R1 < R2->s.v R1 1 me≠z32->s.v R1 1 me≠n32->s.v R2 0 me≠z32->s.v R2 0 me≠n32->s.v R2 0 me≠s.v R1 1 me->∃ k,R1<=k/\k < R2/\need n<=cnt n s.v k 0 (s.v R2 0 me)
 h3:∀ R:Nat,s.v R 1 me≠z32->s.v R 1 me≠n32->(R:Int)+1<=s.lk.1
 h5:0 < s.lk.1->s.v (s.lk.1 - 1).toNat 1 me=s.lk.2/\s.lk.2≠z32/\s.lk.2≠n32
 h6:0<=s.lk.1
 h4:∀ R K:Nat,s.v R K me≠z32->(R:Int)<=s.top
theorem Hist.up {n me:Nat} {s s':Led} (h:Hist n me s) (hu:Up s.v s'.v) (hm:∀ R K,s'.v R K me=s.v R K me) (hl:s'.lk=s.lk) (ht:s'.top=s.top):Hist n me s':=by
 refine ⟨fun R a b=>?_,fun R1 R2 hlt a b c d e=>?_,fun R a b=>?_,fun a=>?_,by rw [hl];exact h.h6,fun R K a=>?_⟩
 . rw [hm] at a b ⊢
   exact Nat.le_trans (h.h1 R a b) (Av5 hu a)
 . rw [hm] at a b c d e ⊢
   rw [hm]at e
   obtain ⟨k,x,y,z⟩:=h.h2 R1 R2 hlt a b c d e
   exact ⟨k,x,y,Nat.le_trans z (Av5 hu c)⟩
 . rw [hm]at a b;rw [hl];exact h.h3 R a b
 . rw [hl]at a ⊢;rw [hm];exact h.h5 a
 . rw [hm]at a;rw [ht];exact h.h4 R K a
theorem Up.set {v:Vt} {R K w:Nat} {id:Bts} (h:v R K w=z32):Up v (setV v R K w id):=by
 intro a b c q
 unfold setV
 rw [if_neg (by rintro ⟨rfl,rfl,rfl⟩;exact q h)]
theorem Al8 {v:Vt} {R K w:Nat} {id:Bts}:setV v R K w id R K w=id:=by unfold setV;rw [if_pos ⟨rfl,rfl,rfl⟩]
theorem Ac5 {v:Vt} {R K w:Nat} {id:Bts} {a b:Nat} (h:¬ (a=R/\b=K)):setV v R K w id a b w=v a b w:=by
 unfold setV;rw [if_neg (fun q=>h ⟨q.1,q.2.1⟩)]
theorem Hist.after {n me:Nat} {kn:List Bts} {s:Led} {a:Act} (h:Hist n me s) (k:s.ok n me kn a):Hist n me (s.after me a):=by
 cases k with
 | send R val id _ _ _ _=>rw [Am1];exact { h with }
 | tim R K _ _ _ _ _ _=>rw [Aq1];exact { h with }
 | done R id _ _ _=>rw [Am3];exact { h with }
 | vote R K id hd c1 c2 c3 =>
  rw [Am2]
  obtain ⟨q1,q2,q3⟩:=Af5 c1
  have q3:s.v R.toNat K.toNat me=z32:=q3
  obtain ⟨R,rfl⟩:=Int.eq_ofNat_of_zero_le q1.1
  have q3:s.v R K.toNat me=z32:=q3
  have hu:Up s.v (setV s.v R K.toNat me id):=Up.set q3
  have hK:K.toNat=0/\K=0∨K.toNat=1/\K=1:=by rcases q1.2.2.1 with rfl | rfl;exact .inl ⟨rfl,rfl⟩;exact .inr ⟨rfl,rfl⟩
  show Hist n me { s with v:=setV s.v R K.toNat me id,top:=R,lk:=if K=1/\id≠n32 then ((R:Int)+1,id) else s.lk }
  have hlk:∀ x:Nat,s.v x 1 me≠z32->s.v x 1 me≠n32->(x:Int)+1<=(if K=1/\id≠n32 then ((R:Int)+1,id) else s.lk).1:=by
   intro x a b
   have y1:=h.h3 x a b
   have y2:=h.h4 x 1 a
   split
   . show (x:Int)+1<=R+1;omega
   . exact y1
  refine ⟨fun x a b=>?_,fun x1 x2 hlt a b c d e=>?_,fun x a b=>?_,fun a=>?_,?_,fun x y a=>?_⟩
  . have a : setV s.v R K.toNat me id x 1 me ≠ z32 := a
    have b:setV s.v R K.toNat me id x 1 me≠n32:=b
    show need n<=cnt n (setV s.v R K.toNat me id) x 0 (setV s.v R K.toNat me id x 1 me)
    by_cases q:x=R/\1=K.toNat
    . obtain ⟨rfl, w⟩ := q
      rw [<- w]at a b hu ⊢
      rw [Al8]at a b ⊢
      rcases c3 with c3 | ⟨_,c3⟩ | ⟨c3,_⟩
      . exact absurd c3 b
      . exact Nat.le_trans (Aq4 (Ag7 c3).1).2 (Av5 hu a)
      . omega
    . rw [Ac5 q] at a b ⊢
      exact Nat.le_trans (h.h1 x a b) (Av5 hu a)
  . have a' : setV s.v R K.toNat me id x1 1 me ≠ z32 := a
    have b':setV s.v R K.toNat me id x1 1 me≠n32:=b
    have c':setV s.v R K.toNat me id x2 0 me≠z32:=c
    have d':setV s.v R K.toNat me id x2 0 me≠n32:=d
    have e':setV s.v R K.toNat me id x2 0 me≠setV s.v R K.toNat me id x1 1 me:=e
    show ∃ k,x1<=k/\k < x2/\need n<=cnt n (setV s.v R K.toNat me id) k 0 (setV s.v R K.toNat me id x2 0 me)
    rcases hK with ⟨w,hK⟩ | ⟨w,hK⟩
    . rw [w] at a' b' c' d' e' hu ⊢
      have ne1:setV s.v R 0 me id x1 1 me=s.v x1 1 me:=Ac5 (by omega)
      rw [ne1]at a' b' e'
      by_cases q:x2=R
      . subst q
        rw [Al8]at c' d' e' ⊢
        have y3:=h.h3 x1 a' b'
        rcases c3 with c3 | ⟨c3,_⟩ | ⟨_,c4,c5⟩
        . exact absurd c3 d'
        . omega
        . rcases c5 with c5 | c5 | ⟨k, c5, c6, c7, c8⟩
          . omega
          . obtain ⟨y4, y5, y6⟩ := h.h5 (by omega)
            refine ⟨(s.lk.1 - 1).toNat,by omega,by omega,?_⟩
            have:=h.h1 (s.lk.1 - 1).toNat (by rw [y4];exact y5) (by rw [y4];exact y6)
            rw [y4,c5]at this
            exact Nat.le_trans this (Av5 hu c')
          . refine ⟨k.toNat, by omega, by omega, ?_⟩
            exact Nat.le_trans (Aq4 (Ag7 c8).1).2 (Av5 hu c')
      . have ne2 : setV s.v R 0 me id x2 0 me = s.v x2 0 me := Ac5 (by omega)
        rw [ne2]at c' d' e' ⊢
        obtain ⟨k,z1,z2,z3⟩:=h.h2 x1 x2 hlt a' b' c' d' e'
        exact ⟨k,z1,z2,Nat.le_trans z3 (Av5 hu c')⟩
    . rw [w] at a' b' c' d' e' hu ⊢
      have ne2:setV s.v R 1 me id x2 0 me=s.v x2 0 me:=Ac5 (by omega)
      rw [ne2]at c' d' e' ⊢
      by_cases q:x1=R
      . subst q
        have:=h.h4 x2 0 c'
        omega
      . have ne1 : setV s.v R 1 me id x1 1 me = s.v x1 1 me := Ac5 (by omega)
        rw [ne1]at a' b' e'
        obtain ⟨k,z1,z2,z3⟩:=h.h2 x1 x2 hlt a' b' c' d' e'
        exact ⟨k,z1,z2,Nat.le_trans z3 (Av5 hu c')⟩
  . have a : setV s.v R K.toNat me id x 1 me ≠ z32 := a
    have b:setV s.v R K.toNat me id x 1 me≠n32:=b
    show (x:Int)+1<=(if K=1/\id≠n32 then ((R:Int)+1,id) else s.lk).1
    by_cases q:x=R/\1=K.toNat
    . obtain ⟨rfl, w⟩ := q
      rw [<- w,Al8]at b
      rw [if_pos ⟨by omega,b⟩]
      exact Int.le_refl _
    . rw [Ac5 q] at a b
      exact hlk x a b
  . have a : 0 < (if K = 1 /\ id ≠ n32 then ((R : Int) + 1, id) else s.lk).1 := a
    show setV s.v R K.toNat me id ((if K=1/\id≠n32 then ((R:Int)+1,id) else s.lk).1 - 1).toNat 1 me=(if K=1/\id≠n32 then ((R:Int)+1,id) else s.lk).2/\(if K=1/\id≠n32 then ((R:Int)+1,id) else s.lk).2≠z32/\(if K=1/\id≠n32 then ((R:Int)+1,id) else s.lk).2≠n32
    by_cases q:K=1/\id≠n32
    . rw [if_pos q]
      refine ⟨?_,q2,q.2⟩
      have:((R:Int)+1 - 1).toNat=R:=by omega
      show setV s.v R K.toNat me id ((R:Int)+1 - 1).toNat 1 me=id
      rw [this,q.1]
      exact Al8
    . rw [if_neg q] at a ⊢
      obtain ⟨y4,y5,y6⟩:=h.h5 a
      refine ⟨?_,y5,y6⟩
      rw [Ac5,y4]
      rintro ⟨z1,z2⟩
      rw [z1,z2,q3]at y4
      exact y5 y4.symm
  . show 0 <= (if K = 1 /\ id ≠ n32 then ((R : Int) + 1, id) else s.lk).1
    split
    . show (0:Int)<=R+1;omega
    . exact h.h6
  . have a : setV s.v R K.toNat me id x y me ≠ z32 := a
    show (x:Int)<=R
    by_cases q:x=R/\y=K.toNat
    . rw [q.1];exact Int.le_refl _
    . rw [Ac5 q] at a
      have:=h.h4 x y a
      omega
theorem Hist.fold {n me:Nat} {kn:List Bts}:∀ {l:List Act} {s:Led},Hist n me s->Led.good n me kn s l->Hist n me (l.foldl (Led.after me) s)
 | [],s,h,_=>h
 | a::l,s,h,g=>by
  show Hist n me (l.foldl (Led.after me) (s.after me a))
  exact Hist.fold (h.after g.1) g.2
theorem BB3 {n me:Nat} {v:Vt} {i:RIn}:Up v (giveV n me v i)/\∀ R K,giveV n me v i R K me=v R K me:=by
 unfold giveV
 split
 . rename_i q
   refine ⟨?_,fun R K=>Ax5 q.2⟩
   unfold putV
   split
   . rename_i w
     exact Up.set (Af5 w).2.2
   . exact fun _ _ _ _=>rfl
 . exact ⟨fun _ _ _ _=>rfl,fun _ _=>rfl⟩
def Dn (n:Nat) (v:Vt) (id:Bts):Prop:=∃ R,id≠z32/\id≠n32/\need n<=cnt n v R 1 id
theorem Dn.up {n:Nat} {v v':Vt} {id:Bts} (h:Dn n v id) (hu:Up v v'):Dn n v' id:=by
 obtain ⟨R,h1,h2,h3⟩:=h
 exact ⟨R,h1,h2,Nat.le_trans h3 (Av5 hu h1)⟩
theorem B59 {n me:Nat} {kn:List Bts} {s:Led} {a:Act} (h:s.ok n me kn a) (k:a.kind=4):Dn n s.v a.id:=by
 cases h with
 | send R val id _ _ _ _=>exact absurd k (by show ¬ ((1:Int)=4);omega)
 | tim R K _ _ _ _ _ _=>exact absurd k (by show ¬ ((3:Int)=4);omega)
 | vote R K id hd c1 c2 c3=>exact absurd k (by show ¬ ((2:Int)=4);omega)
 | done R id _ h1 _ =>
  obtain ⟨q1,q2⟩:=Ag7 h1
  obtain ⟨q3,q4⟩:=Aq4 q1
  exact ⟨R.toNat,q3,q2,q4⟩
section
variable {n:Nat} {s:Nat->Led}
structure All (n:Nat) (s:Nat->Led):Prop where
 ok:okN n
 hist:∀ i,i < n - flts n->Hist n i (s i)
 auth:∀ i j,i < n - flts n->j < n - flts n->∀ R K,(s i).v R K j≠z32->(s j).v R K j=(s i).v R K j
theorem All.polka (h:All n s) {i:Nat} (hi:i < n - flts n) {R:Nat} {id:Bts} (h1:id≠z32) (h2:id≠n32) (h3:need n<=cnt n (s i).v R 1 id):∀ (k:Nat),R<=k->∀ j,j < n - flts n->∀ id',id'≠z32->id'≠n32->need n<=cnt n (s j).v k 0 id'->id'=id:=by
 intro k
 induction k using Nat.strongRecOn with
 | _ k ih =>
  intro hk j hj id' q1 q2 q3
  by_cases e:k=R
  . subst e
    obtain ⟨w,w1,w2,_⟩:=AA5 h.ok _ _ h3 h3
    have w2:=of_decide_eq_true w2
    have w3:(s w).v k 1 w=id:=by rw [h.auth i w hi w1 k 1 (by rw [w2];exact h1),w2]
    have w4:=(h.hist w w1).h1 k (by rw [w3];exact h1) (by rw [w3];exact h2)
    rw [w3]at w4
    obtain ⟨x,x1,x2,x3⟩:=AA5 h.ok _ _ w4 q3
    have x2:=of_decide_eq_true x2
    have x3:=of_decide_eq_true x3
    have y1:=h.auth w x w1 x1 k 0 (by rw [x2];exact h1)
    have y2:=h.auth j x hj x1 k 0 (by rw [x3];exact q1)
    rw [x2]at y1;rw [x3]at y2
    exact y2.symm.trans y1
  . apply Decidable.byContradiction
    intro ne
    obtain ⟨w,w1,w2,w3⟩:=AA5 h.ok _ _ h3 q3
    have w2:=of_decide_eq_true w2
    have w3:=of_decide_eq_true w3
    have y1:=h.auth i w hi w1 R 1 (by rw [w2];exact h1)
    have y2:=h.auth j w hj w1 k 0 (by rw [w3];exact q1)
    rw [w2]at y1;rw [w3]at y2
    obtain ⟨k',z1,z2,z3⟩:=(h.hist w w1).h2 R k (by omega) (by rw [y1];exact h1) (by rw [y1];exact h2) (by rw [y2];exact q1) (by rw [y2];exact q2) (by rw [y1,y2];exact ne)
    rw [y2]at z3
    exact ne (ih k' z2 z1 w w1 id' q1 q2 z3)
theorem All.agree (h:All n s) {i j:Nat} (hi:i < n - flts n) (hj:j < n - flts n) {id id':Bts} (h1:Dn n (s i).v id) (h2:Dn n (s j).v id'):id=id':=by
 have key:∀ {i j:Nat},i < n - flts n->j < n - flts n->∀ {id id':Bts} {R R':Nat},R<=R'->id≠z32->id≠n32->need n<=cnt n (s i).v R 1 id->id'≠z32->id'≠n32->need n<=cnt n (s j).v R' 1 id'->id'=id:=by
  intro i j hi hj id id' R R' hle a1 a2 a3 b1 b2 b3
  obtain ⟨w,w1,w2,_⟩:=AA5 h.ok _ _ b3 b3
  have w2:=of_decide_eq_true w2
  have w3:(s w).v R' 1 w=id':=by rw [h.auth j w hj w1 R' 1 (by rw [w2];exact b1),w2]
  have w4:=(h.hist w w1).h1 R' (by rw [w3];exact b1) (by rw [w3];exact b2)
  rw [w3]at w4
  exact h.polka hi a1 a2 a3 R' hle w w1 id' b1 b2 w4
 obtain ⟨R,a1,a2,a3⟩:=h1
 obtain ⟨R',b1,b2,b3⟩:=h2
 rcases Nat.le_total R R' with q | q
 . exact (key hi hj q a1 a2 a3 b1 b2 b3).symm
 . exact key hj hi q b1 b2 b3 a1 a2 a3
end
end Go.Sv
namespace Go.Sv
open Go
def TS (Bx X:Nat->Prop) (A:AS):Loc->Prop
 | .row b=>(∃ cs,A.blk[b]?=some ⟨cs,.var⟩/\Bx b)∨∃ cs f base,A.blk[b]?=some ⟨cs,.arr f base⟩/\X f
 | .fam f=>X f
 | _=>False
section
variable {Bx X:Nat->Prop} {A B:AS}
theorem TS.box {b:Nat} {cs:List V} (hb:A.blk[b]?=some ⟨cs,.var⟩) (h:¬ Bx b):¬ TS Bx X A (.row b):=by
 rintro (⟨cs',q,w⟩ | ⟨cs',f,base,q,w⟩)
 . exact h w
 . rw [hb]at q;cases q
theorem TS.arr {b f base:Nat} {cs:List V} (hb:A.blk[b]?=some ⟨cs,.arr f base⟩) (h:¬ X f):¬ TS Bx X A (.row b):=by
 rintro (⟨cs',q,w⟩ | ⟨cs',f',base',q,w⟩)
 . rw [hb]at q;cases q
 . rw [hb]at q;cases q;exact h w
theorem TS.off {fo:Option Nat} (h:∀ f,fo=some f->¬ X f):Off fo A (TS Bx X A):=by
 intro b q f k base hf hk
 rcases q with ⟨cs',q,w⟩ | ⟨cs',f',base',q,w⟩
 . rw [q]at hk;cases hk;simp
 . rw [q] at hk; cases hk
   intro z;injection z with z1 z2
   subst z1
   exact h _ hf w
theorem TS.new {A0:AS} (hw:WF A0) (hf:Fr S0 A0 A) (h1:∀ b,Bx b->A0.blk.length<=b) (h2:∀ f,X f->A0.blk.length<=f) {x:Loc} (h:TS Bx X A x):x.newTo A0:=by
 cases x with
 | row b =>
  rcases h with ⟨cs,q,w⟩ | ⟨cs,f,base,q,w⟩
  . exact h1 b w
  . rcases Nat.lt_or_ge b A0.blk.length with z | z
    rotate_left
    . exact z
    obtain ⟨cs',k1,k2⟩:=hf.kind b _ (List.getElem?_eq_getElem z)
    rw [q]at k1
    have k3:A0.blk[b].kind=.arr f base:=by cases hk:A0.blk[b].kind <;> rw [hk]at k1 <;> cases k1;rfl
    have:=hw b _ f base (List.getElem?_eq_getElem z) k3
    have:=h2 f w;omega
 | fam f=>exact h2 f h
 | map r=>exact h.elim
 | loop r=>exact h.elim
 | it r=>exact h.elim
theorem Fr.mono' {S S':Loc->Prop} (h:Fr S A B) (k:∀ x,S x->S' x):Fr S' A B:=h.mono k
end
end Go.Sv
namespace Go.Sv.Try
open Go Go.Proofs
section
variable {A B C:AS} {rp cp:Nat} {r r':Rd} {vb:Nat->Nat} {fk fa:Option Nat} {Bx X:Nat->Prop}
def XR (vb:Nat->Nat) (fk:Option Nat):Nat->Prop:=fun f=>(∃ j,j < 24/\f=vb j)∨fk=some f
theorem Bz4 (h:IsRd A rp r cp vb fk none) {x:Loc} (q:rdS A rp vb fk none x):TS (·=rp) (XR vb fk) A x:=by
 rcases q with rfl | ⟨j,hj,rfl⟩ | q | q
 . obtain ⟨kv, av, b, _⟩ := h.box
   exact .inl ⟨_,b,rfl⟩
 . exact .inr ⟨_,_,_,h.cnt.row j hj,.inl ⟨j,hj,rfl⟩⟩
 . cases hfk : fk with
   | none=>rw [hfk]at q;exact q.elim
   | some f =>
    rw [hfk]at q
    cases x with
    | row b =>
     obtain ⟨k,base,z1,z2⟩:=q
     obtain ⟨cs,kd⟩:=k
     have z2:kd=.arr f base:=z2
     subst z2
     exact .inr ⟨_,_,_,z1,.inr rfl⟩
    | fam g=>exact .inr (congrArg some (show f=g from (show g=f from q).symm))
    | map r=>exact q.elim
    | loop r=>exact q.elim
    | it r=>exact q.elim
 . exact q.elim
theorem IsRd.ts (h:IsRd A rp r cp vb fk none) (hf:Fr (TS Bx X A) A B) (h1:¬ Bx rp) (h2:¬ Bx cp) (h3:∀ f,XR vb fk f->¬ X f):IsRd B rp r cp vb fk none:=by
 obtain ⟨kv,av,b,_⟩:=h.box
 exact h.fr hf (TS.box b h1) (TS.box h.cnt.box h2) (fun j hj=>⟨TS.arr (h.cnt.row j hj) (h3 _ (.inl ⟨j,hj,rfl⟩)),h3 _ (.inl ⟨j,hj,rfl⟩)⟩) (TS.off fun f q=>h3 f (.inr q)) (TS.off fun f q=>by cases q)
theorem IsRd.xlt (h:IsRd A rp r cp vb fk none) {f:Nat} (q:XR vb fk f):f < A.blk.length:=by
 rcases q with ⟨j,hj,rfl⟩ | q
 . exact h.cnt.lt hj
 . obtain ⟨kv, av, b, b2, _⟩ := h.box
   exact b2.famLt f q
structure Rds (B:AS) (g:Nat) (rp cp:Nat->Nat) (vb:Nat->Nat->Nat) (r:Nat->Rd) (fk:Nat->Option Nat):Prop where
 rd:∀ i,i < g->IsRd B (rp i) (r i) (cp i) (vb i) (fk i) none
 dj:∀ i j,i < g->j < g->i≠j->∀ f,XR (vb i) (fk i) f->¬ XR (vb j) (fk j) f
 bx:∀ i j,i < g->j < g->i≠j->rp i≠rp j/\rp i≠cp j
variable {g:Nat} {rps cps:Nat->Nat} {vbs:Nat->Nat->Nat} {rs:Nat->Rd} {fks:Nat->Option Nat}
def upd {α:Type} (f:Nat->α) (i:Nat) (x:α):Nat->α:=fun j=>if j=i then x else f j
theorem AS2 {α:Type} (f:Nat->α) (i:Nat) (x:α):upd f i x i=x:=if_pos rfl
theorem AJ1 {α:Type} (f:Nat->α) {i j:Nat} (x:α) (h:j≠i):upd f i x j=f j:=if_neg h
theorem Rds.s0 (h:Rds B g rps cps vbs rs fks) (hf:Fr S0 B C):Rds C g rps cps vbs rs fks:={ h with rd:=fun i hi=>(h.rd i hi).fr0 hf }
theorem Rds.ts (h:Rds B g rps cps vbs rs fks) (hf:Fr (TS Bx X B) B C) (h1:∀ i,i < g->¬ Bx (rps i)/\¬ Bx (cps i)) (h2:∀ i,i < g->∀ f,XR (vbs i) (fks i) f->¬ X f):Rds C g rps cps vbs rs fks :=
 { h with rd:=fun i hi=>(h.rd i hi).ts hf (h1 i hi).1 (h1 i hi).2 (h2 i hi) }
theorem Rds.give (h:Rds B g rps cps vbs rs fks) {i:Nat} (hi:i < g) {x:Rd×List Act} {w:V} (k:GRes B (rps i) (cps i) (vbs i) (fks i) none C x w) :
 ∃ fk' fo,Rds C g rps cps vbs (upd rs i x.1) (upd fks i fk')/\Lst eAct Hp.emp C w x.2 fo/\(∀ f,fo=some f->B.blk.length<=f)/\(∀ f,fo=some f->∀ j,j < g->¬ XR (vbs j) (upd fks i fk' j) f)/\Gr B (fks i) fk'/\Fr (TS (·=rps i) (XR (vbs i) (fks i)) B) B C:=by
 obtain ⟨fk',fo,k1,k2,k3,k4,k5,k6,k7⟩:=k
 have hfo:∀ f,fo=some f->B.blk.length<=f:=fun f q=>by
  rcases k3.or q with y | y
  . cases y
  . exact y
 have hts:=k1.mono' fun x q=>Bz4 (h.rd i hi) q
 have hx:∀ f,XR (vbs i) fk' f->XR (vbs i) (fks i) f∨B.blk.length<=f:=fun f q=>by
  rcases q with q | q
  . exact .inl (.inl q)
  . rcases k2.or q with y | y
    . exact .inl (.inr y)
    . exact .inr y
 refine ⟨fk',fo,⟨fun j hj=>?_,fun a b ha hb hab f q1 q2=>?_,h.bx⟩,k5,hfo,fun f q j hj w=>?_,k2,hts⟩
 . by_cases e : j = i
   . subst e;rw [AS2,AS2];exact k4
   . rw [AJ1 _ _ e, AJ1 _ _ e]
     exact (h.rd j hj).ts hts (fun q=>(h.bx i j hi hj (Ne.symm e)).1 q.symm) (fun q=>(h.bx i j hi hj (Ne.symm e)).2 q.symm) fun f q w=>h.dj j i hj hi e f q w
 . by_cases e : a = i
   . subst e
     rw [AS2]at q1;rw [AJ1 _ _ (Ne.symm hab)]at q2
     rcases hx f q1 with y | y
     . exact h.dj a b ha hb hab f y q2
     . have:=(h.rd b hb).xlt q2;omega
   . rw [AJ1 _ _ e] at q1
     by_cases e2:b=i
     . subst e2
       rw [AS2]at q2
       rcases hx f q2 with y | y
       . exact h.dj a b ha hb hab f q1 y
       . have:=(h.rd a ha).xlt q1;omega
     . rw [AJ1 _ _ e2] at q2
       exact h.dj a b ha hb hab f q1 q2
 . have hl := hfo f q
   by_cases e:j=i
   . subst e
     rw [AS2]at w
     rcases w with ⟨a,ha,rfl⟩ | w
     . exact k7 a ha q
     . exact k6 f q w
   . rw [AJ1 _ _ e] at w
     have:=(h.rd j hj).xlt w;omega
end
end Go.Sv.Try
namespace Go.Sv
open Go
theorem TS.back {Bx Bx' X X':Nat->Prop} {S:Loc->Prop} {A B:AS} (hw:WF A) (hf:Fr S A B) (h1:∀ b,Bx' b->Bx b∨A.blk.length<=b) (h2:∀ f,X' f->X f∨A.blk.length<=f) {x:Loc} (h:TS Bx' X' B x):TS Bx X A x∨x.newTo A:=by
 cases x with
 | row b =>
  rcases Nat.lt_or_ge b A.blk.length with z | z
  rotate_left
  . exact .inr z
  obtain ⟨cs',k1,k2⟩:=hf.kind b _ (List.getElem?_eq_getElem z)
  rcases h with ⟨cs,q,w⟩ | ⟨cs,f,base,q,w⟩
  . rw [q] at k1
    have k3:A.blk[b].kind=.var:=by cases hk:A.blk[b].kind <;> rw [hk]at k1 <;> cases k1 <;> rfl
    rcases h1 b w with y | y
    . exact .inl (.inl ⟨A.blk[b].cells,by rw [List.getElem?_eq_getElem z,<- k3],y⟩)
    . omega
  . rw [q] at k1
    have k3:A.blk[b].kind=.arr f base:=by cases hk:A.blk[b].kind <;> rw [hk]at k1 <;> cases k1 <;> rfl
    have hlt:=hw b _ f base (List.getElem?_eq_getElem z) k3
    rcases h2 f w with y | y
    . exact .inl (.inr ⟨A.blk[b].cells,f,base,by rw [List.getElem?_eq_getElem z,<- k3],y⟩)
    . omega
 | fam f=>exact (h2 f h).imp id id
 | map r=>exact h.elim
 | loop r=>exact h.elim
 | it r=>exact h.elim
theorem TS.row {Bx X:Nat->Prop} {A:AS} {b:Nat} {cs:List V} (hb:A.blk[b]?=some ⟨cs,.var⟩) (h:Bx b) {x:Loc} (q:x=.row b):TS Bx X A x:=by
 subst q;exact .inl ⟨cs,hb,h⟩
theorem TS.arow {Bx X:Nat->Prop} {A:AS} {b f base:Nat} {cs:List V} (hb:A.blk[b]?=some ⟨cs,.arr f base⟩) (h:X f) {x:Loc} (q:x=.row b):TS Bx X A x:=by
 subst q;exact .inr ⟨cs,f,base,hb,h⟩
theorem TS.famO {Bx X:Nat->Prop} {A:AS} {fo:Option Nat} (h:∀ f,fo=some f->X f) {x:Loc} (q:inFamO A fo x):TS Bx X A x:=by
 cases fo with
 | none=>exact q.elim
 | some f =>
  cases x with
  | row b =>
   obtain ⟨k,base,z1,z2⟩:=q
   obtain ⟨cs,kd⟩:=k
   have z2:kd=.arr f base:=z2
   subst z2
   exact .inr ⟨_,_,_,z1,h f rfl⟩
  | fam g=>exact (show g=f from q) ▸ h f rfl
  | map r=>exact q.elim
  | loop r=>exact q.elim
  | it r=>exact q.elim
structure Ml where
 src:Nat
 dst:Nat
 act:Act
end Go.Sv
namespace Go.Sv.Try
open Go Go.Proofs
def mlC (x:Ml):List V:=.int .i64 (x.src:Int)::.int .i64 (x.dst:Int)::actC x.act
theorem BB4 {x:Ml} (h:x.act.id.length=32):(mlC x).length=38:=by simp [mlC,Ar8 h]
theorem BB5 (x:Ml):(mlC x).all V.one=true:=by simp only [mlC,List.all_cons,A40];rfl
def eMl:Enc Ml:=⟨38,true,fun _ cs x=>cs=mlC x/\x.act.id.length=32,fun h=>by rw [h.1,BB4 h.2],fun h=>by simp at h,fun h=>by rw [h.1,BB5],fun _ h=>h⟩
def ePt:Enc Nat:=⟨1,false,fun _ cs x=>cs=[.ptr x 0],fun h=>by rw [h];rfl,fun _=>rfl,fun h=>by rw [h];rfl,fun _ h=>h⟩
theorem BB6 {m:Hp} {w:V} {x:Nat}:ePt.W m w x ↔ w=.ptr x 0:=by
 unfold Enc.W;rw [if_neg (by decide)]
 show [w]=[V.ptr x 0] ↔ _
 simp
section
variable {A B C:AS} {hp g:Nat} {rps cps:Nat->Nat} {vbs:Nat->Nat->Nat} {rs:Nat->Rd} {fks:Nat->Option Nat} {av mv:V} {fal fm:Option Nat} {db:Nat} {ml:List Ml} {dn:Nat->Bts}
structure IsHall (B:AS) (hp g:Nat) (rps cps:Nat->Nat) (vbs:Nat->Nat->Nat) (rs:Nat->Rd) (fks:Nat->Option Nat) (fal fm:Option Nat) (db:Nat) (ml:List Ml) (dn:Nat->Bts):Prop where
 box:∃ av mv,B.blk[hp]?=some ⟨[av,.int .i64 g,mv,.sl db 0 g 32],.var⟩/\Lst ePt Hp.emp B av ((List.range g).map rps) fal/\Lst eMl Hp.emp B mv ml fm
 row:B.blk[db]?=some ⟨reps g fun i=>bc (dn i),.arr db 0⟩
 sole:Sole B db db
 dl:∀ i,(dn i).length=32
 rds:Rds B g rps cps vbs rs fks
 hx:∀ i,i < g->∀ f,XR (vbs i) (fks i) f->f≠db/\fm≠some f/\fal≠some f
 hd:fm≠some db/\fal≠some db
 hm:∀ f,fm=some f->fal≠some f
 hb:∀ i,i < g->rps i≠hp/\cps i≠hp
 g7:g<=7
theorem IsHall.s0 (h:IsHall B hp g rps cps vbs rs fks fal fm db ml dn) (hf:Fr S0 B C):IsHall C hp g rps cps vbs rs fks fal fm db ml dn:=by
 obtain ⟨av,mv,b1,b2,b3⟩:=h.box
 exact { h with box:=⟨av,mv,hf.row0 b1,b2.fr0 hf,b3.fr0 hf⟩,row:=hf.row0 h.row,sole:=h.sole.fr hf (fun q=>q),rds:=h.rds.s0 hf }
theorem IsHall.done (hw:WF B) (h:IsHall B hp g rps cps vbs rs fks fal fm db ml dn) {who:Nat} (hi:who < g) {id:Bts} (hid:id.length=32) :
 ∃ C,evStore Try.prog 23 (.ptr db (who * 32)) (.agg (bc id)) B=some C/\IsHall C hp g rps cps vbs rs fks fal fm db ml (fun j=>if j=who then id else dn j)/\Fr (·=.row db) B C:=by
 have hat:=(At.rep (n:=g) (k:=32) (f:=fun i=>bc (dn i)) (fun i _=>by rw [Aa5,h.dl]) hi).le
 rw [Aa5,h.dl]at hat
 obtain ⟨C,s1,s2,s3,s4,s5⟩:=As9 (P:=Try.prog) (t:=23) (o:=who * 32) (x:=.agg (bc id)) h.sole h.row rfl (by rw [Aa5,hid];exact AH3) (by rw [Aa5,hid];exact hat) (Ae6 _)
 rw [Ar7 (k:=32) (fun i _=>by rw [Aa5,h.dl]) hi (by rw [Aa5,hid])]at s3
 have e:(reps g fun j=>if j=who then bc id else bc (dn j))=reps g fun i=>bc (if i=who then id else dn i):=Ak0 fun c _=>by by_cases q:c=who <;> simp [q]
 rw [e]at s3
 have hts:Fr (TS (fun _=>False) (·=db) B) B C:=s2.mono fun x q=>TS.arow (X:=(·=db)) h.row rfl q
 obtain ⟨av,mv,b1,b2,b3⟩:=h.box
 refine ⟨C,s1,{ h with box:=⟨av,mv,s2.row _ _ b1 ?_,b2.fr hts (TS.off fun f q w=>h.hd.2 (by rw [q,w])),b3.fr hts (TS.off fun f q w=>h.hd.1 (by rw [q,w]))⟩,row:=s3,sole:=s5,dl:=fun i=>?_,rds:=h.rds.ts hts (fun i _=>⟨fun q=>q,fun q=>q⟩) fun i hi f q w=>(h.hx i hi f q).1 w },s2⟩
 . intro q; injection q with q
   have:=h.row;rw [<- q,b1]at this
   injection this with this;injection this with _ k;cases k
 . show (if i = who then id else dn i).length = 32
   split
   . exact hid
   . exact h.dl i
end
end Go.Sv.Try
namespace Go.Sv
open Go
def TM (Bx X Mp:Nat->Prop) (A:AS):Loc->Prop
 | .row b=>TS Bx X A (.row b)
 | .fam f=>X f
 | .map r=>Mp r
 | _=>False
section
variable {Bx X Mp Bx' X' Mp':Nat->Prop} {A B:AS} {S:Loc->Prop}
theorem TM.ts {x:Loc} (h:TS Bx X A x):TM Bx X Mp A x:=by
 cases x with
 | row b=>exact h
 | fam f=>exact h
 | map r=>exact h.elim
 | loop r=>exact h.elim
 | it r=>exact h.elim
theorem TM.back (hw:WF A) (hf:Fr S A B) (h1:∀ b,Bx' b->Bx b∨A.blk.length<=b) (h2:∀ f,X' f->X f∨A.blk.length<=f) (h3:∀ r,Mp' r->Mp r∨A.maps.length<=r) {x:Loc} (h:TM Bx' X' Mp' B x):TM Bx X Mp A x∨x.newTo A:=by
 cases x with
 | row b=>exact TS.back (x:=.row b) hw hf h1 h2 h
 | fam f=>exact h2 f h
 | map r=>exact h3 r h
 | loop r=>exact h.elim
 | it r=>exact h.elim
theorem TM.mono (h1:∀ b,Bx b->Bx' b) (h2:∀ f,X f->X' f) (h3:∀ r,Mp r->Mp' r) {x:Loc} (h:TM Bx X Mp A x):TM Bx' X' Mp' A x:=by
 cases x with
 | row b=>exact h.elim (fun ⟨cs,q,w⟩=>.inl ⟨cs,q,h1 _ w⟩) fun ⟨cs,f,base,q,w⟩=>.inr ⟨cs,f,base,q,h2 _ w⟩
 | fam f=>exact h2 f h
 | map r=>exact h3 r h
 | loop r=>exact h.elim
 | it r=>exact h.elim
theorem TM.tch:Tch X A (TM Bx X Mp A):=by
 rintro b k (⟨cs,q,w⟩ | ⟨cs,f,base,q,w⟩) hk
 . rw [q]at hk;cases hk;exact .inl rfl
 . rw [q]at hk;cases hk;exact .inr ⟨f,base,rfl,w⟩
theorem TM.box {b:Nat} {cs:List V} (hb:A.blk[b]?=some ⟨cs,.var⟩) (h:¬ Bx b):¬ TM Bx X Mp A (.row b):=TS.box hb h
theorem TM.off {fo:Option Nat} (h:∀ f,fo=some f->¬ X f):Off fo A (TM Bx X Mp A):=Off.tch TM.tch h
theorem TM.new {A0:AS} (hw:WF A0) (hf:Fr S0 A0 A) (h1:∀ b,Bx b->A0.blk.length<=b) (h2:∀ f,X f->A0.blk.length<=f) (h3:∀ r,Mp r->A0.maps.length<=r) {x:Loc} (h:TM Bx X Mp A x):x.newTo A0:=by
 cases x with
 | row b=>exact TS.new hw hf h1 h2 (x:=.row b) h
 | fam f=>exact h2 f h
 | map r=>exact h3 r h
 | loop r=>exact h.elim
 | it r=>exact h.elim
end
structure CoK where
 cb:Nat
 rp:Nat
 cp:Nat
 mb:Nat
 mg:Nat
 vb:Nat->Nat
structure CoOk (c:Co):Prop where
 now:0<=c.now/\c.now<=1000000
 tim:c.tim.length<=40
 bat:∀ p∈c.bat,p.1=batchI p.2/\p.2.length<=1000000
 done:c.done.length<=1000000
theorem CoOk.rd {c:Co} (h:CoOk c) {r:Rd}:CoOk { c with rd:=r }:={ h with }
theorem Am6 {κ β:Type} [DecidableEq κ] {k:κ} {v:β}:∀ {l:List (κ×β)},lookL l k=some v->(k,v)∈l
 | [],h=>by simp [lookL]at h
 | (a,w)::l,h=>by
  unfold lookL at h
  split at h
  . rename_i q;cases h;rw [q];exact List.mem_cons_self
  . exact List.mem_cons_of_mem _ (Am6 h)
theorem CoOk.look {c:Co} (h:CoOk c) (k:Bts):((lookL c.bat k).getD []).length<=1000000:=by
 cases q:lookL c.bat k with
 | none=>simp
 | some v=>exact (h.bat _ (Am6 q)).2
theorem Bp0 {l:List (Bts×Bts)} {b:Bts} (h:∀ p∈l,p.1=batchI p.2/\p.2.length<=1000000) (hb:b.length<=1000000):∀ p∈haveB l b,p.1=batchI p.2/\p.2.length<=1000000:=by
 intro p hp
 unfold haveB at hp
 split at hp
 . exact h p hp
 . rcases List.mem_append.1 hp with q | q
   . exact h p q
   . rw [List.mem_singleton.1 q];exact ⟨rfl,hb⟩
def nz (X:Nat->Prop) (fk ft fo:Option Nat):Nat->Prop:=fun f=>X f∨fk=some f∨ft=some f∨fo=some f
def Gw (A:AS) (fo fo':Option Nat):Prop:=∀ f,fo'=some f->fo=some f∨A.blk.length<=f
theorem Gw.or {A:AS} {fo fo':Option Nat} (h:Gw A fo fo') {f:Nat} (hf:fo'=some f):fo=some f∨A.blk.length<=f:=h f hf
theorem Gw.rfl' {A:AS} {fo:Option Nat}:Gw A fo fo:=fun f q=>.inl q
theorem Gr.gw {A:AS} {fo fo':Option Nat} (h:Gr A fo fo'):Gw A fo fo':=fun f q=>h.or q
theorem Gw.trans {A B:AS} {f1 f2 f3:Option Nat} (h:Gw A f1 f2) (k:Gw B f2 f3) (hl:A.blk.length<=B.blk.length):Gw A f1 f3:=fun f q=>by
 rcases k f q with z | z
 . exact h f z
 . exact .inr (by omega)
theorem Gw.from {A B:AS} {f1 f2:Option Nat} (h:Gw B f1 f2) (hl:A.blk.length<=B.blk.length):Gw A f1 f2:=fun f q=>(h f q).imp id fun z=>by omega
structure Kn (r r':Rd):Prop where
 n:r'.n=r.n
 me:r'.me=r.me
 height:r'.height=r.height
theorem Kn.rfl' (r:Rd):Kn r r:=⟨rfl,rfl,rfl⟩
theorem Kn.trans {a b c:Rd} (h:Kn a b) (k:Kn b c):Kn a c:=⟨k.n.trans h.n,k.me.trans h.me,k.height.trans h.height⟩
theorem Kp.kn {r r':Rd} (h:Kp r r'):Kn r r':=⟨h.n,h.me,h.height⟩
theorem Am7 (r:Rd):Kn r r.settle.1:=by have:=AL8 1000 r;exact ⟨this.n,this.me,this.height⟩
theorem Bp1 (r:Rd) (id:Bts):Kn r (r.Begin id).1:=by
 unfold Rd.Begin;split
 . exact Am7 r
 . exact Kn.trans (b:=({ r with fresh:=if id=z32 then r.fresh else id }:Rd).begin 0) (by have:=Au8 ({ r with fresh:=if id=z32 then r.fresh else id }:Rd) 0;exact ⟨this.n,this.me,this.height⟩) (Am7 _)
theorem Ap0 (r:Rd) (id:Bts):Kn r (r.Remember id):=by unfold Rd.Remember;split <;> exact ⟨rfl,rfl,rfl⟩
theorem BB7 (r:Rd) (id:Bts):Kn r (r.Know id).1:=(Ap0 r id).trans (Am7 _)
theorem A87 (r:Rd) (R v:Int) (id:Bts):Kn r (r.Offered R v id).1:=by
 unfold Rd.Offered;refine Kn.trans ?_ (Am7 _);split <;> exact ⟨rfl,rfl,rfl⟩
theorem Bp2 (r:Rd) (R K W:Int) (id:Bts):Kn r (r.Voted R K W id).1:=by
 unfold Rd.Voted;refine Kn.trans ?_ (Am7 _);split <;> exact ⟨rfl,rfl,rfl⟩
theorem A88 (r:Rd) (R K:Int):Kn r (r.Timeout R K).1:=by
 unfold Rd.Timeout;refine Kn.trans ?_ (Am7 _)
 split
 . split
   . exact (At9 _ _ _).kn
   split
   . exact (At9 _ _ _).kn
   split
   . exact (Au8 _ _).kn
   . exact .rfl' r
 . exact .rfl' r
theorem Am8 (r:Rd) (a:Act):Kn r (r.Recall a):=by
 unfold Rd.Recall
 repeat' split
 all_goals first | exact .rfl' r | exact ⟨rfl,rfl,rfl⟩ | (simp only [];split <;> first | exact ⟨rfl,rfl,rfl⟩ | (split <;> exact ⟨rfl,rfl,rfl⟩))
end Go.Sv
namespace Go.Sv.Try
open Go Go.Proofs
def XCo (K:CoK) (fk ft:Option Nat):Nat->Prop:=fun f=>XR K.vb fk f∨ft=some f
def LCo (K:CoK) (fk ft:Option Nat) (A:AS):Loc->Prop:=TM (fun b=>b=K.cb∨b=K.rp) (XCo K fk ft) (fun r=>r=K.mb∨r=K.mg) A
structure IsCo (X:Nat->Prop) (A:AS) (K:CoK) (fk ft:Option Nat) (c:Co):Prop where
 rd:IsRd A K.rp c.rd K.cp K.vb fk none
 cm:CoM X A K.cb K.rp K.mb K.mg c ft
 sub:∀ f,XCo K fk ft f->X f
 xlt:∀ f,X f->f < A.blk.length
 ne1:K.cb≠K.rp
 ne2:K.cb≠K.cp
 dj:∀ f,ft=some f->¬ XR K.vb fk f
 rng:Rng c.rd
 acts:c.rd.acts=[]
 lim:CoOk c
section
variable {X Y:Nat->Prop} {A B C:AS} {K:CoK} {c c1 c2:Co} {fk ft fk1 ft1 fk2 ft2 fo fo1 fo2:Option Nat} {S:Loc->Prop}
theorem IsCo.boxC (h:IsCo X A K fk ft c):∃ cs,A.blk[K.cb]?=some ⟨cs,.var⟩:=by
 obtain ⟨_,_,_,b,_⟩:=h.cm.ex;exact ⟨_,b⟩
theorem IsCo.boxR (h:IsCo X A K fk ft c):∃ cs,A.blk[K.rp]?=some ⟨cs,.var⟩:=by
 obtain ⟨_,_,b,_⟩:=h.rd.box;exact ⟨_,b⟩
theorem IsCo.fr0 (h:IsCo X A K fk ft c) (hf:Fr S0 A B):IsCo X B K fk ft c :=
 { h with rd:=h.rd.fr0 hf,cm:=h.cm.fr0 hf,xlt:=fun f q=>Nat.lt_of_lt_of_le (h.xlt f q) hf.len }
theorem IsCo.ts {Bx Z Mp:Nat->Prop} (hw:WF A) (h:IsCo X A K fk ft c) (hf:Fr (TM Bx Z Mp A) A B) (h1:¬ Bx K.cb/\¬ Bx K.rp/\¬ Bx K.cp) (h2:∀ f,Z f->X f/\¬ XCo K fk ft f) (h3:¬ Mp K.mb/\¬ Mp K.mg) (hY:∀ f,Y f->X f∨A.blk.length<=f) (hs:∀ f,XCo K fk ft f->Y f) (hl:∀ f,Y f->f < B.blk.length):IsCo Y B K fk ft c:=by
 obtain ⟨cs,hb⟩:=h.boxC
 obtain ⟨cr,hr⟩:=h.boxR
 refine { h with rd:=?_,cm:=?_,sub:=hs,xlt:=hl }
 . exact h.rd.fr hf (TM.box hr h1.2.1) (TM.box h.rd.cnt.box h1.2.2) (fun j hj=>⟨TS.arr (h.rd.cnt.row j hj) fun q=>(h2 _ q).2 (.inl (.inl ⟨j,hj,rfl⟩)),fun q=>(h2 _ q).2 (.inl (.inl ⟨j,hj,rfl⟩))⟩) (TM.off fun f q w=>(h2 f w).2 (.inl (.inr q))) (TM.off fun f q=>by cases q)
 . exact h.cm.fr hf (TM.box hb h1.1) h3.1 h3.2 (TM.off fun f q w=>(h2 f w).2 (.inr q)) (Al7 hf (TM.tch.mono fun f q=>(h2 f q).1) hw hY)
structure CStep (X:Nat->Prop) (A:AS) (K:CoK) (fk ft:Option Nat) (B:AS) (fk' ft' fo:Option Nat) (c':Co):Prop where
 g1:Gr A fk fk'
 g2:Gw A ft ft'
 fr:Fr (LCo K fk ft A) A B
 vbX:∀ j,j < 24->X (K.vb j)
 new:∀ f,fo=some f->A.blk.length<=f/\¬ XCo K fk' ft' f
 co:IsCo (nz X fk' ft' fo) B K fk' ft' c'
 le:(qHp X A).le (qHp (nz X fk' ft' fo) B)
theorem AZ0 {X:Nat->Prop} {fk ft:Option Nat} (h:∀ f,XCo K fk ft f->X f) {f:Nat} (q:nz X fk ft none f):X f:=by
 rcases q with q | q | q | q
 . exact q
 . exact h f (.inl (.inr q))
 . exact h f (.inr q)
 . cases q
theorem IsCo.anti (h:IsCo X A K fk ft c) (hs:∀ f,Y f->X f) (hx:∀ f,XCo K fk ft f->Y f):IsCo Y A K fk ft c :=
 { h with cm:=h.cm.fr (.refl S0 A) (fun q=>q) (fun q=>q) (fun q=>q) .s0 (Ah6 hs),sub:=hx,xlt:=fun f q=>h.xlt f (hs f q) }
theorem CStep.rfl' (h:IsCo X A K fk ft c):CStep X A K fk ft A fk ft none c :=
 ⟨.inl rfl,.rfl',.refl _ _,fun j hj=>h.sub _ (.inl (.inl ⟨j,hj,rfl⟩)),(fun f q=>by cases q),h.anti (fun f q=>AZ0 h.sub q) (fun f q=>.inl (h.sub f q)),Ah6 fun f q=>AZ0 h.sub q⟩
theorem CStep.then0 (h:CStep X A K fk ft B fk1 ft1 fo c) (hf:Fr S0 B C):CStep X A K fk ft C fk1 ft1 fo c :=
 { h with fr:=h.fr.then0 hf,co:=h.co.fr0 hf,le:=Hp.le_trans h.le (Ad8 hf) }
theorem CStep.of0 (h:IsCo X A K fk ft c) (hf:Fr S0 A B):CStep X A K fk ft B fk ft none c:=(CStep.rfl' h).then0 hf
theorem CStep.wf (h:CStep X A K fk ft B fk1 ft1 fo c) (hw:WF A):WF B:=h.fr.wf hw
theorem CStep.next (hw:WF A) (h:CStep X A K fk ft B fk1 ft1 fo1 c1) (k:CStep (nz X fk1 ft1 fo1) B K fk1 ft1 C fk2 ft2 fo2 c2) (hfo:∀ f,fo=some f->fo1=some f∨fo2=some f):CStep X A K fk ft C fk2 ft2 fo c2:=by
 have hx:∀ f,nz X fk2 ft2 fo f->nz (nz X fk1 ft1 fo1) fk2 ft2 fo2 f:=fun f q=>by
  rcases q with q | q | q | q
  . exact .inl (.inl q)
  . exact .inr (.inl q)
  . exact .inr (.inr (.inl q))
  . exact (hfo f q).elim (fun z=>.inl (.inr (.inr (.inr z)))) fun z=>.inr (.inr (.inr z))
 have hs:∀ f,XCo K fk2 ft2 f->nz X fk2 ft2 fo f:=fun f q=>by
  rcases q with (⟨j,hj,rfl⟩ | q) | q
  . exact .inl (h.vbX j hj)
  . exact .inr (.inl q)
  . exact .inr (.inr (.inl q))
 refine ⟨h.g1.trans k.g1 h.fr.len,h.g2.trans k.g2 h.fr.len,h.fr.trans k.fr fun x q=>?_,h.vbX,fun f q=>?_,k.co.anti hx hs,Hp.le_trans h.le (Hp.le_trans k.le (Ah6 hx))⟩
 . refine TM.back hw h.fr (fun b q => .inl q) (fun f q => ?_) (fun r q => .inl q) q
   rcases q with (q | q) | q
   . exact .inl (.inl (.inl q))
   . exact (h.g1.or q).imp (fun z=>.inl (.inr z)) id
   . exact (h.g2.or q).imp (fun z=>.inr z) id
 . rcases hfo f q with z | z
   . have hlt := h.co.xlt f (.inr (.inr (.inr z)))
     refine ⟨(h.new f z).1,fun w=>(h.new f z).2 ?_⟩
     rcases w with (w | w) | w
     . exact .inl (.inl w)
     . rcases k.g1.or w with y | y
       . exact .inl (.inr y)
       . omega
     . rcases k.g2.or w with y | y
       . exact .inr y
       . omega
   . exact ⟨Nat.le_trans h.fr.len (k.new f z).1,(k.new f z).2⟩
theorem CStep.next0 (hw:WF A) (hf:Fr S0 A B) (k:CStep X B K fk ft C fk1 ft1 fo c1):CStep X A K fk ft C fk1 ft1 fo c1:=by
 refine ⟨k.g1.from hf.len,k.g2.from hf.len,(hf.mono (S':=LCo K fk ft A) fun _ q=>q.elim).trans k.fr fun x q=>TM.back hw hf (fun b q=>.inl q) (fun f q=>.inl q) (fun r q=>.inl q) q,k.vbX,fun f q=>⟨Nat.le_trans hf.len (k.new f q).1,(k.new f q).2⟩,k.co,Hp.le_trans (Ad8 hf) k.le⟩
theorem CStep.drop (h:CStep X A K fk ft B fk1 ft1 fo c):CStep X A K fk ft B fk1 ft1 none c :=
 { h with new:=(fun f q=>by cases q),co:=h.co.anti (fun f q=>by
    rcases q with q | q | q | q
    . exact .inl q
    . exact .inr (.inl q)
    . exact .inr (.inr (.inl q))
    . cases q) (fun f q=>by
    rcases q with (⟨j,hj,rfl⟩ | q) | q
    . exact .inl (h.vbX j hj)
    . exact .inr (.inl q)
    . exact .inr (.inr (.inl q))),le:=Hp.le_trans h.le (Ah6 fun f q=>by
    rcases q with q | q | q | q
    . exact .inl q
    . exact .inr (.inl q)
    . exact .inr (.inr (.inl q))
    . cases q) }
theorem CStep.grow (hw:WF A) (h:CStep X A K fk ft B fk1 ft1 fo c) (hf:Fr (inFamO B fo) B C) (g:Gr B fo fo2) (hl:∀ f,fo2=some f->f < C.blk.length):CStep X A K fk ft C fk1 ft1 fo2 c/\(qHp (nz X fk1 ft1 fo) B).le (qHp (nz X fk1 ft1 fo2) C):=by
 have hts:Fr (TM (fun _=>False) (fun f=>fo=some f) (fun _=>False) B) B C:=hf.mono fun x q=>TM.ts (TS.famO (fun f q=>q) q)
 have hY:∀ f,nz X fk1 ft1 fo2 f->nz X fk1 ft1 fo f∨B.blk.length<=f:=fun f q=>by
  rcases q with q | q | q | q
  . exact .inl (.inl q)
  . exact .inl (.inr (.inl q))
  . exact .inl (.inr (.inr (.inl q)))
  . exact (g.or q).imp (fun z=>.inr (.inr (.inr z))) id
 have hle:(qHp (nz X fk1 ft1 fo) B).le (qHp (nz X fk1 ft1 fo2) C):=Al7 hts (TM.tch.mono fun f q=>.inr (.inr (.inr q))) (h.wf hw) hY
 have hxc:∀ f,XCo K fk1 ft1 f->nz X fk1 ft1 fo2 f:=fun f q=>by
  rcases q with (⟨j,hj,rfl⟩ | q) | q
  . exact .inl (h.vbX j hj)
  . exact .inr (.inl q)
  . exact .inr (.inr (.inl q))
 have hlt:∀ f,nz X fk1 ft1 fo2 f->f < C.blk.length:=fun f q=>by
  rcases q with q | q | q | q
  . exact Nat.lt_of_lt_of_le (h.co.xlt f (.inl q)) hf.len
  . exact Nat.lt_of_lt_of_le (h.co.xlt f (.inr (.inl q))) hf.len
  . exact Nat.lt_of_lt_of_le (h.co.xlt f (.inr (.inr (.inl q)))) hf.len
  . exact hl f q
 refine ⟨⟨h.g1,h.g2,h.fr.trans hts fun x q=>?_,h.vbX,fun f q=>?_,h.co.ts (h.wf hw) hts ⟨fun q=>q,fun q=>q,fun q=>q⟩ (fun f q=>⟨.inr (.inr (.inr q)),(h.new f q).2⟩) ⟨fun q=>q,fun q=>q⟩ hY hxc hlt,Hp.le_trans h.le hle⟩,hle⟩
 . rcases TM.back (Bx := fun _ => False) (X := fun _ => False) (Mp := fun _ => False) hw h.fr (fun b q => q.elim) (fun f q => .inr (h.new f q).1) (fun r q => q.elim) q with q | q
   . exact .inl (TM.mono (fun b q=>q.elim) (fun f q=>q.elim) (fun r q=>q.elim) q)
   . exact .inr q
 . rcases g.or q with z | z
   . exact h.new f z
   . refine ⟨Nat.le_trans h.fr.len z, fun w => ?_⟩
     have:=h.co.xlt f (h.co.sub f w)
     omega
theorem IsCo.step (hw:WF A) (h:IsCo X A K fk ft c) (hf:Fr S A B) (hS:∀ x,S x->LCo K fk ft A x) (g1:Gr A fk fk1) (g2:Gw A ft ft1) (hr:IsRd B K.rp c1.rd K.cp K.vb fk1 none) (hc:∀ Y:Nat->Prop,(qHp X A).le (qHp Y B)->(∀ f,Y f->X f∨A.blk.length<=f)->CoM Y B K.cb K.rp K.mb K.mg c1 ft1)
 (hdj:∀ f,ft1=some f->¬ XR K.vb fk1 f) (hrng:Rng c1.rd) (ha:c1.rd.acts=[]) (hl:CoOk c1) (hl2:∀ f,ft1=some f->f < B.blk.length) (hfo:∀ f,fo=some f->A.blk.length<=f/\f < B.blk.length/\¬ XCo K fk1 ft1 f):CStep X A K fk ft B fk1 ft1 fo c1:=by
 have hfr:=hf.mono hS
 have hY:∀ f,Sv.nz X fk1 ft1 fo f->X f∨A.blk.length<=f:=fun f q=>by
  rcases q with q | q | q | q
  . exact .inl q
  . exact (g1.or q).imp (fun z=>h.sub f (.inl (.inr z))) id
  . exact (g2.or q).imp (fun z=>h.sub f (.inr z)) id
  . exact .inr (hfo f q).1
 have hle:=Al7 hfr (TM.tch.mono h.sub) hw hY
 refine ⟨g1,g2,hfr,fun j hj=>h.sub _ (.inl (.inl ⟨j,hj,rfl⟩)),fun f q=>⟨(hfo f q).1,(hfo f q).2.2⟩,⟨hr,hc _ hle hY,fun f q=>?_,fun f q=>?_,h.ne1,h.ne2,hdj,hrng,ha,hl⟩,hle⟩
 . rcases q with (q | q) | q
   . exact .inl (h.sub f (.inl (.inl q)))
   . exact .inr (.inl q)
   . exact .inr (.inr (.inl q))
 . rcases q with q | q | q | q
   . exact Nat.lt_of_lt_of_le (h.xlt f q) hf.len
   . exact hr.xlt (.inr q)
   . exact hl2 f q
   . exact (hfo f q).2.1
theorem IsCo.cstep (hw:WF A) (h:IsCo X A K fk ft c) (hf:Fr S A B) (hS:∀ x,S x->TM (fun b=>b=K.cb) (fun f=>ft=some f) (fun r=>r=K.mb∨r=K.mg) A x) (g2:Gw A ft ft1) (hrd:c1.rd=c.rd) (hc:∀ Y:Nat->Prop,(qHp X A).le (qHp Y B)->CoM Y B K.cb K.rp K.mb K.mg c1 ft1) (hl:CoOk c1) (hl2:∀ f,ft1=some f->f < B.blk.length):CStep X A K fk ft B fk ft1 none c1:=by
 have hts:=hf.mono hS
 obtain ⟨cr,hr⟩:=h.boxR
 refine h.step hw hf (fun x q=>TM.mono (fun b q=>.inl q) (fun f q=>.inr q) (fun r q=>q) (hS x q)) (.inl rfl) g2 ?_ (fun Y q _=>hc Y q) (fun f q w=>?_) (by rw [hrd];exact h.rng) (by rw [hrd];exact h.acts) hl hl2 (fun f q=>by cases q)
 . rw [hrd]
   exact h.rd.fr hts (TM.box hr fun q=>h.ne1 q.symm) (TM.box h.rd.cnt.box fun q=>h.ne2 q.symm) (fun j hj=>⟨TS.arr (Bx:=fun b=>b=K.cb) (X:=fun f=>ft=some f) (h.rd.cnt.row j hj) fun q=>h.dj _ q (.inl ⟨j,hj,rfl⟩),fun q=>h.dj _ (show ft=some (K.vb j) from q) (.inl ⟨j,hj,rfl⟩)⟩) (TM.off fun f q w=>h.dj f w (.inr q)) (TM.off fun f q=>by cases q)
 . rcases g2.or q with z | z
   . exact h.dj f z w
   . have:=h.rd.xlt w;omega
theorem IsCo.rstep {r':Rd} (hw:WF A) (h:IsCo X A K fk ft c) (hf:Fr (rdS A K.rp K.vb fk none) A B) (g1:Gr A fk fk1) (hr:IsRd B K.rp r' K.cp K.vb fk1 none) (hk:Kn c.rd r') (hrng:Rng r') (ha:r'.acts=[]) (hfo:∀ f,fo=some f->A.blk.length<=f/\f < B.blk.length/\¬ XCo K fk1 ft f):CStep X A K fk ft B fk1 ft fo { c with rd:=r' }:=by
 have hts:Fr (TM (fun b=>b=K.rp) (XR K.vb fk) (fun _=>False) A) A B:=hf.mono fun x q=>TM.ts (Bz4 h.rd q)
 obtain ⟨cs,hb⟩:=h.boxC
 obtain ⟨tv0,dv0,bl0,x01,x02,_⟩:=h.cm.ex
 refine h.step (c1:={ c with rd:=r' }) hw hts (fun x q=>TM.mono (fun b q=>.inr q) (fun f q=>.inl q) (fun r q=>q.elim) q) g1 .rfl' hr (fun Y hle _=>?_) (fun f q w=>?_) hrng ha h.lim.rd (fun f q=>Nat.lt_of_lt_of_le (x02.famLt f q) hf.len) hfo
 . have k := h.cm.fr (Y := Y) hts (TM.box hb h.ne1) (fun q => q) (fun q => q) (TM.off fun f q w => h.dj f q w) hle
   obtain ⟨tv,dv,bl,x1,x2,x3,x4,x5,x6⟩:=k.ex
   refine ⟨⟨tv,dv,bl,?_,x2,x3,x4,x5,x6⟩,k.gv,k.mm⟩
   show B.blk[K.cb]?=some ⟨coC K.rp r'.n r'.me r'.height c.now tv dv K.mb K.mg c.over,.var⟩
   rw [hk.n,hk.me,hk.height];exact x1
 . rcases w with w | w
   . exact h.dj f q (.inl w)
   . rcases g1.or w with z | z
     . exact h.dj f q (.inr z)
     . have:=x02.famLt f q;omega
theorem IsCo.give {x:Rd×List Act} {w:V} (hw:WF A) (h:IsCo X A K fk ft c) (k:GRes A K.rp K.cp K.vb fk none B x w) (hk:Kn c.rd x.1) (hrng:Rng x.1) (ha:x.1.acts=[]) :
 ∃ fk' fo,CStep X A K fk ft B fk' ft fo { c with rd:=x.1 }/\Lst eAct Hp.emp B w x.2 fo:=by
 obtain ⟨fk',fo,k1,k2,k3,k4,k5,k6,k7⟩:=k
 refine ⟨fk',fo,h.rstep hw k1 k2 k4 hk hrng ha (fun f q=>?_),k5⟩
 have hl:A.blk.length<=f:=by
  rcases k3.or q with y | y
  . cases y
  . exact y
 refine ⟨hl,k5.famLt f q,fun w=>?_⟩
 rcases w with (⟨j,hj,rfl⟩ | w) | w
 . have:=h.rd.cnt.lt hj;omega
 . exact k6 f q w
 . have:=h.xlt f (h.sub f (.inr w));omega
theorem IsCo.giveS {r':Rd} (hw:WF A) (h:IsCo X A K fk ft c) (k:RStepS A K.rp K.cp K.vb fk none B r') (hk:Kn c.rd r') (hrng:Rng r') (ha:r'.acts=[]):∃ fk',CStep X A K fk ft B fk' ft none { c with rd:=r' }:=by
 obtain ⟨fk',k1,k2,k4⟩:=k
 exact ⟨fk',h.rstep hw k1 k2 k4 hk hrng ha (fun f q=>by cases q)⟩
end
end Go.Sv.Try
namespace Go.Sv
open Go
def Co.offer (c:Co) (R:Int):M×Bool :=
 if (offI c.rd R).there=true/\proposer c.rd.n c.rd.height R=c.rd.me then (⟨3,c.rd.me,c.rd.height,R,(offI c.rd R).valid,0,(offI c.rd R).id,(lookL c.bat (offI c.rd R).id).getD [],[],[]⟩,true)
 else (msg0 0,false)
def Co.have_ (c:Co) (b:Bts):Co:={ c with bat:=haveB c.bat b }
def Co.learn (c:Co) (b:Bts):Co×List Act:=({ c.have_ b with rd:=(c.rd.Know (batchI b)).1 },(c.rd.Know (batchI b)).2)
end Go.Sv
namespace Go.Sv.Try
open Go Go.Proofs
section
variable {X:Nat->Prop} {A B C:AS} {K:CoK} {c:Co} {fk ft:Option Nat}
theorem BB8 (g:Nat->V) (a b R v:Int) (i j k l:Nat):evBuild Try.prog 28 [(0,.int .i64 3),(1,.int .i64 a),(2,.int .i64 b),(3,.int .i64 R),(4,.int .i64 v),(6,.agg ((List.range 32).map g)),(7,.sl i j k l)]=some (.agg (.int .i64 3::.int .i64 a::.int .i64 b::.int .i64 R::.int .i64 v::.int .i64 0::((List.range 32).map g++[.sl i j k l,.snil,.snil]))):=by kernel_rfl
theorem BS2 {x:M} (h:x.id.length=32) (hk:x.kind=3) (hn:x.num=0) (i j k l:Nat):evBuild Try.prog 28 [(0,.int .i64 3),(1,.int .i64 x.who),(2,.int .i64 x.height),(3,.int .i64 x.round),(4,.int .i64 x.valid),(6,.agg (bc x.id)),(7,.sl i j k l)]=some (.agg (mc x (.sl i j k l) .snil .snil)):=by
 obtain ⟨g,hg⟩:=Ac9 (l:=bc x.id) (n:=32) (by rw [Aa5,h])
 unfold mc;rw [hg,hk,hn];exact BB8 g _ _ _ _ i j k l
theorem BB9 {r:Rd} {R:Int} (h:(offI r R).there=true):0<=R/\R < 12:=by
 unfold offI at h
 split at h
 . cases h
 . omega
theorem CoM.look {cb rp mb mg:Nat} (h:CoM X A cb rp mb mg c ft) {id:Bts} (hid:id.length=32):∃ v,evLookup Try.prog 71 (.map mb) (.agg (bc id)) false A=some v/\Slc eU8 (qHp X A) v ((lookL c.bat id).getD [])/\(v=.snil ↔ lookL c.bat id=none):=by
 obtain ⟨tv,dv,bl,x1,x2,x3,x4,x5,x6⟩:=h.ex
 have lk:=x3.look (P:=Try.prog) B53 BB2 Cc4 ⟨id,hid⟩ false
 have hl:=AM8 ⟨id,hid⟩ bl
 rw [<- x4]at hl
 cases q:lookL bl (⟨id,hid⟩:Idb) with
 | none =>
  rw [q]at lk hl
  have hl:lookL c.bat id=none:=hl
  exact ⟨.snil,lk,.inl ⟨rfl,by rw [hl];rfl⟩,by rw [hl];simp⟩
 | some y =>
  rw [q]at lk hl
  have hl:lookL c.bat id=some y.2:=hl
  have hy:=x5 _ (Am6 q)
  exact ⟨y.1,lk,by rw [hl];exact hy.1,⟨fun z=>absurd z hy.2,fun z=>by rw [hl]at z;cases z⟩⟩
set_option maxRecDepth 10000 in
set_option maxHeartbeats 16000000 in
theorem AJ2 (hw:WF A) (h:IsCo X A K fk ft c) (R:Int) :
 ∃ w A',EvF Try.prog HH 39 [.ptr K.cb 0,.int .i64 R] A w A'/\Fr S0 A A'/\∃ dv,w=.tup [.agg (mc (c.offer R).1 dv .snil .snil),.bool (c.offer R).2]/\Slc eU8 (qHp X A') dv (c.offer R).1.data/\(c.offer R).1.id.length=32/\(c.offer R).1.ids=[]/\(c.offer R).1.list=[]:=by
 refine Aa4 rfl Try.func39 (by unfold Try.f39;rfl) Try.ntmps39 (by unfold Try.f39;rfl) (by simp) ?_
 obtain ⟨A1,e1,f1,r1,n1⟩:=Aa9 A mcZ
 obtain ⟨b4,hb4⟩:∃ b,b=A.blk.length:=⟨_,rfl⟩
 rw [<- hb4]at r1 n1
 have hmZ:mcZ=mc (msg0 0) .snil .snil .snil:=rfl
 obtain ⟨o,ho⟩:∃ o,o=offI c.rd R:=⟨_,rfl⟩
 have hol:o.id.length=32:=by rw [ho];exact AC4 h.rd.ok R
 have h1:=h.fr0 f1
 obtain ⟨tv,dv,bl,x1,_⟩:=h1.cm.ex
 have ld:=Aq0 x1
 obtain ⟨_,A2,k2,f2,rfl⟩:=AE1 (f1.wf hw) h1.rd R
 rw [<- ho]at k2
 obtain ⟨A3,s1,f3,r3⟩:=BP6 (A:=A2) hol
 obtain ⟨b6,hb6⟩:∃ b,b=A2.blk.length:=⟨_,rfl⟩
 rw [<- hb6]at s1 r3
 have f13:=(f1.then0 f2).then0 f3
 have f23:=f2.then0 f3
 have w3:=f13.wf hw
 have h3:=h.fr0 f13
 have x3:=f23.row0 x1
 have ld3:=Aq0 x3
 have lo:=BO3 r3 hol
 have fo:=Cc1 b6
 have r13:=f23.row0 r1
 have hlb6:=f1.len
 have hlb7:=f2.len
 simp only [RT,Q0,Q1,Q2,Q3,Q4,Q5,Q6,Q7,Q8,zcM,<- hb4,<- e1,Ao4 K.cb,ld]
 refine Aa0 k2 ?_
 simp only [RT,Q0,Q1,Q2,Q3,Q4,Q5,Q6,Q7,Q8,BP7,<- hb6,s1]
 have hn:(c.rd.n:Int)<=7/\(0:Int)<=c.rd.n:=by have:=h.rd.cnt.ok;unfold okN at this;omega
 unfold Co.offer
 rw [<- ho]
 cases ht:o.there with
 | false =>
  obtain ⟨A4,u1,u2,u3⟩:=AS0 (y:=msg0 0) (dv':=.snil) (iv':=.snil) (lv':=.snil) (hmZ ▸ r13) rfl rfl rfl
  have l4:=ldM u3 (rfl:(msg0 0).id.length=32)
  have bz:evBuild Try.prog 28 []=some (.agg (mc (msg0 0) .snil .snil .snil)):=by kernel_rfl
  rw [ht]at lo
  simp only [RT,Q0,Q1,Q2,Q3,Q4,Q5,Q6,Q7,Q8,Bm0,Aa1,fo,lo,Ao0]
  refine ⟨Ag6 rfl rfl rfl rfl Aa1,?_⟩
  simp only [RT,Q0,Q1,Q2,Q3,Q4,Q5,Q6,Q7,Q8,bz,u1,l4,Aa1]
  exact ⟨f13.row_ u2 (by omega),.snil,rfl,.inl ⟨rfl,rfl⟩,rfl,rfl,rfl⟩
 | true =>
  have hR:=BB9 (r:=c.rd) (R:=R) (by rw [<- ho];exact ht)
  rw [ht]at lo
  obtain ⟨_,A3',p1,hA,rfl⟩:=Ao8 (A:=A3) (n:=c.rd.n) (h:=c.rd.height) (k:=R) hn.1 hn.2 (by have:=h.rng.height;omega) h.rng.height.2 (by omega) (by omega)
  rw [hA]at p1
  simp only [RT,Q0,Q1,Q2,Q3,Q4,Q5,Q6,Q7,Q8,Bm0,Aa1,fo,lo,Ao0,Ao4 K.cb,ld3]
  refine Aa0 p1 ?_
  by_cases hp:proposer c.rd.n c.rd.height R=c.rd.me
  rotate_left
  . obtain ⟨A4, u1, u2, u3⟩ := AS0 (y := msg0 0) (dv' := .snil) (iv' := .snil) (lv' := .snil) (hmZ ▸ r13) rfl rfl rfl
    have l4:=ldM u3 (rfl:(msg0 0).id.length=32)
    have bz:evBuild Try.prog 28 []=some (.agg (mc (msg0 0) .snil .snil .snil)):=by kernel_rfl
    simp only [RT,Q0,Q1,Q2,Q3,Q4,Q5,Q6,Q7,Q8,decide_eq_true hp]
    refine ⟨Af2 rfl rfl rfl rfl rfl ld3.2.2.2.2.1 rfl Aa1,?_⟩
    simp only [RT,Q0,Q1,Q2,Q3,Q4,Q5,Q6,Q7,Q8,bz,u1,l4,Aa1]
    rw [if_neg (fun z=>hp z)]
    exact ⟨f13.row_ u2 (by omega),.snil,rfl,.inl ⟨rfl,rfl⟩,rfl,rfl,rfl⟩
  . obtain ⟨v, lk1, lk2, _⟩ := h3.cm.look hol
    obtain ⟨c',B,y1,y2,y3,y4,y5⟩:=At0 (P:=Try.prog) (t:=24) (tx:=24) w3 B24 Try.underlying24 lk2 (Af3 X A3) (by have:=h.lim.look o.id;omega) (by have:=h.lim.look o.id;omega)
    obtain ⟨x,hx⟩:∃ x:M,x=⟨3,c.rd.me,c.rd.height,R,o.valid,0,o.id,(lookL c.bat o.id).getD [],[],[]⟩:=⟨_,rfl⟩
    have hxl:x.id.length=32:=by rw [hx];exact hol
    have bm:=BS2 hxl (by rw [hx]) (by rw [hx]) c' 0 ((lookL c.bat o.id).getD []).length 1
    rw [show x.who=(c.rd.me:Int) by rw [hx],show x.height=c.rd.height by rw [hx],show x.round=R by rw [hx],show x.valid=o.valid by rw [hx],show x.id=o.id by rw [hx]]at bm
    have hnX:¬ X A3.blk.length:=fun q=>by have:=h3.xlt _ q;omega
    obtain ⟨A4,u1,u2,u3⟩:=AS0 (y:=x) (dv':=.sl c' 0 ((lookL c.bat o.id).getD []).length 1) (iv':=.snil) (lv':=.snil) (hmZ ▸ y5.row0 r13) rfl hxl (by simp only [mc,List.all_cons,List.all_append,Ae6,List.all_nil];rfl)
    have l4:=ldM u3 hxl
    have f4:=Fr.pushArr A3 []
    have ldP:=Aq0 (f4.row0 x3)
    have loP:=BO3 (f4.row0 r3) hol
    have lkP:evLookup Try.prog 71 (.map K.mb) (.agg (bc o.id)) false (A3.push ⟨[],.arr A3.blk.length 0⟩)=some v:=lk1
    have loB:=BO3 (y5.row0 r3) hol
    have ldB:=Aq0 (y5.row0 x3)
    simp only [RT,Q0,Q1,Q2,Q3,Q4,Q5,Q6,Q7,Q8,decide_eq_false (show ¬ ¬ (proposer c.rd.n c.rd.height R=c.rd.me) from fun z=>z hp)]
    refine ⟨Af2 rfl rfl rfl rfl rfl ld3.2.2.2.2.1 rfl Aa1,?_⟩
    simp only [RT,Q0,Q1,Q2,Q3,Q4,Q5,Q6,Q7,Q8,BL2,Aa1,fo,lo,Ao4 K.cb,ld3,Bo6,ldP,loP,lkP,y1]
    refine ⟨Aa3 (ha:=rfl) rfl ldB.2.2.2.2.1 rfl (Aa3 (ha:=rfl) rfl ldB.2.2.2.2.2.1 rfl (Aa3 (ha:=rfl) rfl loB.2.1 rfl (Aa3 (ha:=rfl) rfl loB.2.2 rfl Aa1))),?_⟩
    simp only [RT,Q0,Q1,Q2,Q3,Q4,Q5,Q6,Q7,Q8,bm,u1,l4,Aa1]
    rw [if_pos hp,<- hx]
    have q2:=y5.row0 r13
    have qle:(qHp X B).le (qHp X A4):=Al7 u2 (fun b k z y=>by cases z;rw [q2]at y;cases y;exact .inl rfl) (y5.wf w3) fun f q=>.inl q
    refine ⟨(f13.then0 y5).row_ u2 (by omega),_,rfl,?_,hxl,by rw [hx],by rw [hx]⟩
    rw [hx]
    exact (Be2 (Al1 y2 hnX) rfl).mono qle
end
end Go.Sv.Try
namespace Go.Sv.Try
open Go Go.Proofs
section
variable {X:Nat->Prop} {A B C:AS} {K:CoK} {c:Co} {fk ft:Option Nat}
theorem IsCo.lt (h:IsCo X A K fk ft c):K.cb < A.blk.length/\K.rp < A.blk.length/\K.cp < A.blk.length:=by
 obtain ⟨_,q⟩:=h.boxC
 obtain ⟨_,w⟩:=h.boxR
 exact ⟨Ac3 q,Ac3 w,Ac3 h.rd.cnt.box⟩
theorem IsCo.have_ {m:Hp} {v:V} {b:Bts} (hw:WF A) (h:IsCo X A K fk ft c) (hm:m.on A) (hv:Slc eU8 m v b) (hb:b.length<=1000000) :
 ∃ A',EvF Try.prog HH 42 [.ptr K.cb 0,v] A (.agg (bc (batchI b))) A'/\CStep X A K fk ft A' fk ft none (c.have_ b):=by
 obtain ⟨_,A',k1,k2,rfl,k3⟩:=Be4 hw h.cm h.xlt hm hv (by omega)
 have hlt:∀ f,ft=some f->f < A'.blk.length:=fun f q=>Nat.lt_of_lt_of_le (h.xlt f (h.sub f (.inr q))) k2.len
 refine ⟨A',k1,?_⟩
 have hY:∀ f,nz X fk ft none f->X f:=fun f q=>AZ0 h.sub q
 have hfr:Fr (LCo K fk ft A) A A':=k2.mono fun x q=>by subst q;exact .inl rfl
 refine ⟨.inl rfl,.rfl',hfr,fun j hj=>h.sub _ (.inl (.inl ⟨j,hj,rfl⟩)),(fun f q=>by cases q),⟨?_,?_,fun f q=>.inl (h.sub f q),fun f q=>Nat.lt_of_lt_of_le (h.xlt f (hY f q)) k2.len,h.ne1,h.ne2,h.dj,h.rng,h.acts,{ h.lim with bat:=Bp0 h.lim.bat hb }⟩,Al7 k2 (fun b k q=>by cases q) hw fun f q=>.inl (hY f q)⟩
 . exact h.rd.fr k2 (fun q=>by cases q) (fun q=>by cases q) (fun j hj=>⟨fun q=>(by cases q),fun q=>(by cases q)⟩) (fun b q=>by cases q) (fun b q=>by cases q)
 . exact k3.fr (.refl S0 A') (fun q=>q) (fun q=>q) (fun q=>q) .s0 (Ah6 hY)
set_option maxRecDepth 10000 in
set_option maxHeartbeats 8000000 in
theorem Ay4 {m:Hp} {v:V} {b:Bts} (hw:WF A) (h:IsCo X A K fk ft c) (hm:m.on A) (hv:Slc eU8 m v b) (hb:b.length<=1000000) :
 ∃ w A',EvF Try.prog HH 29 [.ptr K.cb 0,v] A w A'/\∃ fk' fo,CStep X A K fk ft A' fk' ft fo (c.learn b).1/\Lst eAct Hp.emp A' w (c.learn b).2 fo:=by
 refine Aa4 rfl Try.func29 (by unfold Try.f29;rfl) Try.ntmps29 (by unfold Try.f29;rfl) (by simp) ?_
 obtain ⟨A1,k1,k2⟩:=h.have_ hw hm hv hb
 have h1:=k2.co
 have w1:=k2.wf hw
 obtain ⟨tv,dv,bl,x1,_⟩:=h.cm.ex
 obtain ⟨tv1,dv1,bl1,y1,_⟩:=h1.cm.ex
 have ld:=Aq0 x1
 have ld1:=Aq0 y1
 obtain ⟨w,A2,m1,m2⟩:=Bd5 w1 h1.rd h1.rng (by rw [h1.acts];simp) (Ad6 b)
 obtain ⟨fk',fo,n1,n2⟩:=h1.give w1 m2 (BB7 _ _) ((h1.rng.remember (batchI b)).1.settle) rfl
 simp only [RT,Q0,Q1,Q2,Q3,Q4,Q5,Q6,Q7,Q8,BK5,Aa1,Ao4 K.cb,ld]
 refine Aa0 k1 ?_
 simp only [RT,Q0,Q1,Q2,Q3,Q4,Q5,Q6,Q7,Q8,Aa1]
 refine ⟨Aa3 (ha:=rfl) rfl ld1.1 rfl Aa1,?_⟩
 refine Aa0 m1 ?_
 simp only [RT,Q0,Q1,Q2,Q3,Q4,Q5,Q6,Q7,Q8,Aa1]
 exact ⟨fk',fo,k2.next hw n1 (fun f q=>.inr q),n2⟩
end
end Go.Sv.Try
namespace Go.Sv
open Go
def Co.act1 (s:Co×List M×Bool) (a:Act):Co×List M×Bool :=
 if a.kind=1 then (s.1,s.2.1++[(s.1.offer a.round).1],s.2.2)
 else if a.kind=2 then (s.1,s.2.1,true)
 else if a.kind=3 then ({ s.1 with tim:=timSet s.1.now s.1.tim a.round a.num },s.2.1,s.2.2)
 else if a.kind=4 then ({ s.1 with done:=(lookL s.1.bat a.id).getD [],over:=true,tim:=[] },s.2.1,s.2.2)
 else s
def Co.acts (c:Co) (l:List Act):Co×List M×Bool:=l.foldl Co.act1 (c,[],false)
def stMsg (r:Rd):M:=msgS r.me r.height (stIds r)
def Co.act (c:Co) (l:List Act):Co×List M :=
 ((c.acts l).1,if (c.acts l).2.2=true/\0 < (stIds (c.acts l).1.rd).length then (c.acts l).2.1++[stMsg (c.acts l).1.rd] else (c.acts l).2.1)
theorem AZ1 (s:Co×List M×Bool) (a:Act):(Co.act1 s a).1.rd=s.1.rd/\(Co.act1 s a).1.bat=s.1.bat/\(Co.act1 s a).1.now=s.1.now:=by
 unfold Co.act1
 repeat' split
 all_goals exact ⟨rfl,rfl,rfl⟩
theorem A89 {now:Int} {l:List DueP} {r s:Int} (h:l.length<=40):(timSet now l r s).length<=40:=by
 unfold timSet;split
 . exact h
 . rw [List.length_append];simp;omega
theorem Bp3 (s:Co×List M×Bool) (a:Act):(Co.act1 s a).2.1.length<=s.2.1.length+1:=by
 unfold Co.act1
 repeat' split
 all_goals simp
theorem Ay5 (l:List Act):∀ s:Co×List M×Bool,(l.foldl Co.act1 s).1.rd=s.1.rd/\(l.foldl Co.act1 s).1.bat=s.1.bat/\(l.foldl Co.act1 s).1.now=s.1.now:=by
 induction l with
 | nil=>exact fun s=>⟨rfl,rfl,rfl⟩
 | cons a l ih =>
  intro s
  have h:=ih (Co.act1 s a)
  have k:=AZ1 s a
  exact ⟨h.1.trans k.1,h.2.1.trans k.2.1,h.2.2.trans k.2.2⟩
theorem As1 {α β:Type} {f:β->α->β} {L:List α} {s:β} {j:Nat} {a:α} (h:L[j]?=some a):(L.take (j+1)).foldl f s=f ((L.take j).foldl f s) a:=by
 rw [Ac4 h,List.foldl_append];rfl
end Go.Sv
namespace Go.Sv.Try
open Go Go.Proofs
section
variable {X Y:Nat->Prop} {A B C:AS} {K:CoK} {c c1 c2:Co} {fk ft fk1 ft1 fk2 ft2 fo fo2:Option Nat}
theorem A90 {x:M} {dv iv lv:V} (h:x.id.length=32):bsl Try.prog 34 1 (some [(0,.agg (mc x dv iv lv))])=some (.newSl (mc x dv iv lv) 1 41):=AQ4 Try.underlying34 Bm9 Cd4 rfl (Ai6 h) (by decide)
theorem IsCo.set (hw:WF A) (h:IsCo X A K fk ft c) (R S:Int):∃ w A',EvF Try.prog HH 45 [.ptr K.cb 1,.int .i64 R,.int .i64 S] A w A'/\∃ ft',CStep X A K fk ft A' fk ft' none { c with tim:=timSet c.now c.tim R S }:=by
 obtain ⟨tv,dv,bl,x1,x2,x3,x4,x5,x6⟩:=h.cm.ex
 obtain ⟨w,A',k1,k2,tv',ft',k3,k4,k5⟩:=Bo4 hw x1 x2 (by have:=h.lim.tim;omega) h.lim.now.1 (by have:=h.lim.now;omega) R S
 refine ⟨w,A',k1,ft',h.cstep hw k2 (fun x q=>?_) k5.gw rfl (fun Y hle=>⟨⟨tv',dv,bl,k3,k4,x3.fr k2 (fun q=>?_),x4,fun p q=>⟨(x5 p q).1.mono hle,(x5 p q).2⟩,x6.mono hle⟩,h.cm.gv.fr k2 (fun q=>?_),h.cm.mm⟩) { h.lim with tim:=A89 h.lim.tim } k4.famLt⟩
 . rcases q with rfl | q
   . exact .inl ⟨_,x1,rfl⟩
   . exact TM.ts (TS.famO (fun f q=>q) q)
 all_goals
  rcases q with q | q
  . cases q
  . cases ft <;> exact q.elim
theorem IsCo.fin {v:V} {b:Bts} (hw:WF A) (h:IsCo X A K fk ft c) (hv:Slc eU8 (qHp X A) v b) (hb:b.length<=1000000):∃ A1 A2 w A3,evStore Try.prog 24 (.ptr K.cb 8) v A=some A1/\evStore Try.prog 4 (.ptr K.cb 9) (.bool true) A1=some A2/\EvF Try.prog HH 46 [.ptr K.cb 1] A2 w A3/\CStep X A K fk ft A3 fk none none { c with done:=b,over:=true,tim:=[] }/\Fr (·=.row K.cb) A A2:=by
 obtain ⟨tv,dv,bl,x1,x2,x3,x4,x5,x6⟩:=h.cm.ex
 obtain ⟨A1,s1,s2,s3⟩:=Cf7 x1 hv.one
 obtain ⟨A2,t1,t2,t3⟩:=BR7 s3 true
 obtain ⟨w,A3,u1,u2,u3⟩:=A83 t3
 have f2:Fr (·=.row K.cb) A A2:=s2.thn t2
 have f3:Fr (·=.row K.cb) A A3:=f2.thn u2
 refine ⟨A1,A2,w,A3,s1,t1,u1,h.cstep (c1:={ c with done:=b,over:=true,tim:=[] }) hw f3 (fun x q=>by subst q;exact .inl ⟨_,x1,rfl⟩) (fun f q=>by cases q) rfl (fun Y hle=>⟨⟨.snil,v,bl,u3,.nil,x3.fr f3 (fun q=>by cases q),x4,fun p q=>⟨(x5 p q).1.mono hle,(x5 p q).2⟩,hv.mono hle⟩,h.cm.gv.fr f3 (fun q=>by cases q),h.cm.mm⟩) { h.lim with tim:=by show ([]:List DueP).length<=40;simp,done:=hb } (fun f q=>by cases q),f2⟩
theorem CStep.msg {x:M} {w dv iv lv:V} {l:List M} (hw:WF A) (h:CStep X A K fk ft B fk1 ft1 fo c) (hL:Lst eMsg (qHp (nz X fk1 ft1 fo) B) B w l fo) (hx:MsgIn (qHp (nz X fk1 ft1 fo) B) x dv iv lv) (hl:l.length<=100000000) :
 ∃ v' C fo2,evAppend Try.prog 34 34 w (.sl B.blk.length 0 1 41) (B.push ⟨mc x dv iv lv,.arr B.blk.length 0⟩)=some (v',C)/\CStep X A K fk ft C fk1 ft1 fo2 c/\Lst eMsg (qHp (nz X fk1 ft1 fo2) C) C v' (l++[x]) fo2/\Fr (inFamO B fo) B C:=by
 obtain ⟨v',C,fo2,p1,p2,p3,p4⟩:=hL.push (P:=Try.prog) (t:=34) (tx:=34) (n:=41) rfl B25 Try.underlying34 (h.wf hw) (y:=x) (cs':=mc x dv iv lv) ⟨dv,iv,lv,rfl,hx⟩ (by omega) (by omega)
 obtain ⟨q1,q2⟩:=h.grow hw p3 p4 p2.famLt
 exact ⟨v',C,fo2,p1,q1,p2.mono q2,p3⟩
theorem CStep.lst0 {w:V} {l:List M} (h:Lst eMsg (qHp X A) A w l fo) (hf:Fr S0 A B):Lst eMsg (qHp X B) B w l fo:=(h.fr0 hf).mono (Ad8 hf)
set_option maxRecDepth 10000 in
set_option maxHeartbeats 32000000 in
theorem Bp4 {lv:V} {L:List Act} {fl:Option Nat} (hw:WF A) (h:IsCo X A K fk ft c) (hL:Lst eAct Hp.emp A lv L fl) (hfl:∀ f,fl=some f->¬ XCo K fk ft f) (hLn:L.length<=1000000) :
 ∃ w A',EvF Try.prog HH 24 [.ptr K.cb 0,lv] A w A'/\∃ ft' fo,CStep X A K fk ft A' fk ft' fo (c.act L).1/\Lst eMsg (qHp (nz X fk ft' fo) A') A' w (c.act L).2 fo:=by
 refine Aa4 rfl Try.func24 (by unfold Try.f24;rfl) Try.ntmps24 (by unfold Try.f24;rfl) (by simp) ?_
 have hln:=fun B=>hL.len (P:=Try.prog) Try.underlying79 B
 simp only [RT,Q0,Q1,Q2,Q3,Q4,Q5,Q6,Q7,Q8,hln]
 refine Aa6 (fun z e B=>∃ (j:Nat) (w:V) (ft' fo:Option Nat),z=L.length - j/\j<=L.length/\e.get 15=.int .i64 j/\CStep X A K fk ft B fk ft' fo ((L.take j).foldl Co.act1 (c,[],false)).1/\Lst eMsg (qHp (nz X fk ft' fo) B) B w ((L.take j).foldl Co.act1 (c,[],false)).2.1 fo/\((L.take j).foldl Co.act1 (c,[],false)).2.1.length<=j/\e.get 0=.ptr K.cb 0/\e.get 13=lv/\e.get 14=.int .i64 L.length/\e.get 5=w/\e.get 6=.bool ((L.take j).foldl Co.act1 (c,[],false)).2.2)
  (fun z e B=>Is z (.exit 0)/\∃ (w:V) (ft' fo:Option Nat),CStep X A K fk ft B fk ft' fo (c.acts L).1/\Lst eMsg (qHp (nz X fk ft' fo) B) B w (c.acts L).2.1 fo/\(c.acts L).2.1.length<=L.length/\e.get 0=.ptr K.cb 0/\e.get 5=w/\e.get 6=.bool (c.acts L).2.2)
  ⟨_,0,.snil,ft,none,rfl,by omega,rfl,.rfl' h,.nil,by simp,rfl,rfl,rfl,rfl,rfl⟩ ?_ ?_
 . rintro z e B ⟨j, w, ft', fo, rfl, hj, h15, hS, hM, hml, h0, h13, h14, h5, h6⟩
   simp only [RT,Q0,Q1,Q2,Q3,Q4,Q5,Q6,Q7,Q8,h14,h15]
   refine Aa7 (fun g1=>?_) (fun g1=>?_)
   rotate_left
   . have : j = L.length := by omega
     subst this
     rw [List.take_length]at hS hM hml h6
     simp only [RT,Q0,Q1,Q2,Q3,Q4,Q5,Q6,Q7,Q8]
     refine ⟨rfl,w,ft',fo,?_⟩
     and_intros <;> first | rfl | assumption
   obtain ⟨a,hax⟩:=Ag4 (l:=L) (i:=j) (by omega)
   have hLB:=hL.fr hS.fr (TM.off fun f q=>hfl f q)
   obtain ⟨b2,o2,c2,g3,g4,g5⟩:=hLB.at (P:=Try.prog) (k:=.i64) (Hp.on_emp B) Try.underlying79 Bm7 B07 hax
   obtain ⟨rfl,hal⟩:=BO6.1 g5
   obtain ⟨E,e1,e2,e3⟩:=B56 (A:=B) hal
   have fA:=BP9 B.blk.length
   have la2:=Bn6 e3 hal
   have wB:=hS.wf hw
   have hSE:=hS.then0 e2
   have hME:=CStep.lst0 hM e2
   have wE:=hSE.wf hw
   have hwr:IntKind.i64.wrap ((j:Int)+1)=((j+1:Nat):Int):=by rw [Ae4 (by omega)]
   have em:(L.take (j+1)).foldl Co.act1 (c,[],false)=Co.act1 ((L.take j).foldl Co.act1 (c,[],false)) a:=As1 hax
   obtain ⟨s,hs⟩:∃ s,s=(L.take j).foldl Co.act1 (c,[],false):=⟨_,rfl⟩
   rw [<- hs]at hSE hME hml em h6
   clear hLB hM hS
   simp only [RT,Q0,Q1,Q2,Q3,Q4,Q5,Q6,Q7,Q8,h13,h15,g3,g4,zcA,e1,fA,la2]
   by_cases k1:a.kind=1
   . have e1 : Co.act1 s a = (s.1, s.2.1 ++ [(s.1.offer a.round).1], s.2.2) := by unfold Co.act1; rw [if_pos k1]
     rw [e1]at em
     obtain ⟨_,D,m1,m2,dv,rfl,m3,m4,m5,m6⟩:=AJ2 wE hSE.co a.round
     have hSD:=hSE.then0 m2
     have hMD:=CStep.lst0 hME m2
     have hin:MsgIn (qHp (nz X fk ft' fo) D) (s.1.offer a.round).1 dv .snil .snil:=⟨m4,m3,.inl ⟨rfl,m5⟩,.inl ⟨rfl,m6⟩⟩
     obtain ⟨F,n1,n2,n3⟩:=Ay3 hin
     have hSF:=hSD.then0 n2
     have hMF:=CStep.lst0 hMD n2
     obtain ⟨v',G,fo2,p1,p2,p3,p4⟩:=hSF.msg hw hMF (hin.mono (Ad8 n2)) (by omega)
     simp only [RT,Q0,Q1,Q2,Q3,Q4,Q5,Q6,Q7,Q8,decide_eq_true k1,h0,fA,la2]
     refine Aa0 m1 ?_
     simp only [RT,Q0,Q1,Q2,Q3,Q4,Q5,Q6,Q7,Q8,zcM,n1,h5,(ldM n3 m4),A90 m4,p1,h15,hwr]
     refine ⟨L.length - (j+1),by omega,j+1,v',ft',fo2,rfl,by omega,?_⟩
     rw [em]
     have hml2:(s.2.1++[(s.1.offer a.round).1]).length<=j+1:=by rw [List.length_append];simp;omega
     and_intros <;> first | rfl | assumption
   by_cases k2:a.kind=2
   . have e1 : Co.act1 s a = (s.1, s.2.1, true) := by unfold Co.act1; rw [if_neg k1, if_pos k2]
     rw [e1]at em
     simp only [RT,Q0,Q1,Q2,Q3,Q4,Q5,Q6,Q7,Q8,decide_eq_false k1,decide_eq_true k2,h15,hwr]
     refine ⟨L.length - (j+1),by omega,j+1,w,ft',fo,rfl,by omega,?_⟩
     rw [em]
     have hml2:s.2.1.length<=j+1:=by omega
     and_intros <;> first | rfl | assumption
   by_cases k3:a.kind=3
   . have e1 : Co.act1 s a = ({ s.1 with tim := timSet s.1.now s.1.tim a.round a.num }, s.2.1, s.2.2) := by unfold Co.act1; rw [if_neg k1, if_neg k2, if_pos k3]
     rw [e1]at em
     obtain ⟨w1,F,m1,ft2,m2⟩:=hSE.co.set wE a.round a.num
     have hSF:=hSE.next hw m2 (fo:=fo) (fun f q=>.inl q)
     have hle:=m2.le
     have hMF:Lst eMsg (qHp (nz X fk ft2 fo) F) F w s.2.1 fo:=(hME.fr m2.fr (TM.off fun f q z=>(hSE.new f q).2 z)).mono (Hp.le_trans hle (Ah6 fun f q=>by
      rcases q with q | q | q | q
      . exact .inl (.inl q)
      . exact .inr (.inl q)
      . exact .inr (.inr (.inl q))
      . exact .inl (.inr (.inr (.inr q)))))
     simp only [RT,Q0,Q1,Q2,Q3,Q4,Q5,Q6,Q7,Q8,decide_eq_false k1,decide_eq_false k2,decide_eq_true k3]
     rw [Bw5,Aa2 (by rfl)]
     simp only [RT,Q0,Q1,Q2,Q3,Q4,Q5,Q6,Q7,Q8,h0,Ao4 K.cb,fA,la2]
     refine Aa0 m1 ?_
     simp only [RT,Q0,Q1,Q2,Q3,Q4,Q5,Q6,Q7,Q8,h15,hwr]
     refine ⟨L.length - (j+1),by omega,j+1,w,ft2,fo,rfl,by omega,?_⟩
     rw [em]
     have hml2:s.2.1.length<=j+1:=by omega
     and_intros <;> first | rfl | assumption
   by_cases k4:a.kind=4
   rotate_left
   . have e1 : Co.act1 s a = s := by unfold Co.act1; rw [if_neg k1, if_neg k2, if_neg k3, if_neg k4]
     rw [e1]at em
     simp only [RT,Q0,Q1,Q2,Q3,Q4,Q5,Q6,Q7,Q8,decide_eq_false k1,decide_eq_false k2,decide_eq_false k3,decide_eq_false k4,h15,hwr]
     refine ⟨L.length - (j+1),by omega,j+1,w,ft',fo,rfl,by omega,?_⟩
     rw [em]
     have hml2:s.2.1.length<=j+1:=by omega
     and_intros <;> first | rfl | assumption
   have e1:Co.act1 s a=({ s.1 with done:=(lookL s.1.bat a.id).getD [],over:=true,tim:=[] },s.2.1,s.2.2):=by unfold Co.act1;rw [if_neg k1,if_neg k2,if_neg k3,if_pos k4]
   rw [e1]at em
   obtain ⟨v,lk1,lk2,_⟩:=hSE.co.cm.look hal
   obtain ⟨F1,F2,w2,F,n1,n2,n3,n4,n5⟩:=hSE.co.fin wE lk2 (hSE.co.lim.look a.id)
   obtain ⟨tv,dv,bl,x1,_⟩:=hSE.co.cm.ex
   have ld:=Aq0 x1
   have hSF:=hSE.next hw n4 (fo:=fo) (fun f q=>.inl q)
   have hMF:Lst eMsg (qHp (nz X fk none fo) F) F w s.2.1 fo:=(hME.fr n4.fr (TM.off fun f q z=>(hSE.new f q).2 z)).mono (Hp.le_trans n4.le (Ah6 fun f q=>by
    rcases q with q | q | q | q
    . exact .inl (.inl q)
    . exact .inr (.inl q)
    . exact .inr (.inr (.inl q))
    . exact .inl (.inr (.inr (.inr q)))))
   simp only [RT,Q0,Q1,Q2,Q3,Q4,Q5,Q6,Q7,Q8,decide_eq_false k1,decide_eq_false k2,decide_eq_false k3,decide_eq_true k4]
   rw [Bw6,Aa2 (by rfl)]
   simp only [RT,Q0,Q1,Q2,Q3,Q4,Q5,Q6,Q7,Q8,h0,Ao4 K.cb,fA,la2,ld,lk1,n1,n2]
   refine Aa0 n3 ?_
   simp only [RT,Q0,Q1,Q2,Q3,Q4,Q5,Q6,Q7,Q8,h15,hwr]
   refine ⟨L.length - (j+1),by omega,j+1,w,none,fo,rfl,by omega,?_⟩
   rw [em]
   have hml2:s.2.1.length<=j+1:=by omega
   and_intros <;> first | rfl | assumption
 . rintro z e B hz ⟨rfl, w, ft', fo, hS, hM, hml, h0, h5, h6⟩
   obtain ⟨s,hs⟩:∃ s,s=c.acts L:=⟨_,rfl⟩
   rw [<- hs]at hS hM hml h6
   have wB:=hS.wf hw
   obtain ⟨tv,dv,bl,x1,_⟩:=hS.co.cm.ex
   obtain ⟨_,D,m1,m2,iv,fi,rfl,m3,m4⟩:=AI9 wB hS.co.rd x1
   have hSD:=hS.then0 m2
   have hMD:=CStep.lst0 hM m2
   have hin:MsgIn (qHp (nz X fk ft' fo) D) (stMsg s.1.rd) .snil iv .snil:=⟨rfl,.inl ⟨rfl,rfl⟩,m3.slcQ (fun b cs q=>by cases q) (fun f q w=>by have:=hS.co.xlt f w;have:=m4 f q;omega),.inl ⟨rfl,rfl⟩⟩
   obtain ⟨F,n1,n2,n3⟩:=Ay3 hin
   have hSF:=hSD.then0 n2
   have hMF:=CStep.lst0 hMD n2
   have hil:(stMsg s.1.rd).id.length=32:=rfl
   simp only [RT,Q0,Q1,Q2,Q3,Q4,Q5,Q6,Q7,Q8,h0]
   refine Aa0 m1 ?_
   have eA:c.act L=(s.1,if s.2.2=true/\0 < (stIds s.1.rd).length then s.2.1++[stMsg s.1.rd] else s.2.1):=by unfold Co.act;rw [<- hs]
   rw [eA]
   have n1:evStore Try.prog 28 (.ptr D.blk.length 0) (.agg (mc (msgS s.1.rd.me s.1.rd.height (stIds s.1.rd)) .snil iv .snil)) (D.push ⟨mcZ,.var⟩)=some F:=n1
   by_cases q:s.2.2=true
   rotate_left
   . have q2 : s.2.2 = false := by simpa using q
     simp only [RT,Q0,Q1,Q2,Q3,Q4,Q5,Q6,Q7,Q8,zcM,n1,h6,q2]
     simp only [RT,Q0,Q1,Q2,Q3,Q4,Q5,Q6,Q7,Q8,h5]
     refine ⟨ft',fo,hSF,?_⟩
     rw [if_neg (by simp)]
     exact hMF
   by_cases q3:0 < (stIds s.1.rd).length
   rotate_left
   . simp only [RT, Q0, Q1, Q2, Q3, Q4, Q5, Q6, Q7, Q8, zcM, n1, h6, q, decide_eq_false q3]
     simp only [RT,Q0,Q1,Q2,Q3,Q4,Q5,Q6,Q7,Q8,h5]
     refine ⟨ft',fo,hSF,?_⟩
     rw [if_neg (by simp [q3])]
     exact hMF
   obtain ⟨v',G,fo2,p1,p2,p3,p4⟩:=hSF.msg hw hMF (hin.mono (Ad8 n2)) (by omega)
   have lm:=ldM n3 hil
   simp only [RT,Q0,Q1,Q2,Q3,Q4,Q5,Q6,Q7,Q8,zcM,n1,h6,q,decide_eq_true q3]
   simp only [RT,Q0,Q1,Q2,Q3,Q4,Q5,Q6,Q7,Q8,h5,lm,A90 hil,p1]
   refine ⟨ft',fo2,p2,?_⟩
   rw [if_pos (by first | exact ⟨trivial,q3⟩ | exact ⟨rfl,q3⟩ | exact ⟨q,q3⟩ | exact q3)]
   exact p3
end
end Go.Sv.Try
namespace Go.Sv
open Go
def Co.Begin (c:Co) (b:Bts):Co×List M :=
 if b.length > 4096 then (c,[]) else Co.act { (c.learn b).1 with rd:=((c.learn b).1.rd.Begin (batchI b)).1 } ((c.learn b).2++((c.learn b).1.rd.Begin (batchI b)).2)
def co0 (n me:Nat) (h:Int):Co:=⟨rd0 n me h,0,[],[],[],[],false⟩
theorem B60 (n me:Nat) (h:Int):CoOk (co0 n me h):=⟨⟨by show (0:Int)<=0;omega,by show (0:Int)<=1000000;omega⟩,by show ([]:List DueP).length<=40;simp,(fun p q=>by cases q),by show ([]:Bts).length<=_;simp⟩
end Go.Sv
namespace Go.Sv.Try
open Go Go.Proofs
section
variable {r:Rd}
theorem Rng.rulesLen:∀ {k:Nat} {r:Rd},Rng r->(Rd.rules k r).acts.length<=r.acts.length+2 * k
 | 0,r,h=>Nat.le_refl _
 | k+1,r,h=>by
  have h1:=h.rule
  unfold Rd.rules;split
  . have:=Rng.rulesLen (k:=k) h1.1;omega
  . omega
theorem Rng.setLen (h:Rng r):r.settle.2.length<=r.acts.length+2000:=Rng.rulesLen (k:=1000) h
theorem Rng.Know (h:Rng r) (id:Bts):Rng (r.Know id).1/\(r.Know id).2.length<=r.acts.length+2000/\(r.Know id).1.acts=[]:=by
 have k:=h.remember id
 have:=k.1.setLen
 rw [k.2]at this
 exact ⟨k.1.settle,this,rfl⟩
theorem Rng.Begin (h:Rng r) (id:Bts):Rng (r.Begin id).1/\(r.Begin id).2.length<=r.acts.length+2001/\(r.Begin id).1.acts=[]:=by
 unfold Rd.Begin
 split
 . have:=h.setLen;exact ⟨h.settle,by omega,rfl⟩
 . have k : Rng (({ r with fresh := if id = z32 then r.fresh else id } : Rd).begin 0) /\ (({ r with fresh := if id = z32 then r.fresh else id } : Rd).begin 0).acts.length <= r.acts.length + 1 := Rng.begin (r := { r with fresh := if id = z32 then r.fresh else id }) { h with } (by omega)
   have:=k.1.setLen
   exact ⟨k.1.settle,by omega,rfl⟩
end
section
variable {X Y:Nat->Prop} {A B C:AS} {K:CoK} {c c1 c2:Co} {fk ft fk1 ft1 fk2 ft2 fo fo2:Option Nat}
def MRes (X:Nat->Prop) (A:AS) (K:CoK) (fk ft:Option Nat) (B:AS) (x:Co×List M) (w:V):Prop:=∃ fk' ft' fo,CStep X A K fk ft B fk' ft' fo x.1/\Lst eMsg (qHp (nz X fk' ft' fo) B) B w x.2 fo
theorem MRes.next {x:Co×List M} {w:V} (hw:WF A) (h:CStep X A K fk ft B fk1 ft1 fo c1) (k:MRes (nz X fk1 ft1 fo) B K fk1 ft1 C x w):MRes X A K fk ft C x w:=by
 obtain ⟨fk2,ft2,fo2,k1,k2⟩:=k
 refine ⟨fk2,ft2,fo2,h.next hw k1 (fun f q=>.inr q),k2.mono (Ah6 fun f q=>?_)⟩
 rcases q with q | q
 . exact .inl (.inl q)
 . exact .inr q
theorem MRes.next0 {x:Co×List M} {w:V} (hw:WF A) (hf:Fr S0 A B) (k:MRes X B K fk ft C x w):MRes X A K fk ft C x w:=by
 obtain ⟨fk2,ft2,fo2,k1,k2⟩:=k
 exact ⟨fk2,ft2,fo2,k1.next0 hw hf,k2⟩
theorem MRes.nil (h:IsCo X A K fk ft c) (hf:Fr S0 A B):MRes X A K fk ft B (c,[]) .snil:=⟨fk,ft,none,.of0 h hf,.nil⟩
theorem CStep.moreF {w w2:V} {l l2:List Act} (hw:WF A) (h:CStep X A K fk ft B fk1 ft1 fo c1) (hL:Lst eAct Hp.emp B w l fo) (k:CStep (nz X fk1 ft1 fo) B K fk1 ft1 C fk2 ft2 fo2 c2) (hL2:Lst eAct Hp.emp C w2 l2 fo2) (hl:l.length+l2.length<=10000000) :
 ∃ v' D fo',evAppend Try.prog 79 79 w w2 C=some (v',D)/\CStep X A K fk ft D fk2 ft2 fo' c2/\Lst eAct Hp.emp D v' (l++l2) fo'/\Fr (inFamO C fo) C D/\Gr C fo fo':=by
 have hC:=h.next hw k (fo:=fo) (fun f q=>.inl q)
 have hLC:=hL.fr k.fr (TM.off fun f q=>(h.new f q).2)
 obtain ⟨cs',q1,q2⟩:=hL2.src (P:=Try.prog) (tx:=79) Try.underlying79
 obtain ⟨v',D,fo',p1,p2,p3,p4⟩:=hLC.app (P:=Try.prog) (t:=79) (tx:=79) (e:=109) Ce1 (hC.wf hw) q1 q2 (by omega) (by omega)
 exact ⟨v',D,fo',p1,(hC.grow hw p3 p4 p2.famLt).1,p2,p3,p4⟩
theorem CStep.more {w w2:V} {l l2:List Act} (hw:WF A) (h:CStep X A K fk ft B fk1 ft1 fo c1) (hL:Lst eAct Hp.emp B w l fo) (k:CStep (nz X fk1 ft1 fo) B K fk1 ft1 C fk2 ft2 fo2 c2) (hL2:Lst eAct Hp.emp C w2 l2 fo2) (hl:l.length+l2.length<=10000000) :
 ∃ v' D fo',evAppend Try.prog 79 79 w w2 C=some (v',D)/\CStep X A K fk ft D fk2 ft2 fo' c2/\Lst eAct Hp.emp D v' (l++l2) fo':=by
 obtain ⟨v',D,fo',p1,p2,p3,_⟩:=h.moreF hw hL k hL2 hl
 exact ⟨v',D,fo',p1,p2,p3⟩
theorem CStep.box {b:Nat} {cs:List V} (hw:WF A) (h:CStep X A K fk ft B fk1 ft1 fo c) (hb:B.blk[b]?=some ⟨cs,.var⟩) (hf:Fr (·=.row b) B C) (hn:A.blk.length<=b) (hne:b≠K.cb/\b≠K.rp/\b≠K.cp):CStep X A K fk ft C fk1 ft1 fo c:=by
 have hts:Fr (TM (fun x=>x=b) (fun _=>False) (fun _=>False) B) B C:=hf.mono fun x q=>by subst q;exact .inl ⟨_,hb,rfl⟩
 have hle:(qHp (nz X fk1 ft1 fo) B).le (qHp (nz X fk1 ft1 fo) C):=Al7 hf (.box hb) (h.wf hw) fun f q=>.inl q
 exact { h with fr:=h.fr.trans hf fun x q=>.inr (by subst q;exact hn),co:=h.co.ts (h.wf hw) hts ⟨fun q=>hne.1 q.symm,fun q=>hne.2.1 q.symm,fun q=>hne.2.2 q.symm⟩ (fun f q=>q.elim) ⟨fun q=>q,fun q=>q⟩ (fun f q=>.inl q) h.co.sub (fun f q=>Nat.lt_of_lt_of_le (h.co.xlt f q) hf.len),le:=Hp.le_trans h.le hle }
theorem CStep.act {w:V} {l:List Act} (hw:WF A) (h:CStep X A K fk ft B fk1 ft1 fo c1) (hL:Lst eAct Hp.emp B w l fo) (hl:l.length<=1000000):∃ w' C,EvF Try.prog HH 24 [.ptr K.cb 0,w] B w' C/\MRes X A K fk ft C (c1.act l) w':=by
 obtain ⟨w',C,k1,ft',fo',k2,k3⟩:=Bp4 (h.wf hw) h.co hL (fun f q=>(h.new f q).2) hl
 exact ⟨w',C,k1,MRes.next hw h ⟨fk1,ft',fo',k2,k3⟩⟩
set_option maxRecDepth 10000 in
set_option maxHeartbeats 8000000 in
theorem Aq5 {v:V} {b:Bts} (hw:WF A) (h:IsCo X A K fk ft c) (hv:Slc eU8 (qHp X A) v b) (hb:b.length<=1000000) :
 ∃ w A',EvF Try.prog HH 18 [.ptr K.cb 0,v] A w A'/\MRes X A K fk ft A' (c.Begin b) w:=by
 refine Aa4 rfl Try.func18 (by unfold Try.f18;rfl) Try.ntmps18 (by unfold Try.f18;rfl) (by simp) ?_
 have hln:=fun B=>hv.len (P:=Try.prog) Try.underlying24 B
 unfold Co.Begin
 by_cases q:b.length > 4096
 . simp only [RT, Q0, Q1, Q2, Q3, Q4, Q5, Q6, Q7, Q8, hln, decide_eq_true (show (b.length : Int) > 4096 by omega)]
   rw [if_pos q]
   exact .nil h (.refl _ _)
 rw [if_neg q]
 obtain ⟨w1,A1,k1,fk1,fo1,k2,k3⟩:=Ay4 hw h (Af3 X A) hv hb
 have w1':=k2.wf hw
 obtain ⟨_,A2,m1,m2,rfl⟩:=Ay2 w1' (Af3 _ A1) (hv.mono k2.le) (by omega)
 have k2':=k2.then0 m2
 have w2':=k2'.wf hw
 obtain ⟨tv1,dv1,bl1,y1,_⟩:=k2.co.cm.ex
 have ld1:=Aq0 y1
 have ld2:=Aq0 (m2.row0 y1)
 have hr:=k2'.co.rng
 obtain ⟨w3,A3,n1,n2⟩:=AY2 w2' k2'.co.rd hr (by rw [k2'.co.acts];simp) (Ad6 b)
 have hB:=hr.Begin (batchI b)
 rw [k2'.co.acts]at hB
 obtain ⟨fk3,fo3,o1,o2⟩:=k2'.co.give w2' n2 (Bp1 _ _) hB.1 hB.2.2
 have hll:(c.learn b).2.length<=2000:=by
  have:=(h.rng.Know (batchI b)).2.1
  rw [h.acts]at this;exact this
 have hl2:((c.learn b).1.rd.Begin (batchI b)).2.length<=2001:=hB.2.1
 obtain ⟨v4,A4,fo4,p1,p2,p3⟩:=k2'.more hw (k3.fr0 m2) o1 o2 (by omega)
 obtain ⟨w5,A5,u1,u2⟩:=p2.act hw p3 (by rw [List.length_append];omega)
 simp only [RT,Q0,Q1,Q2,Q3,Q4,Q5,Q6,Q7,Q8,hln,decide_eq_false (show ¬ (b.length:Int) > 4096 by omega)]
 refine Aa0 k1 ?_
 simp only [RT,Q0,Q1,Q2,Q3,Q4,Q5,Q6,Q7,Q8,BJ8,Aa1,Ao4 K.cb,ld1]
 refine Aa0 m1 ?_
 simp only [RT,Q0,Q1,Q2,Q3,Q4,Q5,Q6,Q7,Q8,Aa1]
 refine ⟨Aa3 (ha:=rfl) rfl ld2.1 rfl Aa1,?_⟩
 refine Aa0 n1 ?_
 simp only [RT,Q0,Q1,Q2,Q3,Q4,Q5,Q6,Q7,Q8,Aa1,p1]
 refine Aa0 u1 ?_
 simp only [RT,Q0,Q1,Q2,Q3,Q4,Q5,Q6,Q7,Q8,Aa1]
 exact u2
set_option maxRecDepth 10000 in
set_option maxHeartbeats 8000000 in
theorem AE3 (hw:WF A) (h:IsCo X A K fk ft c) :
 ∃ w A',EvF Try.prog HH 11 [.ptr K.cb 0] A w A'/\Fr S0 A A'/\∃ v,w=.tup [v,.bool c.over]/\Slc eU8 (qHp X A') v (if c.over then c.done else []):=by
 refine Aa4 rfl Try.func11 (by unfold Try.f11;rfl) Try.ntmps11 (by unfold Try.f11;rfl) (by simp) ?_
 obtain ⟨tv,dv,bl,x1,x2,x3,x4,x5,x6⟩:=h.cm.ex
 have ld:=Aq0 x1
 cases q:c.over with
 | false =>
  rw [q]at ld
  simp only [RT,Q0,Q1,Q2,Q3,Q4,Q5,Q6,Q7,Q8,Ao4 K.cb,ld,Ao0]
  exact ⟨.refl _ _,.snil,rfl,.inl ⟨rfl,rfl⟩⟩
 | true =>
  rw [q]at ld
  obtain ⟨c',B,y1,y2,y3,y4,y5⟩:=At0 (P:=Try.prog) (t:=24) (tx:=24) hw B24 Try.underlying24 x6 (Af3 X A) (by have:=h.lim.done;omega) (by have:=h.lim.done;omega)
  have f4:=Fr.pushArr A []
  have ldP:=Aq0 (f4.row0 x1)
  have hnX:¬ X A.blk.length:=fun q=>by have:=h.xlt _ q;omega
  simp only [RT,Q0,Q1,Q2,Q3,Q4,Q5,Q6,Q7,Q8,Ao4 K.cb,ld,Ao0,Bo6]
  simp only [RT,Q0,Q1,Q2,Q3,Q4,Q5,Q6,Q7,Q8,Ao4 K.cb,ldP,y1]
  exact ⟨y5,_,rfl,Be2 (Al1 y2 hnX) rfl⟩
structure NewC (A:AS) (K:CoK):Prop where
 cb:A.blk.length<=K.cb
 cp:A.blk.length<=K.cp
 nr:NewR A K.rp K.vb
 mb:A.maps.length<=K.mb
 mg:A.maps.length<=K.mg
theorem B61:mkm Try.prog 71 (some none)=some .newMap:=by kernel_rfl
theorem B62:mkm Try.prog 72 (some none)=some .newMap:=by kernel_rfl
theorem B63 (n me h:Int) (rp mb mg:Nat):evBuild Try.prog 77 [(0,.ptr rp 0),(2,.int .i64 n),(3,.int .i64 me),(4,.int .i64 h),(5,.map mb),(6,.map mg)]=some (.agg (coC rp n me h 0 .snil .snil mb mg false)):=by kernel_rfl
set_option maxRecDepth 10000 in
set_option maxHeartbeats 8000000 in
theorem Be7 (hw:WF A) {n me:Nat} {h:Int} (hok:okN n) (hme:me < n) (h0:0<=h):∃ w A',EvF Try.prog HH 23 [.int .i64 (n:Int),.int .i64 (me:Int),.int .i64 h] A w A'/\Fr S0 A A'/\∃ rp cp vb,w=.tup [.ptr rp 0,.int .i64 0]/\IsRd A' rp (rd0 n me h) cp vb none none/\NewR A rp vb/\A.blk.length<=cp:=by
 have h7:n<=7:=by unfold okN at hok;omega
 refine Aa4 rfl Try.func23 (by unfold Try.f23;rfl) Try.ntmps23 (by unfold Try.f23;rfl) (by simp) ?_
 simp only [RT,Q0,Q1,Q2,Q3,Q4,Q5,Q6,Q7,Q8]
 obtain ⟨w,A1,k1,f1,k3⟩:=AY0 (n:=(n:Int)) hw (by omega) (by omega)
 refine Aa0 k1 ?_
 rcases k3 with ⟨q,rfl⟩ | ⟨m,cp,vb,qm,hm,rfl,hc,hcp,hvb⟩
 . exact absurd hok (fun z=>Bn0 q (by unfold okN at z;omega))
 obtain rfl:m=n:=by omega
 simp only [RT,Q0,Q1,Q2,Q3,Q4,Q5,Q6,Q7,Q8,decide_eq_false (show ¬ ((me:Int) < 0) by omega),decide_eq_false (show ¬ ((me:Int) >= (m:Int)) by omega),decide_eq_false (show ¬ h < 0 by omega),BQ0]
 obtain ⟨A2,e2,f2,r2,n2⟩:=Aa9 A1 (encR (rd0 m me h) .snil .snil cp)
 rw [<- e2]
 refine ⟨f1.then0 f2,A1.blk.length,cp,vb,rfl,?_,⟨f1.len,hvb⟩,hcp⟩
 have:=hc.fr0 f2
 exact { box:=⟨.snil,.snil,r2,.nil,.nil⟩,cnt:=this,ok:=Ce9 _ _ _,rc:=fun q=>by have:=Ac3 hc.box;omega,ne1:=fun _ q=>(by cases q),ne2:=fun _ _=>⟨fun q=>(by cases q),fun q=>(by cases q)⟩ }
def IsNew (A A':AS) (w:V) (n me:Nat) (h:Int):Prop:=∃ K:CoK,w=.tup [.ptr K.cb 0,.int .i64 0]/\NewC A K/\∀ X:Nat->Prop,(∀ f,X f->f < A.blk.length)->IsCo (fun f=>X f∨XCo K none none f) A' K none none (co0 n me h)
set_option maxRecDepth 10000 in
set_option maxHeartbeats 8000000 in
theorem Bp5 {A1:AS} {w:V} {n me:Nat} {h:Int} {rp cp:Nat} {vb:Nat->Nat} (hw:WF A) (q:¬ h > 1099511627776) (k1:EvF Try.prog HH 23 [.int .i64 (n:Int),.int .i64 (me:Int),.int .i64 h] A (.tup [.ptr rp 0,.int .i64 0]) A1) (f1:Fr S0 A A1) (hlt:me < n) (h0:0<=h) (hR:IsRd A1 rp (rd0 n me h) cp vb none none) (hN:NewR A rp vb) (hcp:A.blk.length<=cp) :
 ∃ w A',EvF Try.prog HH 7 [.int .i64 (n:Int),.int .i64 (me:Int),.int .i64 h] A w A'/\Fr S0 A A'/\IsNew A A' w n me h:=by
 refine Aa4 rfl Try.func7 (by unfold Try.f7;rfl) Try.ntmps7 (by unfold Try.f7;rfl) (by simp) ?_
 simp only [RT,Q0,Q1,Q2,Q3,Q4,Q5,Q6,Q7,Q8,decide_eq_false q]
 refine Aa0 k1 ?_
 obtain ⟨A2,e2⟩:∃ B,B=A1.pushMap ⟨[],0⟩:=⟨_,rfl⟩
 have f2:Fr S0 A1 A2:=by rw [e2];exact Fr.pushMap A1 _
 obtain ⟨mb,hmb⟩:∃ m,m=A1.maps.length:=⟨_,rfl⟩
 have hM2:MapIs A2 mb encB Prod.fst ([]:BatL):=by rw [e2,hmb];exact MapIs.new A1
 obtain ⟨A3,e3⟩:∃ B,B=A2.pushMap ⟨[],0⟩:=⟨_,rfl⟩
 have f3:Fr S0 A2 A3:=by rw [e3];exact Fr.pushMap A2 _
 obtain ⟨mg,hmg⟩:∃ m,m=A2.maps.length:=⟨_,rfl⟩
 have hM3:MapIs A3 mg encW V.bool ([]:List (Int×Bool)):=by rw [e3,hmg];exact MapIs.new A2
 have hl2:A2.maps.length=A1.maps.length+1:=by rw [e2];simp [AS.pushMap]
 obtain ⟨A4,e4,f4,r4,n4⟩:=Aa9 A3 (coC rp (n:Int) (me:Int) h 0 .snil .snil mb mg false)
 obtain ⟨cb,hcb⟩:∃ b,b=A3.blk.length:=⟨_,rfl⟩
 rw [<- hcb]at r4
 simp only [RT,Q0,Q1,Q2,Q3,Q4,Q5,Q6,Q7,Q8,B61,B62,<- e2,<- hmb,<- e3,<- hmg,B63]
 simp only [RT,Q0,Q1,Q2,Q3,Q4,Q5,Q6,Q7,Q8,<- e4,<- hcb]
 have f14:=(f2.then0 f3).then0 f4
 have fA4:=f1.then0 f14
 have hR4:=hR.fr0 f14
 have l13:=(f2.then0 f3).len
 have rpl:rp < A1.blk.length:=by obtain ⟨_,_,b,_⟩:=hR.box;exact Ac3 b
 have cpl:cp < A1.blk.length:=Ac3 hR.cnt.box
 have hml:∀ {A B:AS},Fr S0 A B->A.maps.length<=B.maps.length:=fun hf=>by
  apply Nat.not_lt.1;intro z
  obtain ⟨mo,q⟩:=Ag4 z
  have:=hf.map _ _ q (fun w=>w)
  have:=(List.getElem?_eq_some_iff.1 this).1
  omega
 have m1:=hml f1
 refine ⟨fA4,⟨cb,rp,cp,mb,mg,vb⟩,rfl,⟨by show A.blk.length<=cb;have:=f1.len;omega,hcp,hN,by show A.maps.length<=mb;omega,by show A.maps.length<=mg;omega⟩,fun X hX=>?_⟩
 refine ⟨hR4,⟨⟨.snil,.snil,[],r4,.nil,(hM2.fr f3 (fun q=>q)).fr f4 (fun q=>q),rfl,(fun p q=>by cases q),.inl ⟨rfl,rfl⟩⟩,hM3.fr f4 (fun q=>q),by show mb≠mg;omega⟩,fun f q=>.inr q,fun f q=>?_,by show cb≠rp;omega,by show cb≠cp;omega,(fun f q=>by cases q),Cf0 hlt h0 (by omega),rfl,B60 _ _ _⟩
 rcases q with q | q | q
 . exact Nat.lt_of_lt_of_le (hX f q) fA4.len
 . exact hR4.xlt q
 . cases q
theorem AN0 (hw:WF A) {n me:Nat} {h:Int} (hok:okN n) (hme:me < n) (h0:0<=h) (h1:h<=1099511627776):∃ w A',EvF Try.prog HH 7 [.int .i64 (n:Int),.int .i64 (me:Int),.int .i64 h] A w A'/\Fr S0 A A'/\IsNew A A' w n me h:=by
 obtain ⟨w,A1,k1,f1,rp,cp,vb,rfl,hR,hN,hcp⟩:=Be7 hw hok hme h0
 exact Bp5 (w:=.pnil) hw (by omega) k1 f1 hme h0 hR hN hcp
end
end Go.Sv.Try
