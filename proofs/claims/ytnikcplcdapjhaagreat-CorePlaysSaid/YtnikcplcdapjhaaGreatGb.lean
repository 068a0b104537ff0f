/- Sums: the blocks of bytes. -/
import Derived.Test.YtnikcplcdapjhaaGreatGa
import Derived.Test.YtnikcplcdapjhaaGreatSv4
open Go.Proofs.Tryz renaming prog → TP
set_option linter.unusedSimpArgs false
set_option linter.unusedVariables false
open Nat renaming reduceLT → Q0, reduceBEq → Q1, reduceEqDiff → Q2, reduceAdd → Q3
open Int renaming reduceEq → Q4, reduceLT → Q5, reduceLE → Q6, reduceGT → Q7, reduceGE → Q8
namespace Go.Sv.Tryz
open Go Go.Proofs
section
variable {A:AS} {r:Nat} {k:BK}
def b64:Bts:=List.replicate 64 0
theorem Ay3:b64.length=64:=by simp[b64]
theorem zcB:(aC TP 193).bind V.cells=some (bc b64):=by kernel_rfl
theorem BZ6:au TP 193 []=some (.agg (bc b64)):=by kernel_rfl
theorem stB{l:Bts}(hb:A.blk[r]?=some ⟨bc l,.var⟩){j:Nat}(h:j<l.length)(x:UInt8):∃A',ag TP 5 (.ptr r j) (.int .u8 (x.toNat:Int)) A=some A'/\Fr (·=.row r) A A'/\A'.blk[r]?=some ⟨bc (l.set j x),.var⟩:=by
 obtain⟨A',s1,s2,s3,s4⟩:=Ab1 (P:=TP) (t:=5) (o:=j) (x:=.int .u8 (x.toNat:Int)) (cs:=[.int .u8 (x.toNat:Int)]) hb rfl sz5 (by rw[Aa7];exact h) rfl
 rw[AT2 h]at s3
 exact⟨A',s1,s2,s3⟩
theorem Cu3(l:Bts)(h:l.length=64):∃A',ag TP 193 (.ptr A.blk.length 0) (.agg (bc l)) (A.push ⟨bc b64,.var⟩)=some A'/\Fr S0 A A'/\A'.blk[A.blk.length]?=some ⟨bc l,.var⟩:=by
 obtain⟨A2,s1,s2,s3,s4⟩:=Ag5 (P:=TP) A (z:=bc b64) (t:=193) (x:=.agg (bc l)) (cs:=bc l) rfl (by rw[Aa7,h];exact BX3) (by rw[Aa7,Aa7,h,Ay3]) (Ac9 _)
 exact⟨A2,s1,s2,s3⟩
theorem nu{l l':Bts}(hb:A.blk[r]?=some ⟨bc l,.var⟩)(h:l.length=64)(h':l'.length=64):∃A',ag TP 193 (.ptr r 0) (.agg (bc l')) A=some A'/\Fr (·=.row r) A A'/\A'.blk[r]?=some ⟨bc l',.var⟩:=by
 obtain⟨A',s1,s2,s3,s4⟩:=Ab1 (P:=TP) (t:=193) (o:=0) (x:=.agg (bc l')) (cs:=bc l') hb rfl (by rw[Aa7,h'];exact BX3) (by rw[Aa7,Aa7];omega) (Ac9 _)
 rw[Ah3 (by rw[Aa7,Aa7];omega)]at s3
 exact⟨A',s1,s2,s3⟩
theorem Ch7{l:Bts}(hb:A.blk[r]?=some ⟨bc l,k⟩)(h:l.length=64):aa TP 193 (.ptr r 0) A=some (.agg (bc l)):=At.load hb (At.all _) Ct1 BX3 (by rw[Aa7,h])
theorem BZ7(n:Nat)(h:n<=9223372036854775807)(A:AS):cnv TP 3 205 (some (.int .i64 (n:Int))) A=some (.val (.int .u64 (n:Int))):=by
 rw[As0 (by decide) Tryz.underlying3 Tryz.underlying205,Ad1];congr 3;omega
theorem Bg9(n:Nat)(A:AS):cnv TP 205 5 (some (.int .u64 (n:Int))) A=some (.val (.int .u8 ((UInt8.ofNat n).toNat:Int))):=by
 rw[As0 (by decide) Tryz.underlying205 Tryz.underlying5]
 congr 3
theorem Ch8{l:Bts}{i n:Nat}(h:l.length=i)(hi:i<n)(x:UInt8):(l++List.replicate (n-i) 0).set i x=l++[x]++List.replicate (n-(i+1)) 0:=by
 obtain⟨k,hk⟩:∃k,n-i=k+1:=⟨n-i-1,by omega⟩
 rw[hk,show n-(i+1)=k by omega,List.replicate_succ,List.set_append,if_neg (by omega),<- h,Nat.sub_self]
 simp
def qG(N:Nat):Loc->Prop:=fun z=>∃b,z=.row b/\N<=b
def qH(_:AS)(args:List V)(x:Bts):Prop:=args=[.agg (bc x)]
set_option maxRecDepth 10000 in
set_option maxHeartbeats 32000000 in
theorem AZ8{m:Hp}{bx:Nat}{v:V}{ls:List Bts}{S:Loc->Prop}(hm:m.on A)(hS:∀b,S (.row b)->m b=none/\b≠bx/\b<A.blk.length)(hb:A.blk[bx]?=some ⟨[v],.var⟩)(h:Slc (eSl eU8) m v ls)(hL:ls.flatten.length<=1000000000000)(hLn:ls.length<=1000000000000):
 kq TP HH 120 [] [.ptr bx 0] A S (qG A.blk.length) (fun _=>False) (fun _=>True) (fun _=>True) qH (chunks (fP ls.flatten)):=by
 intro lo J D hJ hD dA hJ0
 refine Aa4 rfl Tryz.func120 (by unfold Tryz.f120;rfl) Tryz.ntmps120 (by unfold Tryz.f120;rfl) (by simp) ?_
 obtain⟨L,hLd⟩:∃L,L=ls.flatten:=⟨_,rfl⟩
 rw[<- hLd]at hL dA ⊢
 obtain⟨ch,hch⟩:∃c,c=chunks (fP L):=⟨_,rfl⟩
 rw[<- hch]at dA ⊢
 obtain⟨N,hN⟩:∃n,n=A.blk.length:=⟨_,rfl⟩
 have hJ':∀{i:Nat} {B C:AS} {b:Nat},J i B->Fr (·=.row b) B C->N<=b->J i C:=fun q w z=>hJ _ _ _ q (w.mono fun x y=>⟨_,y,by rw[<- hN];exact z⟩)
 have hJ0':∀{i:Nat} {B C:AS},J i B->Fr S0 B C->J i C:=fun q w=>hJ _ _ _ q (w.mono fun x y=>y.elim)
 have kW:∀{B C:AS} {b:Nat},Fr S A B->Fr (·=.row b) B C->N<=b->Fr S A C:=fun q w z=>q.trans w fun x y=>by subst y;exact .inr (show A.blk.length<=_ by rw[<- hN];exact z)
 have row_keep:∀{B C:AS} {b:Nat} {cs:List V},Fr S B C->B.blk[b]?=some ⟨cs,.var⟩->N<=b->C.blk[b]?=some ⟨cs,.var⟩:=fun q w z=>q.row _ _ w fun y=>by have:=(hS _ y).2.2;omega
 have hld:∀{B},Fr S A B->aa TP 46 (.ptr bx 0) B=some v:=fun q=>Ab7 Cx0 (q.row _ _ hb fun w=>(hS _ w).2.1 rfl)
 have hmB:∀{B},Fr S A B->m.on B:=fun q=>hm.fr q fun b w=>(hS b w).1
 obtain⟨A1,e1,f1,r1,n1⟩:=Aa3 A (bc b64)
 simp only[RT,Q0,Q1,Q2,Q3,Q4,Q5,Q6,Q7,Q8,zcB,<- e1]
 rw[<- hN]at r1 n1 ⊢
 have hf1:Fr S A A1:=f1.mono fun _ q=>q.elim
 have hlen:=fun B=>h.len (P:=TP) Tryz.underlying46 B
 simp only[RT,Q0,Q1,Q2,Q3,Q4,Q5,Q6,Q7,Q8,hld hf1,hlen]
 refine Aa6 (fun z e B=>∃(i:Nat) (p w:Bts),z=ls.length-i/\i<=ls.length/\e.get 13=.int .i64 i/\e.get 0=.yield lo/\e.get 3=.ptr N 0/\e.get 4=.int .i64 (p.length:Int)/\e.get 11=v/\e.get 12=.int .i64 ls.length/\p=(ls.take i).flatten/\Fr S A B/\B.blk[N]?=some ⟨bc w,.var⟩/\jt p w/\J (p.length/64) B/\N<B.blk.length)
  (fun z e B=>Fr S A B/\((Is z (.exit 0)/\∃w:Bts,e.get 0=.yield lo/\e.get 3=.ptr N 0/\e.get 4=.int .i64 (L.length:Int)/\B.blk[N]?=some ⟨bc w,.var⟩/\jt L w/\J (L.length/64) B/\N<B.blk.length)∨(Is z .ret/\∃i,i<ch.length/\D i B)))
  ⟨_,0,[],b64,rfl,by omega,rfl,rfl,rfl,rfl,rfl,rfl,rfl,hf1,r1,⟨Ay3,rfl⟩,hJ0' hJ0 f1,by omega⟩ ?_ ?_
 . rintro z e B ⟨i,p,w,rfl,hi,h13,h0,h3,h4,h11,h12,hp,hf,hw,hbk,hj,hNB⟩
   simp only[RT,Q0,Q1,Q2,Q3,Q4,Q5,Q6,Q7,Q8,h12,h13]
   refine Aa8 (fun q1=>?_) (fun q1=>?_)
   rotate_left
   . have:i=ls.length:=by omega
     subst this
     rw[List.take_length]at hp
     simp only[RT,Q0,Q1,Q2,Q3,Q4,Q5,Q6,Q7,Q8]
     rw[hLd,<- hp]
     exact⟨hf,.inl ⟨rfl,w,h0,h3,h4,hw,hbk,hj,hNB⟩⟩
   obtain⟨x,hx⟩:=Ac7 (l:=ls) (i:=i) (by omega)
   obtain⟨b,o,xv,g3,g4,g5⟩:=h.at (P:=TP) (k:=.i64) (hmB hf) Tryz.underlying46 BY1 BW6 hx
   have g5:=BM8.1 g5
   have hxl:=fun B=>g5.len (P:=TP) Tryz.underlying45 B
   have hwi:IntKind.i64.wrap ((i:Int)+1)=((i+1:Nat):Int):=by
    rw[Ac2 (by omega)]
   have hpx:(ls.take (i+1)).flatten=p++x:=by rw[Ab6 hx,List.flatten_append,hp];simp
   have lL:∃rest,L=p++x++rest:=⟨(ls.drop (i+1)).flatten,by rw[hLd,<- hpx,<- List.flatten_append,List.take_append_drop]⟩
   obtain⟨rest,o7⟩:=lL
   have hxL:x.length<=L.length:=by rw[o7];simp only[List.length_append];omega
   simp only[RT,Q0,Q1,Q2,Q3,Q4,Q5,Q6,Q7,Q8,h11,h13,g3,g4,hxl]
   refine Aa6 (fun z e B=>∃(j:Nat) (w:Bts),z=x.length-j/\j<=x.length/\e.get 19=.int .i64 j/\e.get 13=.int .i64 i/\e.get 0=.yield lo/\e.get 3=.ptr N 0/\e.get 4=.int .i64 ((p++x.take j).length:Int)/\e.get 11=v/\e.get 12=.int .i64 ls.length/\e.get 17=xv/\e.get 18=.int .i64 x.length/\Fr S A B/\B.blk[N]?=some ⟨bc w,.var⟩/\jt (p++x.take j) w/\J ((p++x.take j).length/64) B/\N<B.blk.length)
    (fun z e B=>Fr S A B/\((Is z (.exit 2)/\∃w:Bts,e.get 13=.int .i64 i/\e.get 0=.yield lo/\e.get 3=.ptr N 0/\e.get 4=.int .i64 ((p++x).length:Int)/\e.get 11=v/\e.get 12=.int .i64 ls.length/\B.blk[N]?=some ⟨bc w,.var⟩/\jt (p++x) w/\J ((p++x).length/64) B/\N<B.blk.length)∨(Is z .ret/\∃i,i<ch.length/\D i B)))
    ⟨_,0,w,rfl,by omega,rfl,h13,h0,h3,by rw[List.take_zero,List.append_nil];exact h4,h11,h12,rfl,rfl,hf,hw,by rw[List.take_zero,List.append_nil];exact hbk,by rw[List.take_zero,List.append_nil];exact hj,hNB⟩ ?_ ?_
   . clear hw hbk hj hNB h13 h0 h3 h4 h11 h12 hf g4 g3
     rintro z e B ⟨j,w,rfl,hjx,h19,h13,h0,h3,h4,h11,h12,h17,h18,hf,hw,hbk,hj,hNB⟩
     simp only[RT,Q0,Q1,Q2,Q3,Q4,Q5,Q6,Q7,Q8,h18,h19]
     refine Aa8 (fun q2=>?_) (fun q2=>?_)
     rotate_left
     . have:j=x.length:=by omega
       subst this
       rw[List.take_length]at hbk hj h4
       simp only[RT,Q0,Q1,Q2,Q3,Q4,Q5,Q6,Q7,Q8]
       exact⟨hf,.inl ⟨rfl,w,h13,h0,h3,h4,h11,h12,hw,hbk,hj,hNB⟩⟩
     obtain⟨y,hy⟩:=Ac7 (l:=x) (i:=j) (by omega)
     obtain⟨b2,o2,g3,g4⟩:=BI5 g5 (hmB hf) hy
     have hxs:x.take (j+1)=x.take j++[y]:=Ab6 hy
     have hpj:p++x.take (j+1)=p++x.take j++[y]:=by rw[hxs,List.append_assoc]
     have qI:∃r2,L=p++x.take j++[y]++r2:=⟨x.drop (j+1)++rest,by rw[o7,<- hpj,List.append_assoc,List.append_assoc,<- List.append_assoc (x.take (j+1)),List.take_append_drop]⟩
     obtain⟨r2,hr2⟩:=qI
     obtain⟨q,hq⟩:∃q,q=p++x.take j:=⟨_,rfl⟩
     rw[<- hq]at h4 hbk hj hr2
     have hLl:L.length=q.length+1+r2.length:=by rw[hr2];simp only[List.length_append,List.length_singleton]
     have wq:IntKind.i64.wrap ((q.length:Int)+1)=((q.length+1:Nat):Int):=by rw[Ac2 (by omega)]
     have wj:IntKind.i64.wrap ((j:Int)+1)=((j+1:Nat):Int):=by rw[Ac2 (by omega)]
     have rm:∀n:Nat,aw TP .rem 3 (.int .i64 (n:Int)) (.int .i64 64)=some (.int .i64 ((n%64:Nat):Int)):=fun n=>by rw[Al8,if_neg (by omega)];rfl
     obtain⟨C,s1,s2,s3⟩:=stB hw (j:=q.length%64) (by rw[hbk.1];omega) y
     have hC:=kW hf s2 (Nat.le_refl _)
     have hjC:=hJ' hj s2 (Nat.le_refl _)
     have hNC:N<C.blk.length:=Ab3 s3
     obtain⟨st1,st2⟩:=hbk.step y
     have sA:(w.set (q.length%64) y).length=64:=by rw[List.length_set];exact hbk.1
     by_cases q64:(q.length+1)%64=0
     . obtain⟨u1,u2,u3⟩:=st2 q64
       have hck:ch[q.length/64]?=some (w.set (q.length%64) y):=by
        rw[hch,Ba3 L (by omega),u1,hr2]
        congr 1
        rw[List.append_assoc,List.drop_append_of_le_length (by omega),List.drop_append_of_le_length (by omega),<- List.append_assoc,List.take_append_of_le_length (by rw[List.length_append,List.length_drop];simp;omega)]
       obtain⟨bb,E,y1,y2,y3,y4⟩:=dA _ _ C _ hck hjC hC trivial rfl
       simp only[RT,Q0,Q1,Q2,Q3,Q4,Q5,Q6,Q7,Q8,h17,h19,g3,g4,h4,rm,h3,AT0 (r:=N) (show q.length%64<64 by omega),s1,wq,DT (show(((q.length+1)%64:Nat):Int)=0 by omega),h0,Ch7 s3 sA]
       refine⟨_,E,y1,?_⟩
       simp only[RT,Q0,Q1,Q2,Q3,Q4,Q5,Q6,Q7,Q8]
       have hE:=hC.thn y2
       cases bb with
       |true =>
        simp only[RT,Q0,Q1,Q2,Q3,Q4,Q5,Q6,Q7,Q8,h19,wj]
        refine⟨x.length-(j+1),by omega,j+1,w.set (q.length%64) y,rfl,by omega,?_⟩
        rw[hpj,<- hq]
        have lq:(q++[y]).length=q.length+1:=by simp
        have z1:=row_keep y2 s3 (Nat.le_refl _)
        have z2:=(y3 rfl).1
        rw[<- u3]at z2
        have z3:N<E.blk.length:=Ab3 z1
        exact⟨rfl,h13,h0,h3,by rw[lq],h11,h12,h17,h18,hE,z1,u2,z2,z3⟩
       |false =>
        simp only[RT,Q0,Q1,Q2,Q3,Q4,Q5,Q6,Q7,Q8]
        exact⟨hE,.inr ⟨rfl,_,(LG.1 hck).1,y4 rfl⟩⟩
     . have sE:=st1 q64
       simp only[RT,Q0,Q1,Q2,Q3,Q4,Q5,Q6,Q7,Q8,h17,h19,g3,g4,h4,rm,h3,AT0 (r:=N) (show q.length%64<64 by omega),s1,wq,DF (show ¬((((q.length+1)%64:Nat):Int)=0) by omega)]
       simp only[RT,Q0,Q1,Q2,Q3,Q4,Q5,Q6,Q7,Q8,h19,wj]
       refine⟨x.length-(j+1),by omega,j+1,w.set (q.length%64) y,rfl,by omega,?_⟩
       rw[hpj,<- hq]
       have lq:(q++[y]).length=q.length+1:=by simp
       exact⟨rfl,h13,h0,by rw[lq],h11,h12,h18,hC,s3,sE,by rw[lq,show(q.length+1)/64=q.length/64 by omega];exact hjC,hNC⟩
   . rintro z e B hz ⟨hf,⟨rfl,w,h13,h0,h3,h4,h11,h12,hw,hbk,hj,hNB⟩ |⟨rfl,hd⟩⟩
     . simp only[RT,Q0,Q1,Q2,Q3,Q4,Q5,Q6,Q7,Q8,h13,hwi]
       refine⟨ls.length-(i+1),by omega,i+1,p++x,w,rfl,by omega,?_⟩
       exact⟨rfl,h0,h3,h4,h11,h12,hpx.symm,hf,hw,hbk,hj,hNB⟩
     . simp only[RT,Q0,Q1,Q2,Q3,Q4,Q5,Q6,Q7,Q8]
       exact⟨hf,.inr ⟨rfl,hd⟩⟩
 rintro z e B hz ⟨hf,⟨rfl,w,h0,h3,h4,hw,hbk,hj,hNB⟩ |⟨rfl,hd⟩⟩
 rotate_left
 . simp only[RT,Q0,Q1,Q2,Q3,Q4,Q5,Q6,Q7,Q8]
   exact⟨hf,.inr hd⟩
 obtain⟨r,hr⟩:∃r,r=L.length%64:=⟨_,rfl⟩
 have qJ:r<64:=by omega
 obtain⟨n8,hn8⟩:∃n,n=L.length*8:=⟨_,rfl⟩
 obtain⟨B1,s1,s2,s3⟩:=Cu3 (A:=B) b64 Ay3
 obtain⟨b9,hb9⟩:∃b,b=B.blk.length:=⟨_,rfl⟩
 rw[<- hb9]at s1 s3
 have hN9:N<=b9/\N≠b9:=by omega
 have rm:∀n:Nat,aw TP .rem 3 (.int .i64 (n:Int)) (.int .i64 64)=some (.int .i64 ((n%64:Nat):Int)):=fun n=>by rw[Al8,if_neg (by omega)];rfl
 have hw1:=s2.af hw
 have hwl:(bc w).length=64:=by rw[Aa7];exact hbk.1
 have sl1:=Bo8 (P:=TP) (A:=B1) (t:=193) (n:=64) (b:=b9) (o:=0) (z:=0) Tryz.underlying193 sz5 s3 (by show 0+64*1<=(bc b64).length;rw[Aa7,Ay3];exact Nat.le_refl _)
 have sl2:=BZ5 (P:=TP) (A:=B1) (t:=193) (n:=64) (b:=N) (o:=0) (z:=0) (j:=r) (kd:=.i64) Tryz.underlying193 sz5 hw1 (by show 0+64*1<=(bc w).length;rw[hwl];exact Nat.le_refl _) (by omega)
 have hrg:B1.range N 0 r=some (bc (w.take r)):=by
  unfold AS.range
  rw[hw1]
  simp only[]
  rw[if_pos (by rw[hwl];omega),List.drop_zero]
  unfold bc;rw[List.map_take]
 obtain⟨B2,c1,c2,c3⟩:=Bs6 (P:=TP) (t:=45) (n:=64) (n':=r) Tryz.underlying45 sz5 s3 hrg (by rw[Aa7,List.length_take,hbk.1];omega) (Ac9 _) (by omega) (by rw[Aa7,Ay3];omega)
 have c3:B2.blk[b9]?=some ⟨bc (w.take r++List.replicate (64-r) 0),.var⟩:=by
  rw[c3];congr 2
  unfold bc b64
  rw[List.map_append,<- List.map_drop,List.drop_replicate]
 have hwr:(w.take r).length=r:=by rw[List.length_take,hbk.1];omega
 obtain⟨B3,d1,d2,d3⟩:=stB c3 (j:=r) (by rw[List.length_append,hwr,List.length_replicate];omega) 128
 rw[Ch8 hwr qJ,show w.take r=L.drop (64*(L.length/64)) by rw[hr];exact hbk.2,show 64-(r+1)=63-r by omega]at d3
 have d1:ag TP 5 (.ptr b9 r) (.int .u8 128) B2=some B3:=d1
 have hf3:Fr S A B3:=kW (kW (hf.ab s2) c2 hN9.1) d2 hN9.1
 have hj3:J (L.length/64) B3:=hJ' (hJ' (hJ0' hj s2) c2 hN9.1) d2 hN9.1
 have hdl:(L.drop (64*(L.length/64))).length=r:=by rw[List.length_drop];omega
 simp only[RT,Q0,Q1,Q2,Q3,Q4,Q5,Q6,Q7,Q8,BZ6,zcB,s1,<- hb9]
 rw[Bq8,Aa2 (by rfl)]
 simp only[RT,Q0,Q1,Q2,Q3,Q4,Q5,Q6,Q7,Q8,sl1,h4,rm,<- hr,h3,sl2,c1,AT0 (r:=b9) qJ,d1]
 refine Ah4 (fun z e C=>Fr S A C/\((Is z .normal/\∃(q:Bts) (kk:Nat),q.length=56/\kk+1=ch.length/\ch[kk]?=some (q++be8 n8)/\J kk C/\C.blk[b9]?=some ⟨bc (iR q n8 0),.var⟩/\e.get 0=.yield lo/\e.get 4=.int .i64 (L.length:Int)/\e.get 9=.ptr b9 0)∨(Is z .ret/\∃i,i<ch.length/\D i C))) ?_ ?_
 . refine Aa8 (fun q1=>?_) (fun q1=>?_)
   . obtain⟨k1,k2,k3⟩:=Bg7 L (by omega)
     rw[<- hch]at k1 k2 k3
     rw[<- hr]at k1
     have qK:(L.drop (64*(L.length/64))++[128]++List.replicate (63-r) (0:UInt8)).length=64:=by simp only[List.length_append,hdl,List.length_singleton,List.length_replicate];omega
     obtain⟨bb,E,y1,y2,y3,y4⟩:=dA _ _ B3 _ k1 hj3 hf3 trivial rfl
     simp only[RT,Q0,Q1,Q2,Q3,Q4,Q5,Q6,Q7,Q8,h0,Ch7 d3 qK]
     refine⟨_,E,y1,?_⟩
     simp only[RT,Q0,Q1,Q2,Q3,Q4,Q5,Q6,Q7,Q8]
     have hE:=hf3.thn y2
     cases bb with
     |true =>
      have z1:=row_keep y2 d3 hN9.1
      obtain⟨G,g1,g2,g3⟩:=nu z1 qK Ay3
      simp only[RT,Q0,Q1,Q2,Q3,Q4,Q5,Q6,Q7,Q8,BZ6,g1]
      have zB:G.blk[b9]?=some ⟨bc (iR (List.replicate 56 0) n8 0),.var⟩:=by rw[g3,AT3,List.replicate_append_replicate];rfl
      have zJ:=hJ' (y3 rfl).1 g2 hN9.1
      have z56:(List.replicate 56 (0:UInt8)).length=56:=by simp
      have zk:L.length/64+1+1=ch.length:=by omega
      rw[<- hn8]at k2
      refine⟨kW hE g2 hN9.1,.inl ⟨rfl,List.replicate 56 0,L.length/64+1,?_⟩⟩
      and_intros<;>first |rfl |assumption
     |false =>
      simp only[RT,Q0,Q1,Q2,Q3,Q4,Q5,Q6,Q7,Q8]
      exact⟨hE,.inr ⟨rfl,_,(LG.1 k1).1,y4 rfl⟩⟩
   . obtain⟨k1,k2⟩:=Bg6 L (by omega)
     rw[<- hch]at k1 k2
     rw[<- hr]at k1
     simp only[RT,Q0,Q1,Q2,Q3,Q4,Q5,Q6,Q7,Q8]
     have zB:B3.blk[b9]?=some ⟨bc (iR (L.drop (64*(L.length/64))++[128]++List.replicate (55-r) 0) n8 0),.var⟩:=by
      rw[d3,AT3,List.append_assoc _ (List.replicate (55-r) 0),List.replicate_append_replicate,show 63-r=55-r+8 by omega]
     have z56:(L.drop (64*(L.length/64))++[128]++List.replicate (55-r) (0:UInt8)).length=56:=by simp only[List.length_append,hdl,List.length_singleton,List.length_replicate];omega
     have zk:L.length/64+1=ch.length:=by omega
     rw[<- hn8]at k1
     refine⟨hf3,.inl ⟨rfl,L.drop (64*(L.length/64))++[128]++List.replicate (55-r) 0,L.length/64,?_⟩⟩
     and_intros<;>first |rfl |assumption
 rintro z e C ⟨hfC,⟨rfl,q,kk,hq,hkk,hck,hjC,hC,h0,h4,h9⟩ |⟨rfl,hd⟩⟩
 rotate_left
 . simp only[RT,Q0,Q1,Q2,Q3,Q4,Q5,Q6,Q7,Q8]
   exact⟨hfC,.inr hd⟩
 simp only[RT,Q0,Q1,Q2,Q3,Q4,Q5,Q6,Q7,Q8]
 refine Aa6 (fun z e E=>∃i:Nat,z=8-i/\i<=8/\e.get 57=.int .i64 i/\e.get 0=.yield lo/\e.get 4=.int .i64 (L.length:Int)/\e.get 9=.ptr b9 0/\Fr S A E/\J kk E/\E.blk[b9]?=some ⟨bc (iR q n8 i),.var⟩)
  (fun z e E=>Is z (.exit 4)/\e.get 0=.yield lo/\e.get 9=.ptr b9 0/\Fr S A E/\J kk E/\E.blk[b9]?=some ⟨bc (q++be8 n8),.var⟩)
  ⟨_,0,rfl,by omega,rfl,h0,h4,h9,hfC,hjC,hC⟩ ?_ ?_
 . clear hC hjC hfC h0 h4 h9
   rintro z e E ⟨i,rfl,hi,h57,h0,h4,h9,hfE,hjE,hE⟩
   simp only[RT,Q0,Q1,Q2,Q3,Q4,Q5,Q6,Q7,Q8,h57]
   refine Aa8 (fun q2=>?_) (fun q2=>?_)
   rotate_left
   . have:i=8:=by omega
     subst this
     rw[Bs4]at hE
     simp only[RT,Q0,Q1,Q2,Q3,Q4,Q5,Q6,Q7,Q8]
     exact⟨rfl,h0,h9,hfE,hjE,hE⟩
   have hi:i<8:=by omega
   have w63:IntKind.i64.wrap (63-(i:Int))=((63-i:Nat):Int):=by rw[Ac6 (by omega) (by omega)];omega
   have w8:IntKind.i64.wrap (8*(i:Int))=((8*i:Nat):Int):=by rw[Ac6 (by omega) (by omega)];omega
   have wi:IntKind.i64.wrap ((i:Int)+1)=((i+1:Nat):Int):=by rw[Ac2 (by omega)]
   have sh3:bg .shl .u64 (L.length:Int) 3=some (.int .u64 (n8:Int)):=by
    show some (V.int .u64 (IntKind.u64.wrap ((L.length:Int)*2^3)))=_
    rw[Ad1];congr 2;omega
   have shr:bg .shr .u64 (n8:Int) ((8*i:Nat):Int)=some (.int .u64 ((n8/256^i:Nat):Int)):=by
    rw[A51 n8 (8*i) (by show 8*i<=64;omega),Nat.pow_mul]
   have hcl:(iR q n8 i).length=64:=Bs5 hq (by omega)
   obtain⟨G,t1,t2,t3⟩:=stB hE (j:=63-i) (by rw[hcl];omega) (UInt8.ofNat (n8/256^i))
   rw[Bg8 hq hi]at t3
   simp only[RT,Q0,Q1,Q2,Q3,Q4,Q5,Q6,Q7,Q8,h57,w63,h4,BZ7 L.length (by omega),AY7,sh3,w8,Ax9,shr,Bg9,h9,AT0 (r:=b9) (show 63-i<64 by omega),t1]
   simp only[RT,Q0,Q1,Q2,Q3,Q4,Q5,Q6,Q7,Q8,h57,wi]
   exact⟨8-(i+1),by omega,i+1,rfl,by omega,rfl,h0,kW hfE t2 hN9.1,hJ' hjE t2 hN9.1,t3⟩
 rintro z e E hz ⟨rfl,h0,h9,hfE,hjE,hE⟩
 obtain⟨bb,G,y1,y2,y3,y4⟩:=dA _ _ E _ hck hjE hfE trivial rfl
 simp only[RT,Q0,Q1,Q2,Q3,Q4,Q5,Q6,Q7,Q8,h0,h9,Ch7 hE (show(q++be8 n8).length=64 by rw[List.length_append,hq,Ai9])]
 refine⟨_,G,y1,?_⟩
 simp only[RT,Q0,Q1,Q2,Q3,Q4,Q5,Q6,Q7,Q8]
 refine⟨hfE.thn y2,?_⟩
 cases bb with
 |true =>
  have:=(y3 rfl).1
  rw[hkk]at this
  exact .inl this
 |false=>exact .inr ⟨_,(LG.1 hck).1,y4 rfl⟩
end
end Go.Sv.Tryz
namespace Go.Sv
open Go
theorem kq.qL{τ:Type}{P:Program}{H:Hints}{h:FuncId}{first cap:List V}{A0:AS}{S T T':Loc->Prop}{K:Nat->Prop}{Pre Fin:AS->Prop}{AR:AS->List V->τ->Prop}{xs:List τ}(g:kq P H h first cap A0 S T K Pre Fin AR xs)(ht:∀x,T x->T' x):kq P H h first cap A0 S T' K Pre Fin AR xs :=
 fun l J D h1 h2 h3 h4=>g l J D (fun i A A' q w=>h1 i A A' q (w.mono ht)) h2 h3 h4
theorem AT4{s:S8}{i:Nat}(h:i<32):((jA s).take i++List.replicate (32-i) 0).set i (UInt8.ofNat ((gw (s8l s) (i/4)).toNat >>> (24-8*(i%4))))=(jA s).take (i+1)++List.replicate (32-(i+1)) 0:=by
 obtain⟨k,hk⟩:∃k,32-i=k+1:=⟨32-i-1,by omega⟩
 have hl:((jA s).take i).length=i:=by rw[List.length_take,Ag3];omega
 rw[hk,show 32-(i+1)=k by omega,List.replicate_succ,List.set_append,if_neg (by omega),hl,Nat.sub_self,List.take_add_one]
 unfold jA
 rw[List.getElem?_map,List.getElem?_range h]
 simp
end Go.Sv
namespace Go.Sv.Tryz
open Go Go.Proofs
section
variable {A:AS} {r:Nat} {k:BK}
theorem AZ9{v:V}(hv:v.one=true):∃w A',EvF TP HH 105 [v] A w A'/\w=.fn 120 [] [.ptr A.blk.length 0]/\Fr S0 A A'/\A'.blk[A.blk.length]?=some ⟨[v],.var⟩:=by
 refine Aa4 rfl Tryz.func105 (by unfold Tryz.f105;rfl) Tryz.ntmps105 (by unfold Tryz.f105;rfl) (by simp) ?_
 simp only[RT,Q0,Q1,Q2,Q3,Q4,Q5,Q6,Q7,Q8,Ad5 hv]
 exact⟨Fr.my A _,Ab9 A _⟩
theorem Ch9:au TP 189 [(0,.int .u32 1779033703),(1,.int .u32 3144134277),(2,.int .u32 1013904242),(3,.int .u32 2773480762),(4,.int .u32 1359893119),(5,.int .u32 2600822924),(6,.int .u32 528734635),(7,.int .u32 1541459225)]=some (.agg (wc .u32 (s8l iN))):=by kernel_rfl
def bF:Bts:=List.replicate 32 0
theorem Av8:(aC TP 30).bind V.cells=some (bc bF):=by kernel_rfl
theorem Ci0:au TP 30 []=some (.agg (bc bF)):=by kernel_rfl
theorem Cu4{r j:Nat}(h:j<32):aj TP 30 (.ptr r 0) (.int .i64 (j:Int))=some (.ptr r j):=by
 rw[Ak1 Tryz.underlying30 sz5 h,Nat.zero_add,Nat.mul_one]
theorem ldI{l:Bts}(hb:A.blk[r]?=some ⟨bc l,k⟩)(h:l.length=32):aa TP 30 (.ptr r 0) A=some (.agg (bc l)):=At.load hb (At.all _) Av4 Ap3 (by rw[Aa7,h])
theorem AA5{l l':Bts}(hb:A.blk[r]?=some ⟨bc l,.var⟩)(h:l.length=32)(h':l'.length=32):∃A',ag TP 30 (.ptr r 0) (.agg (bc l')) A=some A'/\Fr (·=.row r) A A'/\A'.blk[r]?=some ⟨bc l',.var⟩:=by
 obtain⟨A',s1,s2,s3,s4⟩:=Ab1 (P:=TP) (t:=30) (o:=0) (x:=.agg (bc l')) (cs:=bc l') hb rfl (by rw[Aa7,h'];exact Ap3) (by rw[Aa7,Aa7];omega) (Ac9 _)
 rw[Ah3 (by rw[Aa7,Aa7];omega)]at s3
 exact⟨A',s1,s2,s3⟩
theorem BX9(l:Bts)(h:l.length=32):∃A',ag TP 30 (.ptr A.blk.length 0) (.agg (bc l)) (A.push ⟨bc bF,.var⟩)=some A'/\Fr S0 A A'/\A'.blk[A.blk.length]?=some ⟨bc l,.var⟩:=by
 obtain⟨A2,s1,s2,s3,s4⟩:=Ag5 (P:=TP) A (z:=bc bF) (t:=30) (x:=.agg (bc l)) (cs:=bc l) rfl (by rw[Aa7,h];exact Ap3) (by rw[Aa7,Aa7,h];rfl) (Ac9 _)
 exact⟨A2,s1,s2,s3⟩
theorem BZ8(n:Nat)(A:AS):cnv TP 187 5 (some (.int .u32 (n:Int))) A=some (.val (.int .u8 ((UInt8.ofNat n).toNat:Int))):=by
 rw[As0 (by decide) Tryz.underlying187 Tryz.underlying5]
 congr 3
set_option maxRecDepth 10000 in
set_option maxHeartbeats 16000000 in
theorem Ba4{m:Hp}{v:V}{ls:List Bts}(hw:WF A)(hm:m.on A)(h:Slc (eSl eU8) m v ls)(hL:ls.flatten.length<=1000000000000)(hLn:ls.length<=1000000000000):
 ∃w A',EvF TP HH 93 [v] A w A'/\Fr S0 A A'/\w=.agg (bc (sha ls.flatten)):=by
 refine Aa4 rfl Tryz.func93 (by unfold Tryz.f93;rfl) Tryz.ntmps93 (by unfold Tryz.f93;rfl) (by simp) ?_
 obtain⟨L,hLd⟩:∃L,L=ls.flatten:=⟨_,rfl⟩
 obtain⟨ch,hch⟩:∃c,c=chunks (fP L):=⟨_,rfl⟩
 obtain⟨A1,e1,f1,r1,n1⟩:=Aa3 A (bc bF)
 obtain⟨b1,hb1⟩:∃b,b=A.blk.length:=⟨_,rfl⟩
 obtain⟨A2,e2,f2,r2⟩:=Ch6 (A:=A1) (List.replicate 8 0) (s8l iN) (n:=8) (t:=189) rfl rfl BE7
 obtain⟨bs,hbs⟩:∃b,b=A1.blk.length:=⟨_,rfl⟩
 have hmA2:m.on A2:=(hm.fr0 f1).fr0 f2
 obtain⟨_,A3,k3,rfl,f3,r3⟩:=AZ9 (A:=A2) h.one
 obtain⟨bx,hbx⟩:∃b,b=A2.blk.length:=⟨_,rfl⟩
 simp only[RT,Q0,Q1,Q2,Q3,Q4,Q5,Q6,Q7,Q8,Av8,<- e1,Ch9,zcS,e2]
 refine Aa0 k3 ?_
 rw[<- hbs]at r2
 rw[<- hbx]at r3
 rw[<- hb1]at r1
 rw[<- hbs,<- hbx,<- hb1]
 have l2:=Ab3 r2
 have l1:=Ab3 r1
 have l3:=Ab3 r3
 have l23:=f3.len
 have l12:=f2.len
 have fA3:=(f1.ab f2).ab f3
 have r1':=f3.af (f2.af r1)
 have r2':=f3.af r2
 have hms:∀b,A.blk.length<=b->m b=none:=fun b hb=>hm.fresh hb
 simp only[RT,Q0,Q1,Q2,Q3,Q4,Q5,Q6,Q7,Q8]
 refine Bp0 (S:=(·=.row bs)) (T:=qG A3.blk.length) (K:=fun _=>False) (Pre:=fun _=>True) (Fin:=fun _=>True) (AR:=qH) (xs:=ch)
  (fun i B=>B.blk[bs]?=some ⟨wc .u32 (s8l ((ch.take i).foldl comp iN)),.var⟩) (fun B=>B.blk[bs]?=some ⟨wc .u32 (s8l (ch.foldl comp iN)),.var⟩)
  rfl (fun q=>by cases q) (fun q=>by obtain⟨b,q,_⟩:=q;cases q) ?_ r2' ?_ ?_ Tryz.func93 Tryz.ntmps93 (by simp) ?_ ?_ ?_
 . intro A0 hf0
   rw[hch,hLd]
   refine kq.qL (AZ8 ((hm.fr0 fA3).fr0 hf0) ?_ (hf0.af r3) h hL hLn) fun x ⟨b,q1,q2⟩=>⟨b,q1,by have:=hf0.len;omega⟩
   rintro b (q |q)
   . cases q
     have:=hf0.len
     exact⟨hms _ (by omega),by omega,by omega⟩
   . cases q
 . intro i B C q hf
   exact hf.row _ _ q (by rintro(⟨b,y1,y2⟩ |y);cases y1;omega;cases y)
 . intro B C q hf
   exact hf.row _ _ q (by intro y;cases y)
 . rintro i x B args hi hI hfB _ rfl
   refine⟨_,rfl,?_⟩
   have qM:x.length=64:=by rw[hch]at hi;exact(AK4 hi).2.2
   obtain⟨C,s1,s2,s3⟩:=Cu3 (A:=B) x qM
   simp only[RT,Q0,Q1,Q2,Q3,Q4,Q5,Q6,Q7,Q8,zcB,s1]
   refine⟨rfl,s2.mono fun _ q=>q.elim,fun B1 hB1=>?_⟩
   have hsB:=Ab3 hI
   obtain⟨w,E,t1,t2,t3⟩:=Ba2 (hB1.row _ _ (s2.af hI) (fun q=>by cases q)) (hB1.row _ _ s3 (fun q=>by cases q)) qM (by omega)
   refine Aa0 t1 ?_
   simp only[RT,Q0,Q1,Q2,Q3,Q4,Q5,Q6,Q7,Q8]
   refine⟨t2,.inl ⟨rfl,?_,fun r q=>q.elim⟩⟩
   rw[t3,Ab6 hi,List.foldl_append];rfl
 . intro B q _
   rwa[List.take_length]at q
 . intro B hE hfB
   obtain⟨s,hs⟩:∃s,s=ch.foldl comp iN:=⟨_,rfl⟩
   rw[<- hs]at hE
   obtain⟨C,e5,f5,r5,n5⟩:=Aa3 B (bc bF)
   obtain⟨b5,hb5⟩:∃b,b=B.blk.length:=⟨_,rfl⟩
   simp only[RT,Q0,Q1,Q2,Q3,Q4,Q5,Q6,Q7,Q8,Av8,<- e5]
   rw[<- hb5]at r5 ⊢
   have hEs:=f5.af hE
   have lbs:=Ab3 hE
   have hfC:Fr S0 A C:=(fA3.ar hfB (by omega)).ab f5
   have hr1C:=f5.af (hfB.row _ _ r1' (fun q=>by cases q;omega))
   have lb1:b1<B.blk.length:=Ab3 (hfB.row _ _ r1' (fun q=>by cases q;omega))
   refine Aa6 (fun z e E=>∃i:Nat,z=32-i/\i<=32/\e.get 12=.int .i64 i/\e.get 2=.ptr b1 0/\e.get 3=.ptr bs 0/\e.get 5=.ptr b5 0/\Fr (·=.row b5) C E/\E.blk[b5]?=some ⟨bc ((jA s).take i++List.replicate (32-i) 0),.var⟩)
    (fun z e E=>Is z (.exit 2)/\e.get 2=.ptr b1 0/\e.get 5=.ptr b5 0/\Fr (·=.row b5) C E/\E.blk[b5]?=some ⟨bc (jA s),.var⟩)
    ⟨_,0,rfl,by omega,rfl,rfl,rfl,rfl,.refl _ _,r5⟩ ?_ ?_
   . rintro z e E ⟨i,rfl,hi,h12,h2,h3,h5,hf,hB⟩
     simp only[RT,Q0,Q1,Q2,Q3,Q4,Q5,Q6,Q7,Q8,h12]
     refine Aa8 (fun q1=>?_) (fun q1=>?_)
     rotate_left
     . have:i=32:=by omega
       subst this
       rw[List.take_of_length_le (by rw[Ag3];exact Nat.le_refl _),Nat.sub_self,List.replicate_zero,List.append_nil]at hB
       simp only[RT,Q0,Q1,Q2,Q3,Q4,Q5,Q6,Q7,Q8]
       exact⟨rfl,h2,h5,hf,hB⟩
     have hi:i<32:=by omega
     have wi:IntKind.i64.wrap ((i:Int)+1)=((i+1:Nat):Int):=by rw[Ac2 (by omega)]
     have q4:aw TP .quo 3 (.int .i64 (i:Int)) (.int .i64 4)=some (.int .i64 ((i/4:Nat):Int)):=by
      rw[As2,if_neg (by omega),show((i:Int)).tdiv 4=((i/4:Nat):Int)from rfl,Ac6 (by omega) (by omega)]
     have r4:aw TP .rem 3 (.int .i64 (i:Int)) (.int .i64 4)=some (.int .i64 ((i%4:Nat):Int)):=by
      rw[Al8,if_neg (by omega)];rfl
     have w8:IntKind.i64.wrap (8*((i%4:Nat):Int))=((8*(i%4):Nat):Int):=by rw[Ac6 (by omega) (by omega)];omega
     have w24:IntKind.i64.wrap (24-((8*(i%4):Nat):Int))=((24-8*(i%4):Nat):Int):=by rw[Ac6 (by omega) (by omega)];omega
     have lS:=ldW (hf.row _ _ hEs (fun q=>by cases q;omega)) (j:=i/4) (show i/4<8 by omega)
     obtain⟨G,t1,t2,t3⟩:=stB hB (j:=i) (by rw[List.length_append,List.length_take,Ag3,List.length_replicate];omega) (UInt8.ofNat ((gw (s8l s) (i/4)).toNat >>> (24-8*(i%4))))
     rw[AT4 hi]at t3
     have t1':ag TP 5 (.ptr b5 i) (.int .u8 ((UInt8.ofNat ((gw (s8l s) (i/4) >>> (24-8*(i%4))).toNat)).toNat:Int)) E=some G:=by rw[BitVec.toNat_ushiftRight];exact t1
     simp only[RT,Q0,Q1,Q2,Q3,Q4,Q5,Q6,Q7,Q8,h12,q4,r4,w8,w24,h3,ax8 (r:=bs) (show i/4<8 by omega),lS,Ax9,Bs3 _ (n:=24-8*(i%4)) (by omega),BZ8,h5,Cu4 (r:=b5) hi,t1']
     simp only[RT,Q0,Q1,Q2,Q3,Q4,Q5,Q6,Q7,Q8,h12,wi]
     refine⟨32-(i+1),by omega,i+1,rfl,by omega,rfl,h2,hf.trans t2 fun x q=>.inl q,t3⟩
   rintro z e E hz ⟨rfl,h2,h5,hf,hB⟩
   have hr1E:=hf.row _ _ hr1C (fun q=>by cases q;omega)
   obtain⟨G,t1,t2,t3⟩:=AA5 hr1E (by simp[bF]) (Ag3 s)
   simp only[RT,Q0,Q1,Q2,Q3,Q4,Q5,Q6,Q7,Q8,h5,ldI hB (Ag3 s),h2,t1,ldI t3 (Ag3 s)]
   refine⟨(hfC.ar hf (by omega)).ar t2 (by omega),?_⟩
   rw[hs,hch,hLd];rfl
end
end Go.Sv.Tryz
namespace Go.Sv
theorem iO{α:Type}{f:α->Bool}{l:List α}{j:Nat}{p:α}(h:∀q∈l.take j,f q=false)(hp:l[j]?=some p)(hf:f p=true):l.find? f=some p:=by
 have e:l=l.take j++p::l.drop (j+1):=by
  obtain⟨hj,rfl⟩:=LG.1 hp
  rw[<- List.drop_eq_getElem_cons hj,List.take_append_drop]
 rw[e,List.find?_append]
 have:(l.take j).find? f=none:=List.find?_eq_none.2 fun q hq=>by rw[h q hq];simp
 rw[this]
 simp[hf]
theorem iS{α:Type}{f:α->Bool}{l:List α}(h:∀q∈l,f q=false):l.find? f=none:=List.find?_eq_none.2 fun q hq=>by rw[h q hq];simp
end Go.Sv
namespace Go.Sv.Tryz
open Go Go.Proofs
section
variable {m:Hp} {A B:AS} {l:List RV} {v:V} {n:Nat}
theorem AT5{r k:Int}{id:Bts}(hm:m.on A)(h:Slc eRV m v l)(hl:l.length<=1000000)(hid:id.length=32):∃w A',EvF TP HH 110 [v,.int .i64 r,.int .i64 k,.agg (bc id)] A w A'/\Fr S0 A A'/\w=.int .i64 (eY l r k id):=by
 refine Aa4 rfl Tryz.func110 (by unfold Tryz.f110;rfl) Tryz.ntmps110 (by unfold Tryz.f110;rfl) (by simp) ?_
 have hln:=fun B=>h.len (P:=TP) Tryz.underlying33 B
 obtain⟨A1,e1,f1,r1,n1⟩:=Aa3 A (bc id)
 obtain⟨b7,hb7⟩:∃b,b=A.blk.length:=⟨_,rfl⟩
 rw[<- hb7]at r1
 simp only[RT,Q0,Q1,Q2,Q3,Q4,Q5,Q6,Q7,Q8,<- hb7,<- e1]
 refine Aa6 (fun z e B=>∃(j:Nat),z=l.length-j/\j<=l.length/\e.get 10=.int .i64 j/\e.get 9=.int .i64 (eY (l.take j) r k id)/\e.get 0=v/\e.get 1=.int .i64 r/\e.get 2=.int .i64 k/\e.get 7=.ptr b7 0/\Is B A1)
  (fun z e B=>Is z (.exit 0)/\e.get 9=.int .i64 (eY l r k id)/\Is B A1)
  ⟨_,0,rfl,by omega,rfl,rfl,rfl,rfl,rfl,rfl,rfl⟩ ?_ ?_
 rotate_left
 . rintro z e B hz ⟨rfl,h9,rfl⟩
   simp only[RT,Q0,Q1,Q2,Q3,Q4,Q5,Q6,Q7,Q8,h9]
   exact f1
 rintro z e B ⟨j,rfl,hj,h10,h9,h0,h1,h2,h7,rfl⟩
 simp only[RT,Q0,Q1,Q2,Q3,Q4,Q5,Q6,Q7,Q8,h10,h0,hln]
 refine Aa8 (fun q1=>?_) (fun q1=>?_)
 rotate_left
 . have:j=l.length:=by omega
   subst this
   rw[List.take_length]at h9
   simp only[RT,Q0,Q1,Q2,Q3,Q4,Q5,Q6,Q7,Q8]
   exact⟨rfl,h9,rfl⟩
 obtain⟨p,hp⟩:=Ac7 (l:=l) (i:=j) (by omega)
 obtain⟨b,o,g1,g2,g3⟩:=BI3 (hm.fr0 f1) h hp
 have fa:=BX7 b o
 have ld:=BX8 g2 g3
 have ldi:aa TP 30 (.ptr b7 0) B=some (.agg (bc id)):=At.load r1 (.all _) Av4 Ap3 (by rw[Aa7,hid])
 have eq:=eqZ g3 hid
 have hwi:IntKind.i64.wrap ((j:Int)+1)=((j+1:Nat):Int):=by rw[Ac2 (by omega)]
 have hle:eY (l.take j) r k id<=j:=Nat.le_trans List.countP_le_length (by rw[List.length_take];omega)
 have hwa:IntKind.i64.wrap ((eY (l.take j) r k id:Int)+1)=((eY (l.take j) r k id+1:Nat):Int):=by rw[Ac2 (by omega)]
 have en:eY (l.take (j+1)) r k id=eY (l.take j) r k id+(if p.1=r/\p.2.1=k/\p.2.2.2=id then 1 else 0):=by
  unfold eY
  rw[Ab6 hp,List.countP_append,List.countP_singleton]
  simp only[decide_eq_true_eq]
 simp only[RT,Q0,Q1,Q2,Q3,Q4,Q5,Q6,Q7,Q8]
 rw[BD6,Aa2 (by rfl)]
 by_cases c1:p.1=r
 rotate_left
 . simp only[RT,Q0,Q1,Q2,Q3,Q4,Q5,Q6,Q7,Q8,h10,h0,h1,h2,h7,g1,fa,ld,DF c1,hwi]
   refine⟨l.length-(j+1),by omega,j+1,rfl,by omega,rfl,?_⟩
   rw[en,if_neg (fun z=>c1 z.1),Nat.add_zero]
   first |exact h9 |exact⟨h9,rfl⟩ | (and_intros<;>first |assumption |rfl)
 by_cases c2:p.2.1=k
 rotate_left
 . simp only[RT,Q0,Q1,Q2,Q3,Q4,Q5,Q6,Q7,Q8,h10,h0,h1,h2,h7,g1,fa,ld,DT c1,DF c2,hwi]
   refine⟨l.length-(j+1),by omega,j+1,rfl,by omega,rfl,?_⟩
   rw[en,if_neg (fun z=>c2 z.2.1),Nat.add_zero]
   first |exact h9 |exact⟨h9,rfl⟩ | (and_intros<;>first |assumption |rfl)
 by_cases c3:p.2.2.2=id
 . simp only[RT,Q0,Q1,Q2,Q3,Q4,Q5,Q6,Q7,Q8,h10,h0,h1,h2,h7,g1,fa,ld,ldi,eq,DT c1,DT c2,DT c3,h9,hwa,hwi]
   refine⟨l.length-(j+1),by omega,j+1,rfl,by omega,rfl,?_⟩
   rw[en,if_pos ⟨c1,c2,c3⟩]
   first |done |rfl |exact⟨rfl,rfl⟩ | (and_intros<;>first |assumption |rfl)
 . simp only[RT,Q0,Q1,Q2,Q3,Q4,Q5,Q6,Q7,Q8,h10,h0,h1,h2,h7,g1,fa,ld,ldi,eq,DT c1,DT c2,DF c3,hwi]
   refine⟨l.length-(j+1),by omega,j+1,rfl,by omega,rfl,?_⟩
   rw[en,if_neg (fun z=>c3 z.2.2),Nat.add_zero]
   first |exact h9 |exact⟨h9,rfl⟩ | (and_intros<;>first |assumption |rfl)
set_option maxHeartbeats 4000000 in
theorem Aq8{r k w0:Int}(hm:m.on A)(h:Slc eRV m v l)(hl:l.length<=1000000):∃w A',EvF TP HH 43 [v,.int .i64 r,.int .i64 k,.int .i64 w0] A w A'/\Fr S0 A A'/\w=.agg (bc (gf l r k w0)):=by
 refine Aa4 rfl Tryz.func43 (by unfold Tryz.f43;rfl) Tryz.ntmps43 (by unfold Tryz.f43;rfl) (by simp) ?_
 have hln:=fun B=>h.len (P:=TP) Tryz.underlying33 B
 obtain⟨A1,e1,f1,r1,n1⟩:=Aa3 A (bc bF)
 obtain⟨b8,hb8⟩:∃b,b=A.blk.length:=⟨_,rfl⟩
 rw[<- hb8]at r1
 simp only[RT,Q0,Q1,Q2,Q3,Q4,Q5,Q6,Q7,Q8,Av8,<- hb8,<- e1]
 refine Aa6 (fun z e B=>∃(j:Nat),z=l.length-j/\j<=l.length/\e.get 9=.int .i64 j/\(∀q∈l.take j,(fun p:RV=>decide (p.1=r/\p.2.1=k/\p.2.2.1=w0)) q=false)/\e.get 0=v/\e.get 1=.int .i64 r/\e.get 2=.int .i64 k/\e.get 3=.int .i64 w0/\e.get 8=.ptr b8 0/\Is B A1)
  (fun z e B=>(Is z (.exit 0)/\e.get 8=.ptr b8 0/\Is B A1/\gf l r k w0=z32)∨(Is z .ret/\e.get 8=.ptr b8 0/\Fr S0 A B/\B.blk[b8]?=some ⟨bc (gf l r k w0),.var⟩/\(gf l r k w0).length=32))
  ⟨_,0,rfl,by omega,rfl,by simp,rfl,rfl,rfl,rfl,rfl,rfl⟩ ?_ ?_
 rotate_left
 . rintro z e B hz (⟨rfl,h8,rfl,hg⟩ |⟨rfl,h8,hf,hb,hlen⟩)
   . obtain⟨A4,u1,u2,u3⟩:=AA5 r1 (by simp[bF]) Aa9
     simp only[RT,Q0,Q1,Q2,Q3,Q4,Q5,Q6,Q7,Q8,h8,Ad8,u1,ldI u3 Aa9]
     rw[hg]
     exact⟨f1.ar u2 (by omega),rfl⟩
   . simp only[RT,Q0,Q1,Q2,Q3,Q4,Q5,Q6,Q7,Q8,h8,ldI hb hlen]
     exact hf
 rintro z e B ⟨j,rfl,hj,h9,hno,h0,h1,h2,h3,h8,rfl⟩
 simp only[RT,Q0,Q1,Q2,Q3,Q4,Q5,Q6,Q7,Q8,h9,h0,hln]
 refine Aa8 (fun q1=>?_) (fun q1=>?_)
 rotate_left
 . have:j=l.length:=by omega
   subst this
   rw[List.take_length]at hno
   simp only[RT,Q0,Q1,Q2,Q3,Q4,Q5,Q6,Q7,Q8]
   refine .inl ⟨rfl,h8,rfl,?_⟩
   unfold gf;rw[iS hno]
 obtain⟨p,hp⟩:=Ac7 (l:=l) (i:=j) (by omega)
 obtain⟨b,o,g1,g2,g3⟩:=BI3 (hm.fr0 f1) h hp
 have fa:=BX7 b o
 have ld:=BX8 g2 g3
 have hwi:IntKind.i64.wrap ((j:Int)+1)=((j+1:Nat):Int):=by rw[Ac2 (by omega)]
 have hn':¬(p.1=r/\p.2.1=k/\p.2.2.1=w0)->∀q∈l.take (j+1),(fun p:RV=>decide (p.1=r/\p.2.1=k/\p.2.2.1=w0)) q=false:=fun hne q hq=>by
  rw[Ab6 hp]at hq
  rcases List.mem_append.1 hq with hq |hq
  . exact hno q hq
  . rw[List.mem_singleton.1 hq];exact DF hne
 by_cases c1:p.1=r
 rotate_left
 . simp only[RT,Q0,Q1,Q2,Q3,Q4,Q5,Q6,Q7,Q8,h9,h0,h1,h2,h3,g1,fa,ld,DF c1,hwi]
   refine⟨l.length-(j+1),by omega,j+1,rfl,by omega,rfl,hn' fun z=>c1 z.1,?_⟩
   first |exact h8 |exact⟨h8,rfl⟩ | (and_intros<;>first |exact Is.da _ |assumption)
 by_cases c2:p.2.1=k
 rotate_left
 . simp only[RT,Q0,Q1,Q2,Q3,Q4,Q5,Q6,Q7,Q8,h9,h0,h1,h2,h3,g1,fa,ld,DT c1,DF c2,hwi]
   refine⟨l.length-(j+1),by omega,j+1,rfl,by omega,rfl,hn' fun z=>c2 z.2.1,?_⟩
   first |exact h8 |exact⟨h8,rfl⟩ | (and_intros<;>first |exact Is.da _ |assumption)
 by_cases c3:p.2.2.1=w0
 rotate_left
 . simp only[RT,Q0,Q1,Q2,Q3,Q4,Q5,Q6,Q7,Q8,h9,h0,h1,h2,h3,g1,fa,ld,DT c1,DT c2,DF c3,hwi]
   refine⟨l.length-(j+1),by omega,j+1,rfl,by omega,rfl,hn' fun z=>c3 z.2.2,?_⟩
   first |exact h8 |exact⟨h8,rfl⟩ | (and_intros<;>first |exact Is.da _ |assumption)
 have hg:gf l r k w0=p.2.2.2:=by unfold gf;rw[iO hno hp (DT ⟨c1,c2,c3⟩)]
 obtain⟨A4,u1,u2,u3⟩:=AA5 r1 (by simp[bF]) g3
 simp only[RT,Q0,Q1,Q2,Q3,Q4,Q5,Q6,Q7,Q8,h9,h0,h1,h2,h3,g1,fa,ld,DT c1,DT c2,DT c3,h8,u1]
 refine .inr ⟨rfl,?_⟩
 rw[hg]
 first |exact⟨f1.ar u2 (by omega),u3,g3⟩ |exact⟨h8,f1.ar u2 (by omega),u3,g3⟩
end
end Go.Sv.Tryz
namespace Go.Sv.Tryz
open Go Go.Proofs
section
variable {m:Hp} {A B:AS} {l:List RV} {v:V} {n:Nat} {V0:Vt}
theorem A00(A:AS){r k w0:Int}:∃w A',EvF TP HH 100 [.int .i64 (n:Int),.int .i64 r,.int .i64 k,.int .i64 w0] A w A'/\A'=A/\w=.bool (decide (right n r k w0)):=by
 refine Aa4 rfl Tryz.func100 (by unfold Tryz.f100;rfl) Tryz.ntmps100 (by unfold Tryz.f100;rfl) (by simp) ?_
 by_cases c1:r>=0
 rotate_left
 . simp only[RT,Q0,Q1,Q2,Q3,Q4,Q5,Q6,Q7,Q8,DF c1]
   rw[DF (show ¬right n r k w0 from fun z=>c1 z.1)]
 by_cases c2:r<12
 rotate_left
 . simp only[RT,Q0,Q1,Q2,Q3,Q4,Q5,Q6,Q7,Q8,DT c1,DF c2]
   rw[DF (show ¬right n r k w0 from fun z=>c2 z.2.1)]
 by_cases c3:k>=0
 rotate_left
 . simp only[RT,Q0,Q1,Q2,Q3,Q4,Q5,Q6,Q7,Q8,DT c1,DT c2,DF c3]
   rw[DF (show ¬right n r k w0 from fun z=>by have:=z.2.2.1;omega)]
 by_cases c4:k<2
 rotate_left
 . simp only[RT,Q0,Q1,Q2,Q3,Q4,Q5,Q6,Q7,Q8,DT c1,DT c2,DT c3,DF c4]
   rw[DF (show ¬right n r k w0 from fun z=>by have:=z.2.2.1;omega)]
 by_cases c5:w0>=0
 rotate_left
 . simp only[RT,Q0,Q1,Q2,Q3,Q4,Q5,Q6,Q7,Q8,DT c1,DT c2,DT c3,DT c4,DF c5]
   rw[DF (show ¬right n r k w0 from fun z=>c5 z.2.2.2.1)]
 by_cases c6:w0<(n:Int)
 rotate_left
 . simp only[RT,Q0,Q1,Q2,Q3,Q4,Q5,Q6,Q7,Q8,DT c1,DT c2,DT c3,DT c4,DT c5,DF c6]
   rw[DF (show ¬right n r k w0 from fun z=>c6 z.2.2.2.2)]
 simp only[RT,Q0,Q1,Q2,Q3,Q4,Q5,Q6,Q7,Q8,DT c1,DT c2,DT c3,DT c4,DT c5,DT c6]
 rw[DT (show right n r k w0 from⟨c1,c2,by omega,c5,c6⟩)]
set_option maxHeartbeats 4000000 in
theorem Ba5{r k:Int}(hn:okN n)(hm:m.on A)(h:Slc eRV m v l)(hl:l.length<=1000000)(hV:VL n V0 l):
 ∃w A',EvF TP HH 122 [.int .i64 (n:Int),v,.int .i64 r,.int .i64 k] A w A'/\Fr S0 A A'/\w=.tup [.agg (bc ((dz n V0 r k).getD z32)),.bool (dz n V0 r k).isSome]:=by
 refine Aa4 rfl Tryz.func122 (by unfold Tryz.f122;rfl) Tryz.ntmps122 (by unfold Tryz.f122;rfl) (by simp) ?_
 have hln:=fun B=>h.len (P:=TP) Tryz.underlying33 B
 have hfl:fT (n:Int)=dc n:=AD4 hn
 have hn7:n<=7:=by unfold okN at hn;omega
 have kR:2*(dc n:Int)+1=(bu n:Int):=by unfold bu dc;omega
 have qN:dc n<=2:=by unfold dc;omega
 obtain⟨A1,e1,f1,r1,n1⟩:=Aa3 A (bc bF)
 obtain⟨b8,hb8⟩:∃b,b=A.blk.length:=⟨_,rfl⟩
 rw[<- hb8]at r1
 rw[<- hV.sure hn]
 simp only[RT,Q0,Q1,Q2,Q3,Q4,Q5,Q6,Q7,Q8,Av8,<- hb8,<- e1]
 refine Aa6 (fun z e B=>∃(j:Nat),z=l.length-j/\j<=l.length/\e.get 10=.int .i64 j/\(∀q∈l.take j,(fun p:RV=>decide (p.1=r/\p.2.1=k/\bu n<=eY l r k p.2.2.2)) q=false)/\Fr S0 A1 B/\e.get 0=.int .i64 n/\e.get 1=v/\e.get 2=.int .i64 r/\e.get 3=.int .i64 k/\e.get 8=.ptr b8 0)
  (fun z e B=>(Is z (.exit 0)/\e.get 8=.ptr b8 0/\Fr S0 A1 B/\iQ n l r k=none)∨(Is z .ret/\e.get 8=.ptr b8 0/\e.get 9=.bool true/\Fr S0 A B/\∃id,iQ n l r k=some id/\B.blk[b8]?=some ⟨bc id,.var⟩/\id.length=32))
  ⟨_,0,rfl,by omega,rfl,by simp,.refl _ _,rfl,rfl,rfl,rfl,rfl⟩ ?_ ?_
 rotate_left
 . rintro z e B hz (⟨rfl,h8,hf,hg⟩ |⟨rfl,h8,h9,hf,id,hg,hb,hlen⟩)
   . obtain⟨A4,u1,u2,u3⟩:=AA5 (hf.af r1) (by simp[bF]) Aa9
     simp only[RT,Q0,Q1,Q2,Q3,Q4,Q5,Q6,Q7,Q8,h8,Ad8,u1,ldI u3 Aa9]
     rw[hg]
     exact⟨(f1.ab hf).ar u2 (by omega),rfl⟩
   . simp only[RT,Q0,Q1,Q2,Q3,Q4,Q5,Q6,Q7,Q8,h8,h9,ldI hb hlen]
     rw[hg]
     exact⟨hf,rfl⟩
 rintro z e B ⟨j,rfl,hj,h10,hno,hf,h0,h1,h2,h3,h8⟩
 simp only[RT,Q0,Q1,Q2,Q3,Q4,Q5,Q6,Q7,Q8,h10,h1,hln]
 refine Aa8 (fun q1=>?_) (fun q1=>?_)
 rotate_left
 . have:j=l.length:=by omega
   subst this
   rw[List.take_length]at hno
   simp only[RT,Q0,Q1,Q2,Q3,Q4,Q5,Q6,Q7,Q8]
   refine .inl ⟨rfl,h8,hf,?_⟩
   unfold iQ;rw[iS hno];rfl
 obtain⟨p,hp⟩:=Ac7 (l:=l) (i:=j) (by omega)
 have hmB:=hm.fr0 (f1.ab hf)
 obtain⟨b,o,g1,g2,g3⟩:=BI3 hmB h hp
 have fa:=BX7 b o
 have ld:=BX8 g2 g3
 have hwi:IntKind.i64.wrap ((j:Int)+1)=((j+1:Nat):Int):=by rw[Ac2 (by omega)]
 have hn':¬(p.1=r/\p.2.1=k/\bu n<=eY l r k p.2.2.2)->∀q∈l.take (j+1),(fun p:RV=>decide (p.1=r/\p.2.1=k/\bu n<=eY l r k p.2.2.2)) q=false:=fun hne q hq=>by
  rw[Ab6 hp]at hq
  rcases List.mem_append.1 hq with hq |hq
  . exact hno q hq
  . rw[List.mem_singleton.1 hq];exact DF hne
 by_cases c1:p.1=r
 rotate_left
 . simp only[RT,Q0,Q1,Q2,Q3,Q4,Q5,Q6,Q7,Q8,h10,h0,h1,h2,h3,g1,fa,ld,DF c1,hwi]
   refine⟨l.length-(j+1),by omega,j+1,rfl,by omega,rfl,hn' fun z=>c1 z.1,hf,?_⟩
   first |exact h8 | (and_intros<;>assumption)
 by_cases c2:p.2.1=k
 rotate_left
 . simp only[RT,Q0,Q1,Q2,Q3,Q4,Q5,Q6,Q7,Q8,h10,h0,h1,h2,h3,g1,fa,ld,DT c1,DF c2,hwi]
   refine⟨l.length-(j+1),by omega,j+1,rfl,by omega,rfl,hn' fun z=>c2 z.2.1,hf,?_⟩
   first |exact h8 | (and_intros<;>assumption)
 obtain⟨_,C,k1,f2,rfl⟩:=AT5 (r:=r) (k:=k) hmB h hl g3
 obtain⟨_,D,k2,hD,rfl⟩:=Al9 C (n:=(n:Int))
 rw[hD]at k2
 have ew1:IntKind.i64.wrap (2*(dc n:Int))=2*(dc n:Int):=by rw[Ac6 (by omega) (by omega)]
 have ew2:IntKind.i64.wrap (2*(dc n:Int)+1)=(bu n:Int):=by rw[Ac6 (by omega) (by omega),kR]
 have hfC:=hf.ab f2
 have rC:=hfC.af r1
 simp only[RT,Q0,Q1,Q2,Q3,Q4,Q5,Q6,Q7,Q8,h10,h0,h1,h2,h3,g1,fa,ld,DT c1,DT c2]
 refine Aa0 k1 ?_
 simp only[RT,Q0,Q1,Q2,Q3,Q4,Q5,Q6,Q7,Q8,h0]
 refine Aa0 k2 ?_
 by_cases c3:bu n<=eY l r k p.2.2.2
 rotate_left
 . simp only[RT,Q0,Q1,Q2,Q3,Q4,Q5,Q6,Q7,Q8,hfl,ew1,ew2,DF (show ¬(eY l r k p.2.2.2:Int)>=(bu n:Int) by omega),h10,hwi]
   refine⟨l.length-(j+1),by omega,j+1,rfl,by omega,rfl,hn' fun z=>c3 z.2.2,hfC,?_⟩
   exact⟨h0,h1,h2,h3,h8⟩
 have hg:iQ n l r k=some p.2.2.2:=by unfold iQ;rw[iO hno hp (DT ⟨c1,c2,c3⟩)];rfl
 obtain⟨b',o',g1',g2',g3'⟩:=BI3 (hmB.fr0 f2) h hp
 have fa':=BX7 b' o'
 have ld':=BX8 g2' g3'
 obtain⟨A4,u1,u2,u3⟩:=AA5 rC (by simp[bF]) g3
 simp only[RT,Q0,Q1,Q2,Q3,Q4,Q5,Q6,Q7,Q8,hfl,ew1,ew2,DT (show(eY l r k p.2.2.2:Int)>=(bu n:Int) by omega),h1,h10,g1',fa',ld',h8,u1]
 refine .inr ⟨rfl,?_⟩
 rw[hg]
 first |exact⟨(f1.ab hfC).ar u2 (by omega),_,rfl,u3,g3⟩ |exact⟨h8,(f1.ab hfC).ar u2 (by omega),_,rfl,u3,g3⟩ |exact⟨h8,rfl,(f1.ab hfC).ar u2 (by omega),_,rfl,u3,g3⟩
end
end Go.Sv.Tryz
namespace Go.Sv
open Go
def Flat{τ:Type}(E:Enc τ):Prop:=∀m m' cs x,E.R m cs x->E.R m' cs x
theorem aL.flat{τ:Type}{E:Enc τ}{m m':Hp}{cs:List V}{l:List τ}(hf:Flat E)(h:aL E m cs l):aL E m' cs l:=⟨h.1,fun i x hx=>hf _ _ _ _ (h.2 i x hx)⟩
def eM{τ:Type}(E:Enc τ)(N:Nat)(A:AS)(v:V)(l:List τ):Prop:=∃fo,Lst E Hp.emp A v l fo/\∀f,fo=some f->N<=f
section
variable {τ:Type} {E:Enc τ} {N N':Nat} {A B:AS} {v:V} {l:List τ}
theorem eM.slc{X:Nat->Prop}(h:eM E N A v l)(hX:∀f,X f->f<N):Slc E (qHp X A) v l:=by
 obtain⟨fo,h1,h2⟩:=h
 exact h1.mO (fun b cs q=>by cases q) fun f q w=>by have:=hX f w;have:=h2 f q;omega
theorem eM.row{b:Nat}{cs:List V}(h:eM E N A v l)(hb:A.blk[b]?=some ⟨cs,.var⟩)(hf:Fr (·=.row b) A B):eM E N B v l:=by
 obtain⟨fo,h1,h2⟩:=h
 exact⟨fo,h1.fr hf (.box hb),h2⟩
theorem eM.one(h:eM E N A v l):v.one=true:=h.choose_spec.1.one
end
theorem Aq9{m:Hp}{τ:Type}{E:Enc τ}{P:Program}{t e:TypeId}{bt n:Nat}{A:AS}{v:V}{l:List τ}{y:τ}{cs':List V}(hn:E.sz=n)(hf:Flat E)(hT:SlT P t e n bt)(hw:WF A)(hm:m.on A)(h:Slc E m v l)(hy:E.R Hp.emp cs' y)(hb:(l.length+1)*bt<=140737488355328)(hb2:l.length+1<=4611686018427387903):
 ∃v1 A1 v2 A2,aR P t t (.sl A.blk.length 0 0 n) v (A.push ⟨[],.arr A.blk.length 0⟩)=some (v1,A1)/\aR P t t v1 (.sl A1.blk.length 0 1 n) (A1.push ⟨cs',.arr A1.blk.length 0⟩)=some (v2,A2)/\Fr S0 A A1/\Fr S0 A A2/\eM E A.blk.length A2 v2 (l++[y]):=by
 subst hn
 obtain⟨B,eB⟩:∃B,B=A.push ⟨[],.arr A.blk.length 0⟩:=⟨_,rfl⟩
 have f4:Fr S0 A B:=by rw[eB];exact Fr.aF A _
 have wB:=f4.wf hw
 have L0:Lst E Hp.emp B (.sl A.blk.length 0 0 E.sz) [] (some A.blk.length):=by rw[eB];exact Lst.empty hw
 obtain⟨cs,q1,q2⟩:=Slc.src (P:=P) (tx:=t) hT.u h (hm.fr0 f4)
 have hb0:l.length*bt<=(l.length+1)*bt:=Nat.mul_le_mul_right _ (by omega)
 obtain⟨v1,A1,fo,p1,p2,p3,p4⟩:=L0.app (P:=P) (t:=t) (tx:=t) (e:=e) hT wB q1 (q2.flat hf) (by rw[List.length_nil,Nat.zero_add];omega) (by rw[List.length_nil];omega)
 have f1:Fr S0 A A1:=f4.eh hw p3 fun f q=>by cases q;exact Nat.le_refl _
 have w1:=f1.wf hw
 rw[List.nil_append]at p2
 obtain⟨v2,A2,fo2,z1,z2,z3,z4⟩:=p2.push (P:=P) (t:=t) (tx:=t) (n:=E.sz) rfl hT hT.u w1 (y:=y) (cs':=cs') hy hb hb2
 have f2:Fr S0 A A2:=f1.eh hw z3 fun f q=>by
  rcases p4.or q with w |w
  . cases w;exact Nat.le_refl _
  . have:=f4.len;omega
 have hfo:∀f,fo=some f->A.blk.length<=f:=fun f q=>by
  rcases p4.or q with w |w
  . cases w;exact Nat.le_refl _
  . have:=f4.len;omega
 have jM:∀f,fo2=some f->A.blk.length<=f:=fun f q=>by
  rcases z4.or q with y |y
  . exact hfo f y
  . have:=f1.len;omega
 rw[<- eB]
 exact⟨v1,A1,v2,A2,p1,z1,f1,f2,fo2,z2,jM⟩
end Go.Sv
namespace Go.Sv.Tryz
open Go Go.Proofs
section
variable {m:Hp} {A B:AS} {l:List RV} {v:V} {n:Nat} {V0:Vt}
theorem Av9(hf:Fr S0 A B):(dq A).le (dq B):=Bz8 hf fun _ q=>q.elim
theorem BZ9:bsl TP 33 0 (some [])=some (.aB [] 0 35):=by kernel_rfl
theorem Ci1{p:RV}(h:p.2.2.2.length=32):bsl TP 33 1 (some [(0,.agg (rvC p))])=some (.aB (rvC p) 1 35):=Av2 Tryz.underlying33 Br1 Ce8 rfl (AZ4 h) (by decide)
theorem B00{b:Nat}{kk:BK}{p:RV}(h:A.blk[b]?=some ⟨rvC p,kk⟩)(hp:p.2.2.2.length=32):jh A b 0 (rvC p)/\aa TP 155 (.ptr b 0) A=some (.agg (rvC p)):=
 ⟨⟨_,h,.all _⟩,At.load h (.all _) BX1 Br1 (AZ4 hp)⟩
theorem B01:Flat eRV:=fun _ _ _ _ h=>h
theorem Aw0(hm:m.on A)(h:Slc eRV m v l)(r k w0:Int):(gf l r k w0).length=32:=by
 unfold gf
 cases hf:l.find? (fun p=>decide (p.1=r/\p.2.1=k/\p.2.2.1=w0))with
 |none=>rfl
 |some p =>
  obtain⟨j,hj⟩:=List.mem_iff_getElem?.1 (List.mem_of_find?_eq_some hf)
  exact(BI3 hm h hj).choose_spec.choose_spec.2.2
set_option maxHeartbeats 8000000 in
theorem Bh0{r k w0:Int}{id:Bts}(hw:WF A)(hm:m.on A)(h:Slc eRV m v l)(hl:l.length<=100000)(hV:VL n V0 l)(hid:id.length=32):
 ∃u A',EvF TP HH 80 [.int .i64 (n:Int),v,.agg (rvC (r,k,w0,id))] A u A'/\Fr S0 A A'/\∃v' l',u=.tup [v',.int .i64 (cT n V0 r k w0 id)]/\VL n (dG n V0 r k w0 id) l'/\(¬cT n V0 r k w0 id=0/\v'=v/\l'=l∨cT n V0 r k w0 id=0/\l'=l++[(r,k,w0,id)]/\eM eRV A.blk.length A' v' l'):=by
 refine Aa4 rfl Tryz.func80 (by unfold Tryz.f80;rfl) Tryz.ntmps80 (by unfold Tryz.f80;rfl) (by simp) ?_
 have hlm:l.length<=1000000:=by omega
 obtain⟨A1,e1,f1,r1,n1⟩:=Aa3 A (rvC (r,k,w0,id))
 obtain⟨b5,hb5⟩:∃b,b=A.blk.length:=⟨_,rfl⟩
 rw[<- hb5]at r1
 have w1:=f1.wf hw
 have fa:=BX7 b5 0
 obtain⟨hr1,lw1⟩:=B00 r1 hid
 have ld1:=BX8 hr1 hid
 obtain⟨_,A2,k2,hA2,rfl⟩:=A00 (n:=n) (r:=r) (k:=k) (w0:=w0) A1
 rw[hA2]at k2
 have hV1:cT n V0 r k w0 id≠0->VL n (dG n V0 r k w0 id) l:=fun q=>by unfold dG;rw[if_neg q];exact hV
 have hm1:=hm.fr0 f1
 simp only[Nat.zero_add]at fa ld1
 simp only[RT,Q0,Q1,Q2,Q3,Q4,Q5,Q6,Q7,Q8,<- hb5,<- e1,fa,ld1]
 refine Aa0 k2 ?_
 by_cases c1:right n r k w0
 rotate_left
 . simp only[RT,Q0,Q1,Q2,Q3,Q4,Q5,Q6,Q7,Q8,Af4,DF c1]
   have e:cT n V0 r k w0 id=1:=by unfold cT;rw[if_pos (.inl c1)]
   rw[e]at hV1 ⊢
   exact⟨f1,v,l,rfl,hV1 (by omega),.inl ⟨by omega,rfl,rfl⟩⟩
 by_cases c2:id=z32
 . simp only[RT,Q0,Q1,Q2,Q3,Q4,Q5,Q6,Q7,Q8,Af4,DT c1,fa,ld1,Ad8,eqZ hid Aa9,DT c2]
   have e:cT n V0 r k w0 id=1:=by unfold cT;rw[if_pos (.inr c2)]
   rw[e]at hV1 ⊢
   exact⟨f1,v,l,rfl,hV1 (by omega),.inl ⟨by omega,rfl,rfl⟩⟩
 obtain⟨_,A3,k3,f3,rfl⟩:=Aq8 (r:=r) (k:=k) (w0:=w0) hm1 h hlm
 have hgl:(gf l r k w0).length=32:=Aw0 hm1 h r k w0
 simp only[RT,Q0,Q1,Q2,Q3,Q4,Q5,Q6,Q7,Q8,Af4,DT c1,ld1,Ad8,eqZ hid Aa9,DF c2,fa]
 refine Aa0 k3 ?_
 by_cases c3:gf l r k w0=z32
 rotate_left
 . simp only[RT,Q0,Q1,Q2,Q3,Q4,Q5,Q6,Q7,Q8,Ad8,eqZ hgl Aa9,DF c3]
   have e:cT n V0 r k w0 id=5:=by
    unfold cT
    rw[if_neg (by rintro(z |z);exact z c1;exact c2 z),if_pos]
    have:=hV.get r k w0
    unfold dN at this;rw[if_pos c1]at this
    rw[<- this];exact c3
   rw[e]at hV1 ⊢
   exact⟨f1.ab f3,v,l,rfl,hV1 (by omega),.inl ⟨by omega,rfl,rfl⟩⟩
 have hc0:cT n V0 r k w0 id=0:=by
  unfold cT
  rw[if_neg (by rintro(z |z);exact z c1;exact c2 z),if_neg]
  have:=hV.get r k w0
  unfold dN at this;rw[if_pos c1]at this
  rw[<- this];exact fun z=>z c3
 have w3:=f3.wf w1
 obtain⟨v5,A5,v6,A6,p1,z1,f5,f6,hS⟩:=Aq9 (P:=TP) (t:=33) (e:=155) (n:=35) (y:=(r,k,w0,id)) (cs':=rvC (r,k,w0,id)) rfl B01 CE1 w3 (hm1.fr0 f3) h ⟨rfl,hid⟩ (by omega) (by omega)
 have lw5:=(B00 ((f3.ab f5).af r1) hid).2
 simp only[RT,Q0,Q1,Q2,Q3,Q4,Q5,Q6,Q7,Q8,Ad8,eqZ hgl Aa9,DT c3,BZ9,p1,lw5,Ci1 (p:=(r,k,w0,id)) hid,z1]
 rw[hc0]
 refine⟨(f1.ab f3).ab f6,v6,l++[(r,k,w0,id)],rfl,hV.put hc0,.inr ⟨rfl,rfl,?_⟩⟩
 obtain⟨fo,z1,z2⟩:=hS
 exact⟨fo,z1,fun f q=>by have:=z2 f q;have:=(f1.ab f3).len;omega⟩
end
end Go.Sv.Tryz
namespace Go.Sv
open Go
def iF(v:Vt)(r:Nat)(j:Nat):Nat:=(List.range j).countP fun i=>decide (iK v r i)
theorem Ay4{n:Nat}{v:Vt}{r:Nat}:∀(k w left:Nat),w+k=n->1<=left->(dO n v r k w left=true↔left<=(List.range' w k).countP fun i=>decide (iK v r i))
 | 0,w,left,h,h1=>by simp[dO];omega
 |k+1,w,left,h,h1=>by
  unfold dO
  rw[List.range'_succ,List.countP_cons]
  have hle:(List.range' (w+1) k).countP (fun i=>decide (iK v r i))<=k:=Nat.le_trans List.countP_le_length (by rw[List.length_range'];exact Nat.le_refl _)
  by_cases c:iK v r w
  . rw[if_pos c]
    simp only[c,decide_true,if_true]
    by_cases c1:left-1=0
    . rw[if_pos c1];simp;omega
    . rw[if_neg c1]
      by_cases c2:left-1>n-1-w
      . rw[if_pos c2];simp;omega
      . rw[if_neg c2,Ay4 k (w+1) (left-1) (by omega) (by omega)];omega
  . rw[if_neg c]
    simp only[c,decide_false,Bool.false_eq_true,if_false,Nat.add_zero]
    exact Ay4 k (w+1) left (by omega) h1
theorem AK5{n:Nat}{v:Vt}{r:Nat}:dO n v r n 0 (dc n+1)=true↔dc n<iF v r n:=by
 rw[Ay4 n 0 (dc n+1) (by omega) (by omega)]
 unfold iF
 rw[List.range_eq_range']
 omega
end Go.Sv
namespace Go.Sv.Tryz
open Go Go.Proofs
section
variable {m:Hp} {A B:AS} {l:List RV} {v:V} {n:Nat} {V0:Vt}
set_option maxHeartbeats 8000000 in
theorem A01{now:Int}(hn:okN n)(hm:m.on A)(h:Slc eRV m v l)(hl:l.length<=1000000)(hV:VL n V0 l):
 ∃u A',EvF TP HH 108 [.int .i64 (n:Int),v,.int .i64 now] A u A'/\Fr S0 A A'/\u=.tup [.int .i64 ((cU n V0 now).getD 0:Nat),.bool (cU n V0 now).isSome]:=by
 refine Aa4 rfl Tryz.func108 (by unfold Tryz.f108;rfl) Tryz.ntmps108 (by unfold Tryz.f108;rfl) (by simp) ?_
 have hfl:fT (n:Int)=dc n:=AD4 hn
 have hn7:n<=7:=by unfold okN at hn;omega
 have hgr:∀r k w:Nat,r<12->k<2->w<n->gf l r k w=V0 r k w:=fun r k w h1 h2 h3=>by
  rw[hV.get];unfold dN
  rw[if_pos ⟨by omega,by omega,by omega,by omega,by omega⟩];rfl
 simp only[RT,Q0,Q1,Q2,Q3,Q4,Q5,Q6,Q7,Q8]
 refine Aa6 (fun z e B=>∃(x:Nat),z=x/\x<=12/\e.get 8=.int .i64 ((x:Int)-1)/\cU n V0 now=dV n V0 now x/\Fr S0 A B/\e.get 0=.int .i64 n/\e.get 1=v/\e.get 2=.int .i64 now)
  (fun z e B=>(Is z (.exit 0)/\Fr S0 A B/\cU n V0 now=none)∨(Is z .ret/\Fr S0 A B/\∃r:Nat,cU n V0 now=some r/\e.get 6=.int .i64 r/\e.get 7=.bool true))
  ⟨_,12,rfl,by omega,rfl,rfl,.refl _ _,rfl,rfl,rfl⟩ ?_ ?_
 rotate_left
 . rintro z e B hz (⟨rfl,hf,hg⟩ |⟨rfl,hf,r,hg,h6,h7⟩)
   . simp only[RT,Q0,Q1,Q2,Q3,Q4,Q5,Q6,Q7,Q8]
     rw[hg];exact⟨hf,rfl⟩
   . simp only[RT,Q0,Q1,Q2,Q3,Q4,Q5,Q6,Q7,Q8,h6,h7]
     rw[hg];exact⟨hf,rfl⟩
 rintro z e B ⟨x,rfl,hx,h8,ha,hf,h0,h1,h2⟩
 by_cases c1:(z:Int)-1>now
 rotate_left
 . simp only[RT,Q0,Q1,Q2,Q3,Q4,Q5,Q6,Q7,Q8,h8,h2,DF c1]
   refine .inl ⟨rfl,hf,?_⟩
   rw[ha]
   cases z with
   |zero=>rfl
   |succ r=>unfold dV;rw[if_neg (by omega)]
 by_cases c2:(z:Int)-1>=0
 rotate_left
 . simp only[RT,Q0,Q1,Q2,Q3,Q4,Q5,Q6,Q7,Q8,h8,h2,DT c1,DF c2]
   refine .inl ⟨rfl,hf,?_⟩
   rw[ha]
   have:z=0:=by omega
   subst this;rfl
 obtain⟨r,rfl⟩:∃r,z=r+1:=⟨z-1,by omega⟩
 have er:((r+1:Nat):Int)-1=(r:Int):=by omega
 rw[er]at h8 c1 c2
 have har:dV n V0 now (r+1)=if dc n<iF V0 r n then some r else dV n V0 now r:=by
  conv=>lhs;unfold dV
  rw[if_pos c1]
  by_cases q:dc n<iF V0 r n
  . rw[if_pos q,if_pos (AK5.2 q)]
  . rw[if_neg q,if_neg (fun z=>q (AK5.1 z))]
 simp only[RT,Q0,Q1,Q2,Q3,Q4,Q5,Q6,Q7,Q8,h8,h2,DT c1,DT c2]
 refine Aa6 (fun z e C=>∃(j:Nat),z=n-j/\j<=n/\e.get 10=.int .i64 j/\e.get 9=.int .i64 (iF V0 r j)/\Fr S0 A C/\e.get 8=.int .i64 r/\e.get 0=.int .i64 n/\e.get 1=v/\e.get 2=.int .i64 now)
  (fun z e C=>Is z (.exit 2)/\e.get 9=.int .i64 (iF V0 r n)/\Fr S0 A C/\e.get 8=.int .i64 r/\e.get 0=.int .i64 n/\e.get 1=v/\e.get 2=.int .i64 now)
  ⟨_,0,rfl,by omega,rfl,rfl,hf,h8,h0,h1,h2⟩ ?_ ?_
 rotate_left
 . rintro z e C hz ⟨rfl,h9,hfC,h8,h0,h1,h2⟩
   obtain⟨_,D,k2,hD,rfl⟩:=Al9 C (n:=(n:Int))
   rw[hD]at k2
   have hwd:IntKind.i64.wrap ((r:Int)-1)=((r:Nat):Int)-1:=by rw[Ac6 (by omega) (by omega)]
   simp only[RT,Q0,Q1,Q2,Q3,Q4,Q5,Q6,Q7,Q8,h9,h0]
   refine Aa0 k2 ?_
   by_cases q:dc n<iF V0 r n
   . simp only[RT,Q0,Q1,Q2,Q3,Q4,Q5,Q6,Q7,Q8,hfl,DT (show(iF V0 r n:Int)>(dc n:Int) by omega),h8]
     refine .inr ⟨rfl,?_⟩
     exact⟨hfC,r,by rw[ha,har,if_pos q],rfl⟩
   . simp only[RT,Q0,Q1,Q2,Q3,Q4,Q5,Q6,Q7,Q8,hfl,DF (show ¬(iF V0 r n:Int)>(dc n:Int) by omega),h8,hwd]
     exact⟨r,by omega,r,rfl,by omega,rfl,by rw[ha,har,if_neg q],hfC,h0,h1,h2⟩
 rintro z e C ⟨j,rfl,hj,h10,h9,hfC,h8,h0,h1,h2⟩
 simp only[RT,Q0,Q1,Q2,Q3,Q4,Q5,Q6,Q7,Q8,h10,h0]
 refine Aa8 (fun q1=>?_) (fun q1=>?_)
 rotate_left
 . have:j=n:=by omega
   subst this
   simp only[RT,Q0,Q1,Q2,Q3,Q4,Q5,Q6,Q7,Q8]
   exact⟨rfl,h9,hfC,h8,h0,h1,h2⟩
 have hjn:j<n:=by omega
 have en:iF V0 r (j+1)=iF V0 r j+(if iK V0 r j then 1 else 0):=by
  unfold iF
  rw[List.range_succ,List.countP_append,List.countP_singleton]
  simp only[decide_eq_true_eq]
 have hle:iF V0 r j<=j:=by unfold iF;exact Nat.le_trans List.countP_le_length (by rw[List.length_range];exact Nat.le_refl _)
 have hwi:IntKind.i64.wrap ((j:Int)+1)=((j+1:Nat):Int):=by rw[Ac2 (by omega)]
 have hwa:IntKind.i64.wrap ((iF V0 r j:Int)+1)=((iF V0 r j+1:Nat):Int):=by rw[Ac2 (by omega)]
 have hmC:=hm.fr0 hfC
 obtain⟨_,D,k3,f3,rfl⟩:=Aq8 (r:=(r:Int)) (k:=0) (w0:=(j:Int)) hmC h hl
 have hl3:=Aw0 hmC h (r:Int) 0 (j:Int)
 have e3:=hgr r 0 j (by omega) (by omega) hjn
 have e3:gf l (r:Int) 0 (j:Int)=V0 r 0 j:=e3
 rw[e3]at k3 hl3
 simp only[RT,Q0,Q1,Q2,Q3,Q4,Q5,Q6,Q7,Q8,h1,h8,h10]
 refine Aa0 k3 ?_
 by_cases c3:V0 r 0 j=z32
 rotate_left
 . simp only[RT,Q0,Q1,Q2,Q3,Q4,Q5,Q6,Q7,Q8,Ad8,eqZ hl3 Aa9,DF c3,h9,hwa,h10,hwi]
   refine⟨n-(j+1),by omega,j+1,rfl,by omega,rfl,?_⟩
   rw[en,if_pos (.inl c3)]
   exact⟨rfl,hfC.ab f3,h8,h0,h1,h2⟩
 obtain⟨_,E,k4,f4,rfl⟩:=Aq8 (r:=(r:Int)) (k:=1) (w0:=(j:Int)) (hmC.fr0 f3) h hl
 have hl4:=Aw0 hmC h (r:Int) 1 (j:Int)
 have e4:=hgr r 1 j (by omega) (by omega) hjn
 have e4:gf l (r:Int) 1 (j:Int)=V0 r 1 j:=e4
 rw[e4]at k4 hl4
 simp only[RT,Q0,Q1,Q2,Q3,Q4,Q5,Q6,Q7,Q8,Ad8,eqZ hl3 Aa9,DT c3,h1,h8,h10]
 refine Aa0 k4 ?_
 have hfE:=(hfC.ab f3).ab f4
 by_cases c4:V0 r 1 j=z32
 rotate_left
 . simp only[RT,Q0,Q1,Q2,Q3,Q4,Q5,Q6,Q7,Q8,Ad8,eqZ hl4 Aa9,DF c4,h9,hwa,h10,hwi]
   refine⟨n-(j+1),by omega,j+1,rfl,by omega,rfl,?_⟩
   rw[en,if_pos (.inr c4)]
   exact⟨rfl,hfE,h8,h0,h1,h2⟩
 . simp only[RT,Q0,Q1,Q2,Q3,Q4,Q5,Q6,Q7,Q8,Ad8,eqZ hl4 Aa9,DT c4,h10,hwi]
   refine⟨n-(j+1),by omega,j+1,rfl,by omega,rfl,?_⟩
   rw[en,if_neg (by rintro(z |z);exact z c3;exact z c4),Nat.add_zero]
   exact⟨h9,hfE,h8,h0,h1,h2⟩
end
end Go.Sv.Tryz
namespace Go.Sv.Tryz
open Go Go.Proofs
def gU(f:Nat->Bts)(w:Nat):List (Nat×Bts):=((List.range w).map fun c=>(c,f c)).filter fun p=>p.2≠z32
theorem AK6(f:Nat->Bts)(w:Nat):gU f (w+1)=gU f w++if f w≠z32 then [(w,f w)] else []:=by
 unfold gU
 rw[List.range_succ,List.map_append,List.filter_append]
 congr 1
 by_cases q:f w=z32<;>simp[q]
theorem AE1{f:Nat->Bts}{w:Nat}(h:f w≠z32):∀n,w<n->(gU f n)[(gU f w).length]?=some (w,f w)
 | 0,hn=>by omega
 |n+1,hn=>by
  rw[AK6]
  rcases Nat.lt_or_ge w n with q |q
  . have:=AE1 h n q
    rw[List.getElem?_append_left (LG.1 this).1];exact this
  . have:w=n:=by omega
    subst this
    rw[List.getElem?_append_right (Nat.le_refl _),Nat.sub_self,if_pos h];rfl
section
variable {A A':AS} {cp n:Nat} {v:Vt} {vb:Nat->Nat}
theorem AE2{r k:Int}:∃w A',EvF TP HH 123 [.ptr cp 0,.int .i64 r,.int .i64 k] A w A'/\Fr S0 A A'/\∃x1 x2 x3,w=.fn 125 [] [.ptr x1 0,.ptr x2 0,.ptr x3 0]/\A'.blk[x1]?=some ⟨[.ptr cp 0],.var⟩/\A'.blk[x2]?=some ⟨[.int .i64 r],.var⟩/\A'.blk[x3]?=some ⟨[.int .i64 k],.var⟩:=by
 refine Aa4 rfl Tryz.func123 (by unfold Tryz.f123;rfl) Tryz.ntmps123 (by unfold Tryz.f123;rfl) (by simp) ?_
 simp only[RT,Q0,Q1,Q2,Q3,Q4,Q5,Q6,Q7,Q8]
 obtain⟨A1,e1,f1,r1,n1⟩:=Aa3 A [.ptr cp 0]
 rw[<- e1]
 obtain⟨A2,e2,f2,r2,n2⟩:=Aa3 A1 [.int .i64 r]
 rw[<- e2]
 obtain⟨A3,e3,f3,r3,n3⟩:=Aa3 A2 [.int .i64 k]
 rw[<- e3]
 exact⟨(f1.ab f2).ab f3,_,_,_,rfl,f3.af (f2.af r1),f3.af r2,r3⟩
def ox(A A1:AS)(args:List V)(p:Nat×Bts):Prop:=args=[.int .i64 (p.1:Int),.agg (bc p.2)]
theorem Ci2{A:AS}{x:Bts}(hx:x.length=32):∃A',ag TP 180 (.ptr A.blk.length 0) (.agg (ec x)) (A.push ⟨ec z32,.var⟩)=some A'/\Fr S0 A A'/\A'.blk[A.blk.length]?=some ⟨ec x,.var⟩:=by
 obtain⟨A2,s1,s2,s3,s4⟩:=Ag5 (P:=TP) A (z:=ec z32) (t:=180) (x:=.agg (ec x)) (cs:=ec x) rfl (by rw[Ak9 hx];exact BE6) (by rw[Ak9 hx];rfl) (Bf9 _)
 exact⟨A2,s1,s2,s3⟩
theorem Cy6:(aC TP 180).bind V.cells=some (ec z32):=by kernel_rfl
theorem Cy7{A:AS}{b:Nat}{k:BK}{x:Bts}(h:A.blk[b]?=some ⟨ec x,k⟩)(hx:x.length=32):aa TP 4 (.ptr b 0) A=some (.bool (decide (x≠z32)))/\aa TP 30 (.ptr b 1) A=some (.agg (bc x)):=
 ⟨At.cC h (o:=0) ⟨[],bc x,rfl,rfl⟩ ag4,At.load h (o:=1) ⟨[.bool (decide (x≠z32))],[],by simp[ec],rfl⟩ Av4 Ap3 (by rw[Aa7,hx])⟩
set_option maxHeartbeats 8000000 in
theorem AE3{S:Loc->Prop}{x1 x2 x3:Nat}{r k:Int}(hw:WF A)(h:bq A cp n v vb)(b1:A.blk[x1]?=some ⟨[.ptr cp 0],.var⟩)(b2:A.blk[x2]?=some ⟨[.int .i64 r],.var⟩)(b3:A.blk[x3]?=some ⟨[.int .i64 k],.var⟩):
 o8 TP HH 125 [] [.ptr x1 0,.ptr x2 0,.ptr x3 0] A S S0 (fun b=>∃j,j<24/\b=vb j) (fun _=>True) ox (cH n v r k):=by
 intro lo J D dA hJ0
 refine Aa4 rfl Tryz.func125 (by unfold Tryz.f125;rfl) Tryz.ntmps125 (by unfold Tryz.f125;rfl) (by simp) ?_
 have ld1:aa TP 130 (.ptr x1 0) A=some (.ptr cp 0):=Ab7 BX0 b1
 have ld2:aa TP 3 (.ptr x2 0) A=some (.int .i64 r):=Ab7 ag3 b2
 have ld3:aa TP 3 (.ptr x3 0) A=some (.int .i64 k):=Ab7 ag3 b3
 simp only[RT,Q0,Q1,Q2,Q3,Q4,Q5,Q6,Q7,Q8,ld1,ld2,ld3]
 obtain⟨_,_,k1,hA,rfl⟩:=Ay1 h r k 0
 rw[hA]at k1
 refine Aa0 k1 ?_
 by_cases q:right n r k 0
 rotate_left
 . simp only[RT,Q0,Q1,Q2,Q3,Q4,Q5,Q6,Q7,Q8,DF q]
   refine⟨.refl _ _,.inl ⟨A,?_,.refl _ _⟩⟩
   unfold cH;rw[if_neg q];exact hJ0
 obtain⟨i,rfl⟩:=Int.eq_ofNat_of_zero_le q.1
 obtain⟨j,hj,rfl⟩:∃j:Nat,j<2/\k=j:=by rcases q.2.2.1 with rfl |rfl;exact⟨0,by omega,rfl⟩;exact⟨1,by omega,rfl⟩
 have hi:i<12:=by have:=q.2.1;omega
 have dx:=Bg0 h hi hj
 have hl:=fun w=>h.len i j w
 have hxs:cH n v i j=gU (v i j) n:=by unfold cH;rw[if_pos q];rfl
 rw[hxs]at dA ⊢
 have hln:∀B,dr TP 169 (.sl (vb (i*2+j)) 0 n 33) B=some (.int .i64 n):=fun B=>by unfold dr;rw[Tryz.underlying169]
 simp only[RT,Q0,Q1,Q2,Q3,Q4,Q5,Q6,Q7,Q8,DT q]
 rw[BE0,Aa2 (by rfl)]
 simp only[RT,Q0,Q1,Q2,Q3,Q4,Q5,Q6,Q7,Q8,ld1,ld2,ld3,Br7 cp,Br8 hi,BF0 hj,ldS h hi hj,hln]
 refine Aa6 (fun z e B=>Fr S A B/\e.get 0=.yield lo/\e.get 19=.sl (vb (i*2+j)) 0 n 33/\e.get 20=.int .i64 n/\B.blk[vb (i*2+j)]?=some ⟨hU n (v i j),.arr (vb (i*2+j)) 0⟩/\∃w:Nat,z=n-w/\w<=n/\e.get 21=.int .i64 w/\∃A2,J (gU (v i j) w).length A2/\Fr S0 A2 B)
  (fun z e B=>Fr S A B/\(Is z (.exit 0)∨Is z .ret)/\((∃A2,J (gU (v i j) n).length A2/\Fr S0 A2 B)∨∃a A2,a<(gU (v i j) n).length/\D a A2/\Fr S0 A2 B))
  ⟨_,.refl _ _,rfl,rfl,rfl,dx,0,rfl,by omega,rfl,A,by simpa[gU] using hJ0,.refl _ _⟩ ?_ ?_
 rotate_left
 . rintro z e B hz ⟨hf,rfl |rfl,hd⟩
   . simp only[RT,Q0,Q1,Q2,Q3,Q4,Q5,Q6,Q7,Q8]
     exact⟨hf,by simpa using hd⟩
   . simp only[RT,Q0,Q1,Q2,Q3,Q4,Q5,Q6,Q7,Q8]
     exact⟨hf,by simpa using hd⟩
 rintro z e B ⟨hf,h0,h19,h20,hB,w,rfl,hwn,h21,A2,hJ,h2⟩
 simp only[RT,Q0,Q1,Q2,Q3,Q4,Q5,Q6,Q7,Q8,h20,h21]
 refine Aa8 (fun g=>?_) (fun g=>?_)
 rotate_left
 . simp only[RT,Q0,Q1,Q2,Q3,Q4,Q5,Q6,Q7,Q8]
   have:w=n:=by omega
   subst this
   exact⟨hf,.inl rfl,.inl ⟨A2,hJ,h2⟩⟩
 have oy:w<n:=by omega
 obtain⟨g1,g2,g3⟩:=ldV hB hl oy
 obtain⟨C,s1,s2,s3⟩:=Ci2 (A:=B) (hl w)
 have ldc:=Cy7 s3 (hl w)
 simp only[RT,Q0,Q1,Q2,Q3,Q4,Q5,Q6,Q7,Q8,h19,h21,BF1 oy,g1,Cy6,s1,BI1 _ _,ldc]
 have mz:=AK6 (v i j) w
 by_cases qz:v i j w≠z32
 rotate_left
 . rw[if_neg qz,List.append_nil]at mz
   simp only[RT,Q0,Q1,Q2,Q3,Q4,Q5,Q6,Q7,Q8,DF qz,h21]
   exact⟨n-(w+1),by omega,hf.ab s2,h0,h19,h20,s2.af hB,w+1,rfl,by omega,by rw[Ac2 (by have:=h.ok;unfold okN at this;omega)],A2,by rw[mz];exact hJ,h2.ab s2⟩
 rw[if_pos qz]at mz
 obtain⟨bo,E,z1,z2,z3,z4⟩:=dA _ (w,v i j w) A2 C _ (AE1 qz n oy) hJ (h2.ab s2) (hf.ab s2) rfl
 simp only[RT,Q0,Q1,Q2,Q3,Q4,Q5,Q6,Q7,Q8,DT qz,h0,BI1 _ _,ldc]
 refine⟨_,E,z1,?_⟩
 simp only[RT,Q0,Q1,Q2,Q3,Q4,Q5,Q6,Q7,Q8]
 cases bo with
 |true =>
  obtain⟨z5,z6⟩:=z3 rfl
  simp only[RT,Q0,Q1,Q2,Q3,Q4,Q5,Q6,Q7,Q8,h21]
  have hrE:=z6 (vb (i*2+j)) ⟨_,by omega,rfl⟩
  rw[s2.af hB]at hrE
  exact⟨n-(w+1),by omega,(hf.ab s2).thn z2,h0,h19,h20,hrE,w+1,rfl,by omega,by rw[Ac2 (by have:=h.ok;unfold okN at this;omega)],E,by rw[mz,List.length_append];exact z5,.refl _ _⟩
 |false =>
  simp only[RT,Q0,Q1,Q2,Q3,Q4,Q5,Q6,Q7,Q8]
  have hlt:(gU (v i j) w).length<(gU (v i j) n).length:=(LG.1 (AE1 qz n oy)).1
  exact⟨(hf.ab s2).thn z2,.inr rfl,.inr ⟨_,E,hlt,z4 rfl,.refl _ _⟩⟩
end
end Go.Sv.Tryz
namespace Go.Sv.Tryz
open Go Go.Proofs
section
variable {A A':AS} {cp n:Nat} {v:Vt} {vb:Nat->Nat}
theorem AE4{r k:Int}{p:Nat×Bts}(h:p∈cH n v r k):p.2=v r.toNat k.toNat p.1/\p.1<n/\p.2≠z32:=by
 unfold cH at h
 split at h
 . have:=A56 h;exact⟨this.2.2,this.2.1,this.1⟩
 . simp at h
theorem AT6(n:Nat)(v:Vt)(r k:Int):(cH n v r k).length<=n:=by
 unfold cH
 split
 . unfold jI
   refine Nat.le_trans (List.length_filter_le _ _) ?_
   simp
 . simp
theorem BI6(l:List (Nat×Bts))(id:Bts):jf l id<=l.length:=List.countP_le_length
theorem Bh1{l:List (Nat×Bts)}{i:Nat}{p:Nat×Bts}(h:l[i]?=some p)(id:Bts):jf (l.take (i+1)) id=jf (l.take i) id+if p.2=id then 1 else 0:=by
 rw[Ab6 h]
 unfold jf
 rw[List.countP_append]
 congr 1
 by_cases q:p.2=id<;>simp[q]
theorem bq.eN{S:Loc->Prop}{B:AS}(h:bq A cp n v vb)(hf:Fr S A B)(hs:∀j,j<24->¬S (.row (vb j))){b:Nat}(hb:∃j,j<24/\b=vb j):B.blk[b]?=A.blk[b]?:=by
 obtain⟨j,hj,rfl⟩:=hb
 rw[h.row j hj];exact hf.row _ _ (h.row j hj) (hs j hj)
theorem bq.lt(h:bq A cp n v vb){j:Nat}(hj:j<24):vb j<A.blk.length:=Ab3 (h.row j hj)
theorem bq.ju(h:bq A cp n v vb){j:Nat}(hj:j<24){b:Nat}{cs:List V}(hb:A.blk[b]?=some ⟨cs,.var⟩):vb j≠b:=fun q=>by have:=h.row j hj;rw[q,hb]at this;simp at this
theorem bq.small(h:bq A cp n v vb):n<=7/\1<=n:=by have:=h.ok;unfold okN at this;omega
theorem bq.nw(h:bq A cp n v vb){c:Nat->Prop}(hc:∀b,c b->∃cs,A.blk[b]?=some ⟨cs,.var⟩){j:Nat}(hj:j<24):¬nwS c A.blk.length (.row (vb j)):=by
 have:=h.lt hj
 rintro(q |q)
 . obtain⟨cs,hb⟩:=hc _ q
   exact h.ju hj hb rfl
 . omega
set_option maxRecDepth 10000 in
set_option maxHeartbeats 8000000 in
theorem Ba6{x1 x2 x3:Nat}{r k:Int}{id:Bts}(hw:WF A)(h:bq A cp n v vb)(b1:A.blk[x1]?=some ⟨[.ptr cp 0],.var⟩)(b2:A.blk[x2]?=some ⟨[.int .i64 r],.var⟩)(b3:A.blk[x3]?=some ⟨[.int .i64 k],.var⟩)(hid:id.length=32):
 ∃w A',EvF TP HH 124 [.fn 125 [] [.ptr x1 0,.ptr x2 0,.ptr x3 0],.agg (bc id)] A w A'/\Fr S0 A A'/\w=.int .i64 (fq n v r k id):=by
 refine Aa4 rfl Tryz.func124 (by unfold Tryz.f124;rfl) Tryz.ntmps124 (by unfold Tryz.f124;rfl) (by simp) ?_
 simp only[RT,Q0,Q1,Q2,Q3,Q4,Q5,Q6,Q7,Q8,zc3]
 obtain⟨A1,e1,f1,r1,n1⟩:=Aa3 A (bc id)
 rw[<- e1]
 obtain⟨A2,e2,f2,r2,n2⟩:=Aa3 A1 [.int .i64 0]
 rw[<- e2]
 obtain⟨A3,s1,s2,s3,s4⟩:=Ai6 (P:=TP) (t:=3) (x:=.int .i64 0) r2 rfl sz3 rfl
 simp only[RT,Q0,Q1,Q2,Q3,Q4,Q5,Q6,Q7,Q8,s1]
 have f3:Fr S0 A A3:=(f1.ab f2).ar s2 f1.len
 have w3:=f3.wf hw
 have h3:=h.fr0 f3
 have q3:A3.blk[A.blk.length]?=some ⟨bc id,.var⟩:=s2.aq (f2.af r1) (by omega)
 have ne:A.blk.length≠A1.blk.length:=by omega
 have hsm:=h.small
 have hcl:=AT6 n v r k
 refine AI5 (S:=nwS (·=A1.blk.length) A3.blk.length) (T:=S0) (K:=fun b=>∃j,j<24/\b=vb j) (Fin:=fun _=>True) (AR:=ox) (xs:=cH n v r k)
  (fun i B=>B.blk[A1.blk.length]?=some ⟨[.int .i64 (jf ((cH n v r k).take i) id)],.var⟩/\B.blk[A.blk.length]?=some ⟨bc id,.var⟩) (fun _ _=>False)
  rfl (fun q=>q) (fun q=>q) ?_ ⟨s3,q3⟩ ?_ (fun _ _ _ q=>q.elim)
  Tryz.func124 Tryz.ntmps124 (by simp) ?_ ?_ (fun _ _ _ q=>q.elim)
 . intro A0 hf0 kX
   exact AE3 (S:=bS (nwS (·=A1.blk.length) A3.blk.length) A3.loops.length) (hf0.wf w3) (h3.fr0 hf0) (hf0.af (f3.af b1)) (hf0.af (f3.af b2)) (hf0.af (f3.af b3))
 . rintro i B C ⟨b1,b2⟩ hf
   exact⟨hf.bK b1,hf.bK b2⟩
 . rintro i ⟨w,x⟩ B C args hi ⟨c1,c2⟩ hBC hf rfl
   refine⟨_,rfl,?_⟩
   have hx:x.length=32:=by
    have e:x=v r.toNat k.toNat w:=(AE4 (List.mem_of_getElem? hi)).1
    rw[e];exact h.len _ _ _
   obtain⟨D,t1,t2,t3⟩:=AN5 (A:=C) hx
   simp only[RT,Q0,Q1,Q2,Q3,Q4,Q5,Q6,Q7,Q8,A59,t1]
   refine⟨rfl,t2.oz,fun E hE=>?_⟩
   have g1:=hE.bK (t2.af (hBC.af c1))
   have g2:=hE.bK (t2.af (hBC.af c2))
   have g3:=hE.bK t3
   have hfE:Fr (bS (nwS (·=A1.blk.length) A3.blk.length) A3.loops.length) A3 E:=(hf.ab t2).trans hE fun z q=>.inl (.inr q)
   have hnr:∀j,j<24->¬bS (nwS (·=A1.blk.length) A3.blk.length) A3.loops.length (.row (vb j)):=fun j hj q=>q.elim (h3.nw (fun b q=>by subst q;exact⟨_,s3⟩) hj) (fun q=>by cases q)
   have hft:=Bh1 hi id
   have hfl:=BI6 ((cH n v r k).take i) id
   rw[List.length_take]at hfl
   have ldn:aa TP 3 (.ptr A1.blk.length 0) E=some (.int .i64 (jf ((cH n v r k).take i) id)):=Ab7 ag3 g1
   obtain⟨G,u1,u2,u3,u4⟩:=Ai6 (P:=TP) (t:=3) (x:=.int .i64 ((jf ((cH n v r k).take i) id+1:Nat):Int)) g1 rfl sz3 rfl
   simp only[RT,Q0,Q1,Q2,Q3,Q4,Q5,Q6,Q7,Q8,Ai8 g2 hid,Ai8 g3 hx,eqZ hid hx]
   by_cases q:id=x
   . rw[if_pos q.symm]at hft
     simp only[RT,Q0,Q1,Q2,Q3,Q4,Q5,Q6,Q7,Q8,DT q,ldn,Ac2 (show jf ((cH n v r k).take i) id<9223372036854775807 by omega),u1]
     refine⟨u2.mono fun z q=>by subst q;exact .inl rfl,.inl ⟨rfl,⟨by rw[hft];exact u3,u2.aq g2 ne⟩,fun b hb=>?_⟩⟩
     rw[h3.eN ((hfE.trans u2) fun z q=>.inl (by subst q;exact .inl (.inl rfl))) hnr hb,h3.eN hf hnr hb]
   . rw[if_neg (fun z=>q z.symm)]at hft
     simp only[RT,Q0,Q1,Q2,Q3,Q4,Q5,Q6,Q7,Q8,DF q]
     refine⟨.refl _ _,.inl ⟨rfl,⟨by rw[hft];exact g1,g2⟩,fun b hb=>?_⟩⟩
     rw[h3.eN hfE hnr hb,h3.eN hf hnr hb]
 . rintro B C ⟨c1,c2⟩ hBC lM hf
   have hBC:Fr (·=.loop A3.loops.length) B C:=hBC.mono fun z q=>q.elim (fun q=>q.elim) (fun q=>q)
   have g1:=hBC.bK c1
   rw[List.take_length]at g1
   have ldn:aa TP 3 (.ptr A1.blk.length 0) C=some (.int .i64 (jf (cH n v r k) id)):=Ab7 ag3 g1
   simp only[RT,Q0,Q1,Q2,Q3,Q4,Q5,Q6,Q7,Q8,ldn]
   exact⟨f3.trans hf fun z q=>.inr (AS2 f3 (fun b q=>by subst q;exact f1.len) q),rfl⟩
theorem A63{r k:Int}{id:Bts}(hw:WF A)(h:bq A cp n v vb)(hid:id.length=32):∃w A',EvF TP HH 117 [.ptr cp 0,.int .i64 r,.int .i64 k,.agg (bc id)] A w A'/\Fr S0 A A'/\w=.int .i64 (fq n v r k id):=by
 refine Aa4 rfl Tryz.func117 (by unfold Tryz.f117;rfl) Tryz.ntmps117 (by unfold Tryz.f117;rfl) (by simp) ?_
 simp only[RT,Q0,Q1,Q2,Q3,Q4,Q5,Q6,Q7,Q8]
 obtain⟨A1,e1,f1,r1,n1⟩:=Aa3 A (bc id)
 rw[<- e1]
 simp only[RT,Q0,Q1,Q2,Q3,Q4,Q5,Q6,Q7,Q8,BD9,Aa1,Ai8 r1 hid]
 obtain⟨_,A2,k1,k2,x1,x2,x3,rfl,k3,k4,k5⟩:=AE2 (A:=A1) (cp:=cp) (r:=r) (k:=k)
 refine Aa0 k1 ?_
 have f2:=f1.ab k2
 obtain⟨_,A3,m1,m2,rfl⟩:=Ba6 (id:=id) (f2.wf hw) (h.fr0 f2) k3 k4 k5 hid
 simp only[RT,Q0,Q1,Q2,Q3,Q4,Q5,Q6,Q7,Q8]
 refine⟨Aa5 (ha:=rfl) rfl (Ai8 (k2.af r1) hid) rfl Aa1,?_⟩
 refine Aa0 m1 ?_
 simp only[RT,Q0,Q1,Q2,Q3,Q4,Q5,Q6,Q7,Q8,Aa1]
 exact f2.ab m2
set_option maxRecDepth 10000 in
set_option maxHeartbeats 8000000 in
theorem AA6{r k:Int}(hw:WF A)(h:bq A cp n v vb):∃w A',EvF TP HH 119 [.ptr cp 0,.int .i64 r,.int .i64 k] A w A'/\Fr S0 A A'/\w=.int .i64 (allI n v r k):=by
 refine Aa4 rfl Tryz.func119 (by unfold Tryz.f119;rfl) Tryz.ntmps119 (by unfold Tryz.f119;rfl) (by simp) ?_
 simp only[RT,Q0,Q1,Q2,Q3,Q4,Q5,Q6,Q7,Q8,zc3]
 obtain⟨A2,e2,f2,r2,n2⟩:=Aa3 A [.int .i64 0]
 rw[<- e2]
 obtain⟨A3,s1,s2,s3,s4⟩:=Ai6 (P:=TP) (t:=3) (x:=.int .i64 0) r2 rfl sz3 rfl
 simp only[RT,Q0,Q1,Q2,Q3,Q4,Q5,Q6,Q7,Q8,s1]
 have f3:Fr S0 A A3:=f2.ar s2 (Nat.le_refl _)
 obtain⟨_,A4,k1,k2,x1,x2,x3,rfl,k3,k4,k5⟩:=AE2 (A:=A3) (cp:=cp) (r:=r) (k:=k)
 refine Aa0 k1 ?_
 simp only[RT,Q0,Q1,Q2,Q3,Q4,Q5,Q6,Q7,Q8]
 have f4:=f3.ab k2
 have w4:=f4.wf hw
 have h4:=h.fr0 f4
 have c4:=k2.af s3
 have hsm:=h.small
 have hcl:=AT6 n v r k
 refine AI5 (S:=nwS (·=A.blk.length) A4.blk.length) (T:=S0) (K:=fun b=>∃j,j<24/\b=vb j) (Fin:=fun _=>True) (AR:=ox) (xs:=cH n v r k)
  (fun i B=>i<=(cH n v r k).length->B.blk[A.blk.length]?=some ⟨[.int .i64 (i:Int)],.var⟩) (fun _ _=>False)
  rfl (fun q=>q) (fun q=>q) ?_ (fun _=>c4) ?_ (fun _ _ _ q=>q.elim)
  Tryz.func119 Tryz.ntmps119 (by simp) ?_ ?_ (fun _ _ _ q=>q.elim)
 . intro A0 hf0 kX
   exact AE3 (S:=bS (nwS (·=A.blk.length) A4.blk.length) A4.loops.length) (hf0.wf w4) (h4.fr0 hf0) (hf0.af k3) (hf0.af k4) (hf0.af k5)
 . rintro i B C b1 hf hi
   exact hf.bK (b1 hi)
 . rintro i ⟨w,x⟩ B C args hi c1 hBC hf rfl
   refine⟨_,rfl,?_⟩
   simp only[RT,Q0,Q1,Q2,Q3,Q4,Q5,Q6,Q7,Q8]
   refine⟨rfl,.refl _ _,fun E hE=>?_⟩
   have hil:=(LG.1 hi).1
   have g1:=hE.bK (hBC.af (c1 (by omega)))
   have hfE:Fr (bS (nwS (·=A.blk.length) A4.blk.length) A4.loops.length) A4 E:=hf.trans hE fun z q=>.inl (.inr q)
   have hnr:∀j,j<24->¬bS (nwS (·=A.blk.length) A4.blk.length) A4.loops.length (.row (vb j)):=fun j hj q=>q.elim (h4.nw (fun b q=>by subst q;exact⟨_,c4⟩) hj) (fun q=>by cases q)
   have ldn:aa TP 3 (.ptr A.blk.length 0) E=some (.int .i64 (i:Int)):=Ab7 ag3 g1
   obtain⟨G,u1,u2,u3,u4⟩:=Ai6 (P:=TP) (t:=3) (x:=.int .i64 ((i+1:Nat):Int)) g1 rfl sz3 rfl
   simp only[RT,Q0,Q1,Q2,Q3,Q4,Q5,Q6,Q7,Q8,ldn,Ac2 (show i<9223372036854775807 by omega),u1]
   refine⟨u2.mono fun z q=>by subst q;exact .inl rfl,.inl ⟨rfl,fun _=>u3,fun b hb=>?_⟩⟩
   rw[h4.eN ((hfE.trans u2) fun z q=>.inl (by subst q;exact .inl (.inl rfl))) hnr hb,h4.eN hf hnr hb]
 . rintro B C c1 hBC lM hf
   have hBC:Fr (·=.loop A4.loops.length) B C:=hBC.mono fun z q=>q.elim (fun q=>q.elim) (fun q=>q)
   have g1:=hBC.bK (c1 (Nat.le_refl _))
   have ldn:aa TP 3 (.ptr A.blk.length 0) C=some (.int .i64 ((cH n v r k).length:Int)):=Ab7 ag3 g1
   simp only[RT,Q0,Q1,Q2,Q3,Q4,Q5,Q6,Q7,Q8,ldn]
   exact⟨f4.trans hf fun z q=>.inr (AS2 f4 (fun b q=>by subst q;exact Nat.le_refl _) q),rfl⟩
end
end Go.Sv.Tryz
namespace Go.Sv.Tryz
open Go Go.Proofs
theorem Bh2{α:Type}{q:α->Bool}:∀{l:List α} {i:Nat} {x:α},l[i]?=some x->q x=true->(∀(j:Nat) (y:α),j<i->l[j]?=some y->q y=false)->l.find? q=some x
 |[],i,x,h,_,_=>by simp at h
 |y::l,0,x,h,hq,_=>by simp at h;subst h;simp[List.find?,hq]
 |y::l,i+1,x,h,hq,hb=>by
  have h0:=hb 0 y (by omega) rfl
  simp only[List.find?,h0]
  exact Bh2 (by simpa using h) hq fun j z hj hz=>hb (j+1) z (by omega) (by simpa using hz)
theorem iS{α:Type}{q:α->Bool}{l:List α}(h:∀(j:Nat) (y:α),l[j]?=some y->q y=false):l.find? q=none:=by
 rw[List.find?_eq_none]
 intro x hx
 obtain⟨j,hj⟩:=List.getElem?_of_mem hx
 simp[h j x hj]
section
variable {A A':AS} {cp n:Nat} {v:Vt} {vb:Nat->Nat}
theorem bq.sG{c:Nat->Prop}{l:Nat}{B:AS}(h:bq A cp n v vb)(hf:Fr (bS (nwS c A.blk.length) l) A B)(hc:∀b,c b->b≠cp/\∃cs,A.blk[b]?=some ⟨cs,.var⟩):bq B cp n v vb:=by
 refine h.fr hf ?_ fun j hj=>⟨?_,?_⟩
 . rintro(q |q)
   . have:=Ab3 h.box
     rcases q with q |q
     . exact(hc _ q).1 rfl
     . omega
   . cases q
 . rintro(q |q)
   . exact h.nw (fun b q=>(hc b q).2) hj q
   . cases q
 . rintro(q |q)
   . have:=h.lt hj;have:A.blk.length<=vb j:=q;omega
   . cases q
theorem AE5(h:bq A cp n v vb){r k:Int}{id:Bts}(hs:dz n v r k=some id):id.length=32:=by
 unfold dz at hs
 rw[Option.map_eq_some_iff]at hs
 obtain⟨p,h1,rfl⟩:=hs
 rw[(AE4 (List.mem_of_find?_eq_some h1)).1];exact h.len _ _ _
set_option maxRecDepth 10000 in
set_option maxHeartbeats 8000000 in
theorem Ba7{r k:Int}(hw:WF A)(h:bq A cp n v vb):
 ∃w A',EvF TP HH 116 [.ptr cp 0,.int .i64 r,.int .i64 k] A w A'/\Fr S0 A A'/\w=.tup [.agg (bc ((dz n v r k).getD z32)),.bool (dz n v r k).isSome]:=by
 refine Aa4 rfl Tryz.func116 (by unfold Tryz.f116;rfl) Tryz.ntmps116 (by unfold Tryz.f116;rfl) (by simp) ?_
 simp only[RT,Q0,Q1,Q2,Q3,Q4,Q5,Q6,Q7,Q8,A59,zc4]
 obtain⟨A1,e1,f1,r1,n1⟩:=Aa3 A [.ptr cp 0]
 rw[<- e1]
 obtain⟨A2,e2,f2,r2,n2⟩:=Aa3 A1 [.int .i64 r]
 rw[<- e2]
 obtain⟨A3,e3,f3,r3,n3⟩:=Aa3 A2 [.int .i64 k]
 rw[<- e3]
 obtain⟨A4,e4,f4,r4,n4⟩:=Aa3 A3 (bc z32)
 rw[<- e4]
 obtain⟨A5,e5,f5,r5,n5⟩:=Aa3 A4 [.bool false]
 rw[<- e5]
 have p1:=f5.af (f4.af (f3.af (f2.af r1)))
 have p2:=f5.af (f4.af (f3.af r2))
 have p3:=f5.af (f4.af r3)
 have p4:=f5.af r4
 have ldp:∀{B:AS},B.blk[A.blk.length]?=some ⟨[.ptr cp 0],.var⟩->aa TP 130 (.ptr A.blk.length 0) B=some (.ptr cp 0):=fun q=>Ab7 BX0 q
 have ldr:∀{B:AS},B.blk[A1.blk.length]?=some ⟨[.int .i64 r],.var⟩->aa TP 3 (.ptr A1.blk.length 0) B=some (.int .i64 r):=fun q=>Ab7 ag3 q
 have ldk:∀{B:AS},B.blk[A2.blk.length]?=some ⟨[.int .i64 k],.var⟩->aa TP 3 (.ptr A2.blk.length 0) B=some (.int .i64 k):=fun q=>Ab7 ag3 q
 simp only[RT,Q0,Q1,Q2,Q3,Q4,Q5,Q6,Q7,Q8,ldp p1,ldr p2,ldk p3]
 obtain⟨_,A6,k1,k2,x1,x2,x3,rfl,k3,k4,k5⟩:=AE2 (A:=A5) (cp:=cp) (r:=r) (k:=k)
 refine Aa0 k1 ?_
 simp only[RT,Q0,Q1,Q2,Q3,Q4,Q5,Q6,Q7,Q8]
 have f16:Fr S0 A A5:=(((f1.ab f2).ab f3).ab f4).ab f5
 have f6:=f16.ab k2
 have w6:=f6.wf hw
 have h6:=h.fr0 f6
 have tL:=Ab3 h.box
 obtain⟨c,hc⟩:∃c:Nat->Prop,c=fun b=>b=A3.blk.length∨b=A4.blk.length:=⟨_,rfl⟩
 have hcv:∀b,c b->b≠cp/\∃cs,A6.blk[b]?=some ⟨cs,.var⟩:=by
  intro b q
  rw[hc]at q
  rcases q with rfl |rfl
  . exact⟨by omega,_,k2.af p4⟩
  . exact⟨by omega,_,k2.af r5⟩
 have hcn:∀b,b<A3.blk.length->¬c b:=fun b hb q=>by rw[hc]at q;omega
 have l6:=f6.len
 have l56:=k2.len
 have hnr:∀j,j<24->¬bS (nwS c A6.blk.length) A6.loops.length (.row (vb j)):=fun j hj q=>q.elim (h6.nw (fun b q=>(hcv b q).2) hj) (fun q=>by cases q)
 have keepB:∀{B:AS} {b:Nat} {K:Blk},Fr (bS (nwS c A6.blk.length) A6.loops.length) A6 B->b<A3.blk.length->A6.blk[b]?=some K->B.blk[b]?=some K:=fun hf hb hk=>hf.row _ _ hk (by
  rintro(q |q)
  . rcases q with q |q
    . exact hcn _ hb q
    . omega
  . cases q)
 refine AI5 (S:=nwS c A6.blk.length) (T:=S0) (K:=fun b=>∃j,j<24/\b=vb j) (Fin:=fun _=>True) (AR:=ox) (xs:=cH n v r k)
  (fun i B=>B.blk[A3.blk.length]?=some ⟨bc z32,.var⟩/\B.blk[A4.blk.length]?=some ⟨[.bool false],.var⟩/\∀j p,j<i->(cH n v r k)[j]?=some p->decide (bu n<=fq n v r k p.2)=false)
  (fun z B=>Is z .ret/\∃id,dz n v r k=some id/\B.blk[A3.blk.length]?=some ⟨bc id,.var⟩/\B.blk[A4.blk.length]?=some ⟨[.bool true],.var⟩)
  rfl (fun q=>q) (fun q=>q) ?_ ⟨k2.af p4,k2.af r5,fun j p hj=>by omega⟩ ?_ ?_
  Tryz.func116 Tryz.ntmps116 (by simp) ?_ ?_ ?_
 . intro A0 hf0 kX
   exact AE3 (S:=bS (nwS c A6.blk.length) A6.loops.length) (hf0.wf w6) (h6.fr0 hf0) (hf0.af k3) (hf0.af k4) (hf0.af k5)
 . rintro i B C ⟨b1,b2,b3⟩ hf
   exact⟨hf.bK b1,hf.bK b2,b3⟩
 . rintro z B C ⟨b0,id,b1,b2,b3⟩ hf
   exact⟨b0,id,b1,hf.bK b2,hf.bK b3⟩
 . rintro i ⟨w,x⟩ B C args hi ⟨c1,c2,c3⟩ hBC hf rfl
   refine⟨_,rfl,?_⟩
   have hx:x.length=32:=by
    have e:x=v r.toNat k.toNat w:=(AE4 (List.mem_of_getElem? hi)).1
    rw[e];exact h.len _ _ _
   obtain⟨D,t1,t2,t3⟩:=AN5 (A:=C) hx
   simp only[RT,Q0,Q1,Q2,Q3,Q4,Q5,Q6,Q7,Q8,A59,t1]
   refine⟨rfl,t2.oz,fun E hE=>?_⟩
   have hfE:Fr (bS (nwS c A6.blk.length) A6.loops.length) A6 E:=(hf.ab t2).trans hE fun z q=>.inl (.inr q)
   have g1:=hE.bK (t2.af (hBC.af c1))
   have g2:=hE.bK (t2.af (hBC.af c2))
   have g3:=hE.bK t3
   have hE6:=h6.sG hfE hcv
   have y1:=keepB hfE (by omega) (k2.af p1)
   have y2:=keepB hfE (by omega) (k2.af p2)
   have y3:=keepB hfE (by omega) (k2.af p3)
   obtain⟨_,G,m1,m2,rfl⟩:=A63 (r:=r) (k:=k) (id:=x) (hfE.wf w6) hE6 hx
   obtain⟨_,_,j1,rfl,rfl⟩:=Av6 (A:=G) h.ok
   simp only[RT,Q0,Q1,Q2,Q3,Q4,Q5,Q6,Q7,Q8,BD8,ldp y1,ldr y2,ldk y3,Ai8 g3 hx,(Br7 cp).1,ldC hE6,Aa1]
   refine Aa0 m1 ?_
   simp only[RT,Q0,Q1,Q2,Q3,Q4,Q5,Q6,Q7,Q8]
   refine⟨Aa5 (ha:=rfl) rfl (ldp (m2.af y1)) rfl <| Aa5 (ha:=rfl) rfl (ldC (hE6.fr0 m2)) rfl Aa1,?_⟩
   refine Aa0 j1 ?_
   have hle:(((fq n v r k x:Nat):Int)>=(bu n:Int))↔bu n<=fq n v r k x:=by omega
   by_cases q:bu n<=fq n v r k x
   . have nv:dz n v r k=some x:=by
      unfold dz
      rw[Bh2 hi (by simpa using q) (fun j y hj hy=>c3 j y hj hy)];rfl
     have gG:=Ai8 (m2.af g3) hx
     obtain⟨H1,u1,u2,u3⟩:=AJ0 (m2.af g1) Aa9 hx
     have ne34:A3.blk.length≠A4.blk.length:=by omega
     obtain⟨H2,u5,u6,u7,u8⟩:=Ai6 (P:=TP) (t:=4) (x:=.bool true) (u2.aq (m2.af g2) (fun q=>ne34 q.symm)) rfl sz4 rfl
     simp only[RT,Q0,Q1,Q2,Q3,Q4,Q5,Q6,Q7,Q8,DT (hle.2 q),Aa1,gG,u1,u5]
     refine⟨((m2.oz.trans u2 fun z q=>.inl (by subst q;exact .inl (by rw[hc];exact .inl rfl))).trans u6 fun z q=>.inl (by subst q;exact .inl (by rw[hc];exact .inr rfl))),.inr ⟨by simp,rfl,x,nv,u6.aq u3 ne34,u7⟩⟩
   . simp only[RT,Q0,Q1,Q2,Q3,Q4,Q5,Q6,Q7,Q8,DF (fun z=>q (hle.1 z)),Aa1]
     refine⟨m2.oz,.inl ⟨rfl,⟨m2.af g1,m2.af g2,fun j p hj hp=>?_⟩,fun b hb=>?_⟩⟩
     . rcases Nat.lt_or_ge j i with z |z
       . exact c3 j p z hp
       . have:j=i:=by omega
         subst this
         rw[hi]at hp;cases hp
         exact DF q
     . rw[h6.eN (hfE.ab m2) hnr hb,h6.eN hf hnr hb]
 . rintro B C ⟨c1,c2,c3⟩ hBC lM hf
   have hBC:Fr (·=.loop A6.loops.length) B C:=hBC.mono fun z q=>q.elim (fun q=>q.elim) (fun q=>q)
   have g1:=hBC.bK c1
   have g2:=hBC.bK c2
   have hno:dz n v r k=none:=by
    unfold dz
    rw[iS fun j y hy=>c3 j y (LG.1 hy).1 hy];rfl
   obtain⟨H1,u1,u2,u3⟩:=AJ0 g1 Aa9 Aa9
   have ne34:A3.blk.length≠A4.blk.length:=by omega
   obtain⟨H2,u5,u6,u7,u8⟩:=Ai6 (P:=TP) (t:=4) (x:=.bool false) (u2.aq g2 (fun q=>ne34 q.symm)) rfl sz4 rfl
   have ld7:aa TP 4 (.ptr A4.blk.length 0) H2=some (.bool false):=Ab7 ag4 u7
   simp only[RT,Q0,Q1,Q2,Q3,Q4,Q5,Q6,Q7,Q8,Ad8,u1,u5,Ai8 (u6.aq u3 ne34) Aa9,ld7]
   refine⟨((f6.trans hf fun z q=>.inr (AS2 f6 (fun b q=>by rw[hc]at q;omega) q)).ar u2 (by omega)).ar u6 (by omega),by rw[hno];rfl⟩
 . rintro z C hz ⟨rfl,id,hid,g1,g2⟩ hf
   have hl:=AE5 h hid
   have ld7:aa TP 4 (.ptr A4.blk.length 0) C=some (.bool true):=Ab7 ag4 g2
   simp only[RT,Q0,Q1,Q2,Q3,Q4,Q5,Q6,Q7,Q8,Ai8 g1 hl,ld7]
   exact⟨f6.trans hf fun z q=>.inr (AS2 f6 (fun b q=>by rw[hc]at q;omega) q),by rw[hid];rfl⟩
end
end Go.Sv.Tryz
namespace Go.Sv.Tryz
open Go Go.Proofs
theorem An1{a b:Int}(h1:-9223372036854775808<=a-b)(h2:a-b<=9223372036854775807):IntKind.i64.wrap (a-b)=a-b:=Ac6 h1 h2
theorem A02{n:Nat}{v:Vt}{r k w left:Nat}:dO n v r (k+1) w left=if iK v r w then(if left-1=0 then true else if left-1>n-1-w then false else dO n v r k (w+1) (left-1))else dO n v r k (w+1) left:=rfl
section
variable {A A':AS} {cp n:Nat} {v:Vt} {vb:Nat->Nat}
set_option maxRecDepth 10000 in
set_option maxHeartbeats 16000000 in
theorem Ba8{now:Int}(h:bq A cp n v vb)(hn:-1<=now):
 ∃w A',EvF TP HH 103 [.ptr cp 0,.int .i64 now] A w A'/\A'=A/\w=.tup [.int .i64 (((cU n v now).getD 0:Nat):Int),.bool (cU n v now).isSome]:=by
 refine Aa4 rfl Tryz.func103 (by unfold Tryz.f103;rfl) Tryz.ntmps103 (by unfold Tryz.f103;rfl) (by simp) ?_
 simp only[RT,Q0,Q1,Q2,Q3,Q4,Q5,Q6,Q7,Q8]
 have hsm:=h.small
 have hld:=ldC h
 have hfa:=Br7 cp
 refine Aa6 (fun z e B=>Is B A/\e.get 0=.ptr cp 0/\e.get 1=.int .i64 now/\∃r:Nat,z=r/\r<=12/\e.get 6=.int .i64 ((r:Int)-1)/\cU n v now=dV n v now r)
  (fun z e B=>Is B A/\(Is z (.exit 0)/\cU n v now=none∨Is z .ret/\e.get 4=.int .i64 (((cU n v now).getD 0:Nat):Int)/\e.get 5=.bool (cU n v now).isSome))
  ⟨_,rfl,rfl,rfl,12,rfl,by omega,rfl,rfl⟩ ?_ ?_
 rotate_left
 . rintro z e B hz ⟨hB,⟨rfl,hno⟩ |⟨rfl,h4,h5⟩⟩<;>obtain rfl:A=B:=hB.symm
   . simp only[RT,Q0,Q1,Q2,Q3,Q4,Q5,Q6,Q7,Q8]
     rw[hno];rfl
   . simp only[RT,Q0,Q1,Q2,Q3,Q4,Q5,Q6,Q7,Q8,h4,h5]
 rintro z e B ⟨hB,h0,h1,r,hz,hr,h6,ha⟩
 obtain rfl:A=B:=hB.symm
 obtain rfl:r=z:=hz.symm
 simp only[RT,Q0,Q1,Q2,Q3,Q4,Q5,Q6,Q7,Q8,h6,h1]
 have out:¬((r:Int)-1>now/\(r:Int)-1>=0)->cU n v now=none:=fun q=>by
  rw[ha]
  cases r with
  |zero=>rfl
  |succ r=>unfold dV;rw[if_neg (by omega)]
 by_cases q1:(r:Int)-1>now
 rotate_left
 . simp only[RT,Q0,Q1,Q2,Q3,Q4,Q5,Q6,Q7,Q8,DF q1]
   exact⟨rfl,.inl ⟨rfl,out (fun q=>q1 q.1)⟩⟩
 by_cases q2:(r:Int)-1>=0
 rotate_left
 . simp only[RT,Q0,Q1,Q2,Q3,Q4,Q5,Q6,Q7,Q8,DT q1,h6,DF q2]
   exact⟨rfl,.inl ⟨rfl,out (fun q=>q2 q.2)⟩⟩
 obtain⟨r,rfl⟩:∃r':Nat,r=r'+1:=⟨r-1,by omega⟩
 have er:((r+1:Nat):Int)-1=r:=by omega
 rw[er]at h6 q1 q2
 rw[er]
 have hi:r<12:=by omega
 have har:cU n v now=if dO n v r n 0 (dc n+1)=true then some r else dV n v now r:=by
  rw[ha,show dV n v now (r+1)=if (r:Int)>now then(if dO n v r n 0 (dc n+1)then some r else dV n v now r)else none from rfl,if_pos q1]
 simp only[RT,Q0,Q1,Q2,Q3,Q4,Q5,Q6,Q7,Q8,DT q1,h6,DT q2,h0,hfa,hld]
 obtain⟨_,_,k1,hA,rfl⟩:=Au1 (A:=A) (n:=n) (by omega) (by omega)
 rw[hA]at k1
 refine Aa0 k1 ?_
 rw[AD4 h.ok]
 have hfl:dc n<=2:=by unfold dc;omega
 simp only[RT,Q0,Q1,Q2,Q3,Q4,Q5,Q6,Q7,Q8,Ac2 (show dc n<9223372036854775807 by omega),h0,hfa,hld]
 have hr0:=Bg0 h hi (j:=0) (by omega)
 have hr1:=Bg0 h hi (j:=1) (by omega)
 have ix0:aj TP 170 (.ptr cp (1+r*2)) (.int .i64 0)=some (.ptr cp (1+r*2+0)):=BF0 (b:=cp) (i:=r) (j:=0) (by omega)
 have ix1:aj TP 170 (.ptr cp (1+r*2)) (.int .i64 1)=some (.ptr cp (1+r*2+1)):=BF0 (b:=cp) (i:=r) (j:=1) (by omega)
 have ls0:=ldS h hi (j:=0) (by omega)
 have ls1:=ldS h hi (j:=1) (by omega)
 refine Aa6 (fun z e B=>Is B A/\e.get 0=.ptr cp 0/\e.get 1=.int .i64 now/\e.get 6=.int .i64 r/\e.get 27=.int .i64 n/\∃(w left:Nat),z=n-w/\w<=n/\e.get 28=.int .i64 w/\1<=left/\left<=3/\e.get 7=.int .i64 left/\dO n v r n 0 (dc n+1)=dO n v r (n-w) w left)
  (fun z e B=>Is B A/\e.get 0=.ptr cp 0/\e.get 1=.int .i64 now/\e.get 6=.int .i64 r/\((Is z (.exit 2)∨Is z (.exit 1))/\dO n v r n 0 (dc n+1)=false∨Is z .ret/\dO n v r n 0 (dc n+1)=true/\e.get 4=.int .i64 r/\e.get 5=.bool true))
  ⟨_,rfl,h0,h1,h6,rfl,0,dc n+1,rfl,by omega,rfl,by omega,by omega,rfl,rfl⟩ ?_ ?_
 rotate_left
 . rintro z e B hz ⟨hB,h0,h1,h6,⟨rfl |rfl,hno⟩ |⟨rfl,hy,h4,h5⟩⟩<;>obtain rfl:A=B:=hB.symm
   . rw[if_neg (by rw[hno];simp)]at har
     simp only[RT,Q0,Q1,Q2,Q3,Q4,Q5,Q6,Q7,Q8,h6]
     exact⟨r,by omega,rfl,h0,h1,r,rfl,by omega,by rw[An1 (by omega) (by omega)],har⟩
   . rw[if_neg (by rw[hno];simp)]at har
     simp only[RT,Q0,Q1,Q2,Q3,Q4,Q5,Q6,Q7,Q8,h6]
     exact⟨r,by omega,rfl,h0,h1,r,rfl,by omega,by rw[An1 (by omega) (by omega)],har⟩
   . rw[if_pos hy]at har
     simp only[RT,Q0,Q1,Q2,Q3,Q4,Q5,Q6,Q7,Q8]
     rw[har]
     exact⟨rfl,.inr ⟨rfl,h4,h5⟩⟩
 rintro z e B ⟨hB,h0,h1,h6,h27,w,left,rfl,hwn,h28,hl1,hl3,h7,hW⟩
 obtain rfl:A=B:=hB.symm
 simp only[RT,Q0,Q1,Q2,Q3,Q4,Q5,Q6,Q7,Q8,h27,h28]
 refine Aa8 (fun g=>?_) (fun g=>?_)
 rotate_left
 . have e:w=n:=by omega
   subst e
   rw[Nat.sub_self]at hW
   simp only[RT,Q0,Q1,Q2,Q3,Q4,Q5,Q6,Q7,Q8]
   exact⟨rfl,h0,h1,h6,.inl ⟨.inl rfl,hW⟩⟩
 have hw:w<n:=by omega
 obtain⟨d,hd⟩:∃d,n-w=d+1:=⟨n-w-1,by omega⟩
 have hdn:n-(w+1)=d:=by omega
 have hW2:=hW
 rw[hd,A02]at hW2
 have lv0:=ldV hr0 (fun w=>h.len r 0 w) hw
 have lv1:=ldV hr1 (fun w=>h.len r 1 w) hw
 have fv:=BI1 (vb (r*2+0)) (w*33)
 have fv1:=BI1 (vb (r*2+1)) (w*33)
 simp only[RT,Q0,Q1,Q2,Q3,Q4,Q5,Q6,Q7,Q8]
 by_cases qv:iK v r w
 rotate_left
 . have z0:v r 0 w=z32:=Decidable.not_not.1 fun q=>qv (.inl q)
   have z1:v r 1 w=z32:=Decidable.not_not.1 fun q=>qv (.inr q)
   rw[if_neg qv,<- hdn]at hW2
   simp only[RT,Q0,Q1,Q2,Q3,Q4,Q5,Q6,Q7,Q8,h0,h6,h28,hfa,Br8 hi,ix0,ix1,ls0,ls1,BF1 hw,fv,fv1,lv0,lv1,DF (show ¬v r 0 w≠z32 from fun q=>q z0),DF (show ¬v r 1 w≠z32 from fun q=>q z1)]
   exact⟨n-(w+1),by omega,rfl,h1,h27,w+1,left,rfl,by omega,by rw[Ac2 (by omega)],hl1,hl3,h7,hW2⟩
 rw[if_pos qv]at hW2
 refine Bf1 (fun z e B=>Is z .normal/\Is B A/\e.get 0=.ptr cp 0/\e.get 1=.int .i64 now/\e.get 6=.int .i64 r/\e.get 27=.int .i64 n/\e.get 28=.int .i64 w/\e.get 7=.int .i64 left/\e.get 8=.int .i64 w) ?_ ?_
 . by_cases z0:v r 0 w=z32
   . have z1:v r 1 w≠z32:=fun q=>qv.elim (fun y=>y z0) (fun y=>y q)
     simp only[RT,Q0,Q1,Q2,Q3,Q4,Q5,Q6,Q7,Q8,h0,h6,h28,hfa,Br8 hi,ix0,ix1,ls0,ls1,BF1 hw,fv,fv1,lv0,lv1,DF (show ¬v r 0 w≠z32 from fun q=>q z0),DT z1]
     and_intros<;>first |rfl |assumption
   . simp only[RT,Q0,Q1,Q2,Q3,Q4,Q5,Q6,Q7,Q8,h0,h6,h28,hfa,Br8 hi,ix0,ix1,ls0,ls1,BF1 hw,fv,fv1,lv0,lv1,DT z0]
     and_intros<;>first |rfl |assumption
 . clear h0 h1 h6 h27 h28 h7
   rintro z e B ⟨rfl,hB,h0,h1,h6,h27,h28,h7,h8⟩
   obtain rfl:A=B:=hB.symm
   simp only[RT,Q0,Q1,Q2,Q3,Q4,Q5,Q6,Q7,Q8,h7,An1 (show(-9223372036854775808:Int)<=left-1 by omega) (by omega)]
   by_cases y1:left-1=0
   . rw[if_pos y1]at hW2
     simp only[RT,Q0,Q1,Q2,Q3,Q4,Q5,Q6,Q7,Q8,DT (show((left:Int)-1=0) by omega),h6]
     exact⟨rfl,h0,h1,.inr ⟨rfl,hW2⟩⟩
   . rw[if_neg y1]at hW2
     simp only[RT,Q0,Q1,Q2,Q3,Q4,Q5,Q6,Q7,Q8,DF (show ¬((left:Int)-1=0) by omega),h0,hfa,hld,h8,An1 (a:=n) (b:=1) (by omega) (by omega),An1 (a:=(n:Int)-1) (b:=w) (by omega) (by omega)]
     by_cases y2:left-1>n-1-w
     . rw[if_pos y2]at hW2
       simp only[RT,Q0,Q1,Q2,Q3,Q4,Q5,Q6,Q7,Q8,DT (show((left:Int)-1>(n:Int)-1-w) by omega)]
       exact⟨rfl,h0,h1,h6,.inl ⟨.inr rfl,hW2⟩⟩
     . rw[if_neg y2,<- hdn]at hW2
       simp only[RT,Q0,Q1,Q2,Q3,Q4,Q5,Q6,Q7,Q8,DF (show ¬((left:Int)-1>(n:Int)-1-w) by omega),h28]
       exact⟨n-(w+1),by omega,rfl,h0,h1,h6,h27,w+1,left-1,rfl,by omega,by rw[Ac2 (by omega)],by omega,by omega,by rw[show((left-1:Nat):Int)=(left:Int)-1 by omega],hW2⟩
end
end Go.Sv.Tryz
namespace Go.Sv.Tryz
open Go Go.Proofs
theorem B02(n:Int):au TP 173 [(0,.int .i64 n)]=some (.agg (.int .i64 n::List.replicate 24 .ah)):=by kernel_rfl
theorem Cy8{n:Nat}(h:okN n):msl TP 169 (some (.int .i64 (n:Int))) (some (.int .i64 (n:Int)))=some (.aB (hU n fun _=>z32) n 33):=by
 rcases h with rfl |rfl |rfl<;>kernel_rfl
def jN(n:Nat)(vb:Nat->Nat)(m:Nat):List (List V):=[[.int .i64 n],eH 24 fun a=>[if a<m then .sl (vb a) 0 n 33 else .ah]]
theorem AT7{n:Nat}{vb:Nat->Nat}{m:Nat}:(jN n vb m).map List.length=[1,24]:=by
 have:=Af5 (n:=24) (k:=1) (f:=fun a=>[if a<m then V.sl (vb a) 0 n 33 else .ah]) (fun _ _=>rfl)
 simp only[jN,List.map_cons,List.map_nil,this,List.length_singleton]
structure MkC(A0 A:AS)(cp n:Nat)(vb:Nat->Nat)(m:Nat):Prop where
 fr:Fr S0 A0 A
 cn:A0.blk.length<=cp
 box:A.blk[cp]?=some ⟨(jN n vb m).flatten,.var⟩
 row:∀a,a<m->A.blk[vb a]?=some ⟨hU n fun _=>z32,.arr (vb a) 0⟩/\fN A (vb a) (vb a)/\A0.blk.length<=vb a
 inj:∀a b,a<m->b<m->vb a=vb b->a=b
theorem MkC.step{A0 A:AS}{cp n:Nat}{vb:Nat->Nat}{m:Nat}(h:MkC A0 A cp n vb m)(hw:WF A0)(hm:m<24):
 ∃A',ag TP 169 (.ptr cp (1+m)) (.sl A.blk.length 0 n 33) (A.push ⟨hU n fun _=>z32,.arr A.blk.length 0⟩)=some A'/\MkC A0 A' cp n (fun a=>if a=m then A.blk.length else vb a) (m+1):=by
 have f1:=Fr.aF A (hU n fun _=>z32)
 have wA:=h.fr.wf hw
 have r1:=Ab9 A ⟨hU n fun _=>z32,.arr A.blk.length 0⟩
 have so1:=fN.new (cs:=hU n fun _=>z32) wA
 obtain⟨B,hB⟩:∃B,B=A.push ⟨hU n fun _=>z32,.arr A.blk.length 0⟩:=⟨_,rfl⟩
 rw[<- hB]at f1 r1 so1 ⊢
 have b1:=f1.af h.box
 have h1:∀i,i<24->([if i<m then V.sl (vb i) 0 n 33 else .ah]:List V).length=1:=fun _ _=>rfl
 have hat:=At.part (L:=jN n vb m) (i:=1) rfl
 rw[AT7]at hat
 have hat:At (jN n vb m).flatten 1 (eH 24 fun a=>[if a<m then .sl (vb a) 0 n 33 else .ah]):=hat
 have hle:=hat.le
 rw[Af5 (k:=1) h1]at hle
 obtain⟨C,s1,s2,s3,s4⟩:=Ab1 (P:=TP) (t:=169) (o:=1+m) (x:=.sl A.blk.length 0 n 33) b1 rfl Cf2 (by show 1+m+1<=_;omega) rfl
 rw[Ao7 hat (by rw[Af5 (k:=1) h1];simp;omega)]at s3
 have e1:=Ay0 (k:=1) h1 hm (c:=[.sl A.blk.length 0 n 33]) rfl
 rw[Nat.mul_one]at e1
 rw[e1]at s3
 have e2:(eH 24 fun j=>if j=m then [V.sl A.blk.length 0 n 33] else [if j<m then V.sl (vb j) 0 n 33 else .ah])=eH 24 fun a=>[if a<m+1 then V.sl (if a=m then A.blk.length else vb a) 0 n 33 else .ah]:=Ao9 fun a _=>by
  by_cases q:a=m
  . subst q;simp
  . rw[if_neg q,if_neg q]
    by_cases w:a<m
    . rw[if_pos w,if_pos (by omega)]
    . rw[if_neg w,if_neg (by omega)]
 rw[e2]at s3
 have e3:=Ao8 (L:=jN n vb m) (i:=1) (c:=eH 24 fun a=>[if a<m then .sl (vb a) 0 n 33 else .ah]) (c':=eH 24 fun a=>[if a<m+1 then V.sl (if a=m then A.blk.length else vb a) 0 n 33 else .ah]) rfl (by rw[Af5 (k:=1) h1,Af5 (k:=1) (fun _ _=>rfl)])
 rw[AT7]at e3
 have e3:putAt (jN n vb m).flatten 1 (eH 24 fun a=>[if a<m+1 then V.sl (if a=m then A.blk.length else vb a) 0 n 33 else .ah])=(jN n (fun a=>if a=m then A.blk.length else vb a) (m+1)).flatten:=e3
 rw[e3]at s3
 have hcp:cp<A.blk.length:=Ab3 h.box
 have hlen:=h.fr.len
 refine⟨C,s1,(h.fr.ab f1).ar s2 h.cn,h.cn,s3,fun a ha=>?_,fun a b ha hb q=>?_⟩
 . by_cases z:a=m
   . subst z
     rw[if_pos rfl]
     exact⟨s2.aq r1 (by omega),so1.fr s2 (fun q=>by cases q),hlen⟩
   . rw[if_neg z]
     obtain⟨y1,y2,y3⟩:=h.row a (by omega)
     have hne:vb a≠cp:=fun q=>by rw[q,h.box]at y1;simp at y1
     exact⟨s2.aq (f1.af y1) hne,(y2.fr f1 (fun q=>q)).fr s2 (fun q=>by cases q),y3⟩
 . have q:(if a=m then A.blk.length else vb a)=(if b=m then A.blk.length else vb b):=q
   have lt:∀a,a<m->vb a<A.blk.length:=fun a ha=>Ab3 (h.row a ha).1
   by_cases z:a=m<;>by_cases y:b=m
   . omega
   . rw[if_pos z,if_neg y]at q
     have:=lt b (by omega);omega
   . rw[if_neg z,if_pos y]at q
     have:=lt a (by omega);omega
   . rw[if_neg z,if_neg y]at q
     exact h.inj a b (by omega) (by omega) q
theorem MkC.done{A0 A:AS}{cp n:Nat}{vb:Nat->Nat}(h:MkC A0 A cp n vb 24)(hn:okN n):bq A cp n v0 vb where
 box:=by
  have:=h.box
  rw[this]
  show some (⟨(jN n vb 24).flatten,.var⟩:Blk)=some ⟨(kT n vb).flatten,.var⟩
  have e:jN n vb 24=kT n vb:=by
   unfold jN kT
   rw[Ao9 (g:=fun j=>[V.sl (vb j) 0 n 33]) fun a ha=>by rw[if_pos ha]]
  rw[e]
 row:=fun j hj=>(h.row j hj).1
 mN:=fun j hj=>(h.row j hj).2.1
 inj:=fun i j hi hj q=>h.inj i j hi hj q
 ok:=hn
 len:=fun _ _ _=>rfl
set_option maxRecDepth 10000 in
set_option maxHeartbeats 16000000 in
theorem AE6{A:AS}{n:Int}(hw:WF A)(h0:-9223372036854775808<=n)(h1:n<=9223372036854775807):
 ∃w A',EvF TP HH 62 [.int .i64 n] A w A'/\Fr S0 A A'/\(fT n<0/\w=.tup [.eg,.int .i64 1]∨∃(m:Nat) (cp:Nat) (vb:Nat->Nat),n=m/\okN m/\w=.tup [.ptr cp 0,.int .i64 0]/\bq A' cp m v0 vb/\A.blk.length<=cp/\∀j,j<24->A.blk.length<=vb j):=by
 refine Aa4 rfl Tryz.func62 (by unfold Tryz.f62;rfl) Tryz.ntmps62 (by unfold Tryz.f62;rfl) (by simp) ?_
 simp only[RT,Q0,Q1,Q2,Q3,Q4,Q5,Q6,Q7,Q8]
 obtain⟨_,_,k1,hA,rfl⟩:=Au1 (A:=A) h0 h1
 rw[hA]at k1
 refine Aa0 k1 ?_
 by_cases q:fT n<0
 . simp only[RT,Q0,Q1,Q2,Q3,Q4,Q5,Q6,Q7,Q8,DT q]
   exact⟨.refl _ _,.inl q⟩
 obtain⟨n,rfl,hn⟩:=AS6 q
 simp only[RT,Q0,Q1,Q2,Q3,Q4,Q5,Q6,Q7,Q8,DF q,B02]
 obtain⟨A1,e1,f1,r1,n1⟩:=Aa3 A (.int .i64 n::List.replicate 24 .ah)
 rw[<- e1]
 obtain⟨cp,hcp⟩:∃b,b=A.blk.length:=⟨_,rfl⟩
 rw[<- hcp]at r1 ⊢
 have M0:MkC A A1 cp n (fun _=>0) 0:=⟨f1,by omega,r1,fun _ ha=>by omega,fun _ _ ha=>by omega⟩
 have hfa:=Br7 cp
 refine Aa6 (fun z e B=>e.get 0=.int .i64 n/\e.get 4=.ptr cp 0/\∃(i:Nat) (vb:Nat->Nat),z=12-i/\i<=12/\e.get 13=.int .i64 i/\MkC A B cp n vb (i*2))
  (fun z e B=>Is z (.exit 0)/\e.get 4=.ptr cp 0/\∃vb,MkC A B cp n vb 24)
  ⟨_,rfl,rfl,0,_,rfl,by omega,rfl,M0⟩ ?_ ?_
 rotate_left
 . rintro z e B hz ⟨rfl,h4,vb,hM⟩
   simp only[RT,Q0,Q1,Q2,Q3,Q4,Q5,Q6,Q7,Q8,h4]
   exact⟨hM.fr,.inr ⟨n,cp,vb,rfl,hn,rfl,hM.done hn,by omega,fun j hj=>by have:=(hM.row j hj).2.2;omega⟩⟩
 rintro z e B ⟨h0,h4,i,vb,rfl,hi,h13,hM⟩
 simp only[RT,Q0,Q1,Q2,Q3,Q4,Q5,Q6,Q7,Q8,h13]
 refine Aa8 (fun g=>?_) (fun g=>?_)
 rotate_left
 . have:i=12:=by omega
   subst this
   simp only[RT,Q0,Q1,Q2,Q3,Q4,Q5,Q6,Q7,Q8]
   exact⟨rfl,h4,vb,hM⟩
 have dW:i<12:=by omega
 simp only[RT,Q0,Q1,Q2,Q3,Q4,Q5,Q6,Q7,Q8,h13]
 refine Aa6 (fun z e B=>e.get 0=.int .i64 n/\e.get 4=.ptr cp 0/\e.get 5=.int .i64 i/\e.get 13=.int .i64 i/\∃(j:Nat) (vb:Nat->Nat),z=2-j/\j<=2/\e.get 16=.int .i64 j/\MkC A B cp n vb (i*2+j))
  (fun z e B=>Is z (.exit 2)/\e.get 0=.int .i64 n/\e.get 4=.ptr cp 0/\e.get 13=.int .i64 i/\∃vb,MkC A B cp n vb (i*2+2))
  ⟨_,h0,h4,rfl,h13,0,vb,rfl,by omega,rfl,hM⟩ ?_ ?_
 rotate_left
 . rintro z e B hz ⟨rfl,h0,h4,h13,vb,hM⟩
   simp only[RT,Q0,Q1,Q2,Q3,Q4,Q5,Q6,Q7,Q8,h13]
   exact⟨12-(i+1),by omega,h0,h4,i+1,vb,rfl,by omega,by rw[Ac2 (by omega)],by rw[show(i+1)*2=i*2+2 by omega];exact hM⟩
 rintro z e B ⟨h0,h4,h5,h13,j,vb,rfl,hj,h16,hM⟩
 simp only[RT,Q0,Q1,Q2,Q3,Q4,Q5,Q6,Q7,Q8,h16]
 refine Aa8 (fun g=>?_) (fun g=>?_)
 rotate_left
 . have:j=2:=by omega
   subst this
   simp only[RT,Q0,Q1,Q2,Q3,Q4,Q5,Q6,Q7,Q8]
   exact⟨rfl,h0,h4,h13,vb,hM⟩
 have hj2:j<2:=by omega
 obtain⟨C,s1,s2⟩:=hM.step hw (show i*2+j<24 by omega)
 rw[<- Nat.add_assoc]at s1
 simp only[RT,Q0,Q1,Q2,Q3,Q4,Q5,Q6,Q7,Q8,h16]
 rw[BB1,Aa2 (by rfl)]
 simp only[RT,Q0,Q1,Q2,Q3,Q4,Q5,Q6,Q7,Q8,h0,h4,h5,Cy8 hn,hfa,Br8 dW,BF0 hj2,s1,h16]
 exact⟨2-(j+1),by omega,h13,j+1,_,rfl,by omega,by rw[Ac2 (by omega)],s2⟩
end Go.Sv.Tryz
namespace Go.Sv.Tryz
open Go Go.Proofs
structure a4(A:AS)(rp:Nat)(r:Rd)(cp:Nat)(vb:Nat->Nat)(fk fa:Option Nat):Prop where
 box:∃kv av,A.blk[rp]?=some ⟨dP r kv av cp,.var⟩/\Lst eId Hp.emp A kv r.known fk/\Lst dp Hp.emp A av r.al fa
 cnt:bq A cp r.n r.v vb
 ok:Rok r
 rc:rp≠cp
 ne1:∀f,fk=some f->fa≠some f
 ne2:∀j,j<24->fk≠some (vb j)/\fa≠some (vb j)
def rdS(A:AS)(rp:Nat)(vb:Nat->Nat)(fk fa:Option Nat):Loc->Prop:=fun x=>x=.row rp∨vbS vb x∨aI A fk x∨aI A fa x
theorem a4.fr{A A':AS}{rp cp:Nat}{r:Rd}{vb:Nat->Nat}{fk fa:Option Nat}{S:Loc->Prop}(h:a4 A rp r cp vb fk fa)(hf:Fr S A A')(h1:¬S (.row rp))(h2:¬S (.row cp))(h3:∀j,j<24->¬S (.row (vb j))/\¬S (.fam (vb j)))(h4:Off fk A S)(h5:Off fa A S):a4 A' rp r cp vb fk fa:=by
 obtain⟨kv,av,b1,b2,b3⟩:=h.box
 exact { h with box:=⟨kv,av,hf.row _ _ b1 h1,b2.fr hf h4,b3.fr hf h5⟩,cnt:=h.cnt.fr hf h2 h3 }
theorem a4.fr0{A A':AS}{rp cp:Nat}{r:Rd}{vb:Nat->Nat}{fk fa:Option Nat}(h:a4 A rp r cp vb fk fa)(hf:Fr S0 A A'):a4 A' rp r cp vb fk fa:=h.fr hf (fun q=>q) (fun q=>q) (fun _ _=>⟨fun q=>q,fun q=>q⟩) .s0 .s0
theorem AO2{A B:AS}{S:Loc->Prop}{rp:Nat}{vb:Nat->Nat}{fk fa fk' fa':Option Nat}(hf:Fr S A B)(g1:Gr A fk fk')(g2:Gr A fa fa')(hw:WF A)(hw':WF B){x:Loc}(h:rdS B rp vb fk' fa' x):rdS A rp vb fk fa x∨x.dK A:=by
 have key:∀{fo fo':Option Nat},Gr A fo fo'->aI B fo' x->aI A fo x∨x.dK A:=by
  intro fo fo' g q
  rcases g with rfl |⟨rfl,f,rfl,hfl⟩
  . exact Ae7 hf q
  . rcases Ae7 hf q with q |q
    . right
      cases x with
      |row b=>obtain⟨k,base,z1,z2⟩:=q;have:=hw b k _ base z1 z2;omega
      |fam g=>show A.blk.length<=g;rw[show g=f from q];exact hfl
      |map r=>exact q.elim
      |loop r=>exact q.elim
      |it r=>exact q.elim
    . exact .inr q
 rcases h with h |h |h |h
 . exact .inl (.inl h)
 . exact .inl (.inr (.inl h))
 . exact(key g1 h).imp (fun q=>.inr (.inr (.inl q))) id
 . exact(key g2 h).imp (fun q=>.inr (.inr (.inr q))) id
def aJ(A:AS)(rp cp:Nat)(vb:Nat->Nat)(fk fa:Option Nat)(A':AS)(r':Rd):Prop:=∃fk' fa',Fr (rdS A rp vb fk fa) A A'/\Gr A fk fk'/\Gr A fa fa'/\a4 A' rp r' cp vb fk' fa'
section
variable {A A' B:AS} {rp cp:Nat} {r r':Rd} {vb:Nat->Nat} {fk fa fk' fa':Option Nat} {kv av:V}
theorem aJ.da(h:a4 A rp r cp vb fk fa):aJ A rp cp vb fk fa A r:=⟨fk,fa,.refl _ _,.inl rfl,.inl rfl,h⟩
theorem aJ.of0(h:a4 A rp r cp vb fk fa)(hf:Fr S0 A B):aJ A rp cp vb fk fa B r:=⟨fk,fa,hf.mono fun _ q=>q.elim,.inl rfl,.inl rfl,h.fr0 hf⟩
theorem aJ.next(hw:WF A)(hf:Fr (rdS A rp vb fk fa) A B)(g1:Gr A fk fk')(g2:Gr A fa fa')(k:aJ B rp cp vb fk' fa' A' r'):aJ A rp cp vb fk fa A' r':=by
 obtain⟨fk2,fa2,k1,k2,k3,k4⟩:=k
 exact⟨fk2,fa2,hf.trans k1 fun x q=>AO2 hf g1 g2 hw (hf.wf hw) q,g1.trans k2 hf.len,g2.trans k3 hf.len,k4⟩
theorem aJ.br(hw:WF A)(hf:Fr S0 A B)(k:aJ B rp cp vb fk fa A' r'):aJ A rp cp vb fk fa A' r':=k.next hw (hf.mono fun _ q=>q.elim) (.inl rfl) (.inl rfl)
theorem a4.upd(h:a4 A rp r cp vb fk fa)(hb:A.blk[rp]?=some ⟨dP r kv av cp,.var⟩)(hk:Lst eId Hp.emp A kv r.known fk)(ha:Lst dp Hp.emp A av r.al fa)(hf:Fr (·=.row rp) A B)(hB:B.blk[rp]?=some ⟨dP r' kv av cp,.var⟩)
 (e1:r'.known=r.known) (e2:r'.al=r.al) (e3:r'.n=r.n) (e4:r'.v=r.v) (hok:Rok r'):a4 B rp r' cp vb fk fa:=by
 refine { box:=⟨kv,av,hB,by rw[e1];exact hk.fr hf (.box hb),by rw[e2];exact ha.fr hf (.box hb)⟩,cnt:=?_,ok:=hok,rc:=h.rc,ne1:=h.ne1,ne2:=h.ne2 }
 rw[e3,e4]
 exact h.cnt.fr hf (fun q=>h.rc (by injection q with q;exact q.symm)) fun j hj=>⟨fun q=>h.cnt.ju hj hb (by injection q),fun q=>by cases q⟩
theorem aJ.upd(hf:Fr (·=.row rp) A B)(h:a4 B rp r' cp vb fk fa):aJ A rp cp vb fk fa B r':=⟨fk,fa,hf.mono fun _ q=>.inl q,.inl rfl,.inl rfl,h⟩
theorem Ci3{a:Act}(h:a.id.length=32):bsl TP 81 1 (some [(0,.agg (aX a))])=some (.aB (aX a) 1 36):=Av2 Tryz.underlying81 Br0 BW9 rfl (Aj2 h) (by decide)
theorem Cy9{b:Nat}{k:BK}{a:Act}(hb:A.blk[b]?=some ⟨aX a,k⟩)(h:a.id.length=32):aa TP 123 (.ptr b 0) A=some (.agg (aX a)):=At.load hb (At.all _) Ce4 Br0 (Aj2 h)
set_option maxRecDepth 10000 in
set_option maxHeartbeats 8000000 in
theorem AO3(hw:WF A)(h:a4 A rp r cp vb fk fa){a:Act}(hid:a.id.length=32)(hl:r.al.length<=100000000):∃w A',EvF TP HH 92 [.ptr rp 0,.agg (aX a)] A w A'/\aJ A rp cp vb fk fa A' (r.do_ a):=by
 refine Aa4 rfl Tryz.func92 (by unfold Tryz.f92;rfl) Tryz.ntmps92 (by unfold Tryz.f92;rfl) (by simp) ?_
 simp only[RT,Q0,Q1,Q2,Q3,Q4,Q5,Q6,Q7,Q8]
 obtain⟨A1,e1,f1,r1,n1⟩:=Aa3 A (aX a)
 rw[<- e1]
 have h1:=h.fr0 f1
 have w1:=f1.wf hw
 obtain⟨kv,av,b1,b2,b3⟩:=h1.box
 have ld:=Ap1 b1 h1.ok
 obtain⟨v4,A2,fa',p1,p2,p3,p4⟩:=b3.push (P:=TP) (t:=81) (tx:=81) (n:=36) rfl Cx7 Tryz.underlying81 w1 (y:=a) (cs':=aX a) ⟨rfl,hid⟩ (by omega) (by omega)
 have b4:=p3.row _ _ b1 (Ab0 b1)
 have k4:Lst eId Hp.emp A2 kv r.known fk:=b2.fr p3 (by
  cases fa with
  |none=>exact fun _ q=>q.elim
  |some g=>exact Off.fam fun q=>h.ne1 g q rfl)
 obtain⟨A3,s1,s2,s3⟩:=Cu2 b4 h1.ok p2.one (r.al++[a])
 rw[BW4,Aa2 (by rfl)]
 simp only[RT,Q0,Q1,Q2,Q3,Q4,Q5,Q6,Q7,Q8,(AB9 rp),ld,Cy9 r1 hid,Ci3 hid,p1,s1]
 have hc3:bq A3 cp r.n r.v vb:=by
  refine(h1.cnt.fr p3 (Ab0 h1.cnt.box) fun j hj=>⟨?_,?_⟩).fr s2 (fun q=>h.rc (by injection q with q;exact q.symm)) fun j hj=>⟨fun q=>h1.cnt.ju hj b1 (by injection q),fun q=>by cases q⟩
  . intro q
    cases fa with
    |none=>exact q.elim
    |some g =>
     obtain⟨k,base,z1,z2⟩:=q
     rw[h1.cnt.row j hj]at z1;cases z1;cases z2
     exact(h.ne2 j hj).2 rfl
  . intro q
    cases fa with
    |none=>exact q.elim
    |some g=>exact(h.ne2 j hj).2 (by rw[show vb j=g from q])
 refine aJ.br hw f1 ⟨fk,fa',(p3.mono (S':=rdS A1 rp vb fk fa) fun z q=>.inr (.inr (.inr q))).trans s2 fun z q=>.inl (.inl q),.inl rfl,p4,?_⟩
 refine { box:=⟨kv,v4,s3,k4.fr s2 (.box b4),p2.fr s2 (.box b4)⟩,cnt:=hc3,ok:={ h.ok with },rc:=h.rc,ne1:=fun f q z=>?_,ne2:=fun j hj=>⟨(h.ne2 j hj).1,fun q=>?_⟩ }
 . rcases p4.or z with y |y
   . exact h.ne1 f q y
   . have:=b2.bO f q;omega
 . rcases p4.or q with y |y
   . exact(h.ne2 j hj).2 y
   . have:=h1.cnt.lt hj;omega
set_option maxRecDepth 10000 in
set_option maxHeartbeats 8000000 in
theorem Aw1(hw:WF A)(h:a4 A rp r cp vb fk fa){id:Bts}(hid:id.length=32)(hl:r.known.length<=100000000):∃w A',EvF TP HH 86 [.ptr rp 0,.agg (bc id)] A w A'/\Fr S0 A A'/\w=.bool (decide (id∈r.known)):=by
 refine Aa4 rfl Tryz.func86 (by unfold Tryz.f86;rfl) Tryz.ntmps86 (by unfold Tryz.f86;rfl) (by simp) ?_
 simp only[RT,Q0,Q1,Q2,Q3,Q4,Q5,Q6,Q7,Q8]
 obtain⟨A1,e1,f1,r1,n1⟩:=Aa3 A (bc id)
 rw[<- e1]
 have h1:=h.fr0 f1
 obtain⟨kv,av,b1,b2,b3⟩:=h1.box
 have ld:=Ap1 b1 h1.ok
 have hln:=fun B=>b2.len (P:=TP) Tryz.underlying32 B
 simp only[RT,Q0,Q1,Q2,Q3,Q4,Q5,Q6,Q7,Q8,(AB9 rp),ld,hln]
 refine Aa6 (fun z e B=>Fr S0 A1 B/\e.get 3=.ptr A.blk.length 0/\e.get 10=kv/\e.get 11=.int .i64 r.known.length/\∃i:Nat,z=r.known.length-i/\i<=r.known.length/\e.get 12=.int .i64 i/\¬id∈r.known.take i)
  (fun z e B=>Fr S0 A1 B/\(Is z (.exit 0)/\¬id∈r.known∨Is z .ret/\id∈r.known/\e.get 4=.bool true))
  ⟨_,.refl _ _,rfl,rfl,rfl,0,rfl,by omega,rfl,by simp⟩ ?_ ?_
 rotate_left
 . rintro z e B hz ⟨hf,⟨rfl,hn⟩ |⟨rfl,hy,h4⟩⟩
   . simp only[RT,Q0,Q1,Q2,Q3,Q4,Q5,Q6,Q7,Q8]
     exact⟨f1.ab hf,by rw[DF hn]⟩
   . simp only[RT,Q0,Q1,Q2,Q3,Q4,Q5,Q6,Q7,Q8,h4]
     exact⟨f1.ab hf,by rw[DT hy]⟩
 rintro z e B ⟨hf,h3,h10,h11,i,rfl,hi,h12,hno⟩
 simp only[RT,Q0,Q1,Q2,Q3,Q4,Q5,Q6,Q7,Q8,h11,h12]
 refine Aa8 (fun g=>?_) (fun g=>?_)
 rotate_left
 . simp only[RT,Q0,Q1,Q2,Q3,Q4,Q5,Q6,Q7,Q8]
   have:i=r.known.length:=by omega
   subst this
   rw[List.take_length]at hno
   exact⟨hf,.inl ⟨rfl,hno⟩⟩
 obtain⟨x,hx⟩:=Ac7 (l:=r.known) (i:=i) (by omega)
 obtain⟨b,o,c,g3,g4,g5⟩:=(b2.fr0 hf).at (P:=TP) (k:=.i64) (Hp.ji B) Tryz.underlying32 Ap3 Av4 hx
 obtain⟨rfl,hxl⟩:=Bf8.1 g5
 obtain⟨C,t1,t2,t3⟩:=AN5 (A:=B) hxl
 simp only[RT,Q0,Q1,Q2,Q3,Q4,Q5,Q6,Q7,Q8,h10,h12,g3,g4,A59,t1,Ai8 t3 hxl,h3,Ai8 (t2.af (hf.af r1)) hid,eqZ hxl hid]
 by_cases q:x=id
 . simp only[RT,Q0,Q1,Q2,Q3,Q4,Q5,Q6,Q7,Q8,DT q]
   exact⟨hf.ab t2,.inr ⟨rfl,by rw[<- q];exact List.mem_of_getElem? hx⟩⟩
 . simp only[RT,Q0,Q1,Q2,Q3,Q4,Q5,Q6,Q7,Q8,DF q,h12]
   refine⟨r.known.length-(i+1),by omega,hf.ab t2,h3,h10,h11,i+1,rfl,by omega,by rw[Ac2 (by omega)],fun y=>?_⟩
   rw[Ab6 hx]at y
   rcases List.mem_append.1 y with y |y
   . exact hno y
   . simp at y;exact q y.symm
set_option maxRecDepth 10000 in
set_option maxHeartbeats 8000000 in
theorem AE7(hw:WF A)(h:a4 A rp r cp vb fk fa)(R K:Int):∃w A',EvF TP HH 102 [.ptr rp 0,.int .i64 R,.int .i64 K] A w A'/\Fr S0 A A'/\∃x,x.length=32/\w=.tup [.agg (bc x),.bool (r.sure R K).isSome]/\∀id,r.sure R K=some id->x=id:=by
 refine Aa4 rfl Tryz.func102 (by unfold Tryz.f102;rfl) Tryz.ntmps102 (by unfold Tryz.f102;rfl) (by simp) ?_
 simp only[RT,Q0,Q1,Q2,Q3,Q4,Q5,Q6,Q7,Q8,A59]
 obtain⟨A1,e1,f1,r1,n1⟩:=Aa3 A (bc z32)
 rw[<- e1]
 have h1:=h.fr0 f1
 obtain⟨kv,av,b1,b2,b3⟩:=h1.box
 have ld:=Ap1 b1 h1.ok
 simp only[RT,Q0,Q1,Q2,Q3,Q4,Q5,Q6,Q7,Q8,(AB9 rp),ld]
 obtain⟨_,A2,k1,k2,rfl⟩:=Ba7 (r:=R) (k:=K) (f1.wf hw) h1.cnt
 refine Aa0 k1 ?_
 obtain⟨x,hx⟩:∃x,x=(dz r.n r.v R K).getD z32:=⟨_,rfl⟩
 have hxl:x.length=32:=by
  rw[hx]
  cases q:dz r.n r.v R K with
  |none=>rfl
  |some y=>exact AE5 h1.cnt q
 rw[<- hx]
 obtain⟨A3,t1,t2,t3⟩:=AN5 (A:=A2) hxl
 have r3:=t2.af (k2.af r1)
 have f3:=(f1.ab k2).ab t2
 simp only[RT,Q0,Q1,Q2,Q3,Q4,Q5,Q6,Q7,Q8,A59,t1]
 obtain⟨_,A4,m1,rfl,m2⟩:=Ap4 (A:=A3)
 have ne:A.blk.length≠A2.blk.length:=by have:=k2.len;omega
 cases hs:dz r.n r.v R K with
 |none =>
  have e:r.sure R K=none:=by unfold Rd.sure;rw[hs]
  obtain⟨A5,s1,s2,s3⟩:=AJ0 r3 Aa9 hxl
  simp only[RT,Q0,Q1,Q2,Q3,Q4,Q5,Q6,Q7,Q8,A99,Ai8 t3 hxl,Aa1,Option.isSome_none,s1]
  refine⟨Aa5 (ha:=rfl) rfl (Ai8 t3 hxl) rfl <| Ad0 rfl rfl rfl rfl Aa1,Ad0 rfl rfl rfl rfl Aa1,?_⟩
  simp only[RT,Q0,Q1,Q2,Q3,Q4,Q5,Q6,Q7,Q8,Ai8 s3 hxl]
  exact⟨f3.ar s2 (Nat.le_refl _),x,hxl,by rw[e];rfl,fun id hid=>by rw[e]at hid;cases hid⟩
 |some y =>
  have hxy:x=y:=by rw[hx,hs];rfl
  have hyl:=AE5 h1.cnt hs
  simp only[RT,Q0,Q1,Q2,Q3,Q4,Q5,Q6,Q7,Q8,A99,Ai8 t3 hxl,Aa1,Option.isSome_some]
  refine Aa0 m1 ?_
  have r4:=m2.af r3
  have t4:=m2.af t3
  obtain⟨A5,s1,s2,s3⟩:=AJ0 r4 Aa9 hxl
  simp only[RT,Q0,Q1,Q2,Q3,Q4,Q5,Q6,Q7,Q8]
  refine⟨Aa5 (ha:=rfl) rfl (Ai8 t4 hxl) rfl <| Ac4 rfl rfl rfl rfl rfl (Ai8 t4 hxl) rfl Aa1,?_⟩
  simp only[RT,Q0,Q1,Q2,Q3,Q4,Q5,Q6,Q7,Q8,eqZ hxl Ad3,Aa1,s1]
  refine⟨Ac4 rfl rfl rfl rfl rfl (Ai8 (s2.aq t4 (fun q=>ne q.symm)) hxl) rfl Aa1,?_⟩
  simp only[RT,Q0,Q1,Q2,Q3,Q4,Q5,Q6,Q7,Q8,Ai8 s3 hxl]
  refine⟨(f3.ab m2).ar s2 (Nat.le_refl _),x,hxl,?_,?_⟩
  . unfold Rd.sure;rw[hs];subst hxy
    by_cases q:x=n32
    . simp[q]
    . simp[q]
  . intro id hid
    unfold Rd.sure at hid;rw[hs]at hid
    simp only[]at hid
    split at hid
    . simp at hid
    . cases hid;exact hxy
end
end Go.Sv.Tryz
namespace Go.Sv.Tryz
open Go Go.Proofs
section
variable {A A' B:AS} {rp cp:Nat} {r r':Rd} {vb:Nat->Nat} {fk fa fk' fa':Option Nat} {kv av:V}
theorem Ap6{n h k:Int}(hn:n<=7)(hn0:0<=n)(h0:-9223372036854775808<=h)(h1:h<=9223372036854775807)(k0:-9223372036854775808<=k)(k1:k<=9223372036854775807):
 ∃w A',EvF TP HH 35 [.int .i64 n,.int .i64 h,.int .i64 k] A w A'/\A'=A/\w=.int .i64 (aP n h k):=by
 refine Aa4 rfl Tryz.func35 (by unfold Tryz.f35;rfl) Tryz.ntmps35 (by unfold Tryz.f35;rfl) (by simp) ?_
 unfold aP
 simp only[RT,Q0,Q1,Q2,Q3,Q4,Q5,Q6,Q7,Q8]
 by_cases q1:n<1
 . simp only[RT,Q0,Q1,Q2,Q3,Q4,Q5,Q6,Q7,Q8,DT q1]
   rw[if_pos (.inl q1)]
 by_cases q2:h<0
 . simp only[RT,Q0,Q1,Q2,Q3,Q4,Q5,Q6,Q7,Q8,DF q1,DT q2]
   rw[if_pos (.inr (.inl q2))]
 by_cases q3:k<0
 . simp only[RT,Q0,Q1,Q2,Q3,Q4,Q5,Q6,Q7,Q8,DF q1,DF q2,DT q3]
   rw[if_pos (.inr (.inr q3))]
 rw[if_neg (by omega)]
 obtain⟨n,rfl⟩:=Int.eq_ofNat_of_zero_le hn0
 obtain⟨h,rfl⟩:=Int.eq_ofNat_of_zero_le (show 0<=h by omega)
 obtain⟨k,rfl⟩:=Int.eq_ofNat_of_zero_le (show 0<=k by omega)
 have e1:(h:Int).tmod n=((h%n:Nat):Int):=rfl
 have e2:(k:Int).tmod n=((k%n:Nat):Int):=rfl
 have l1:h%n<n:=Nat.mod_lt _ (by omega)
 have l2:k%n<n:=Nat.mod_lt _ (by omega)
 have nz:¬((n:Int)=0):=by omega
 rw[e1,e2]
 simp only[RT,Q0,Q1,Q2,Q3,Q4,Q5,Q6,Q7,Q8,DF q1,DF q2,DF q3]
 rw[BT5,Aa2 (by rfl)]
 simp only[RT,Q0,Q1,Q2,Q3,Q4,Q5,Q6,Q7,Q8,Al8,if_neg nz,e1,e2,An1 (a:=(n:Int)) (b:=((k%n:Nat):Int)) (by omega) (by omega)]
 by_cases q:((h%n:Nat):Int)>=(n:Int)-((k%n:Nat):Int)
 . rw[if_pos q]
   simp only[RT,Q0,Q1,Q2,Q3,Q4,Q5,Q6,Q7,Q8,DT q,An1 (a:=(n:Int)) (b:=((k%n:Nat):Int)) (by omega) (by omega),An1 (a:=((h%n:Nat):Int)) (b:=(n:Int)-((k%n:Nat):Int)) (by omega) (by omega)]
 . rw[if_neg q]
   simp only[RT,Q0,Q1,Q2,Q3,Q4,Q5,Q6,Q7,Q8,DF q,Ac6 (n:=((h%n:Nat):Int)+((k%n:Nat):Int)) (by omega) (by omega)]
set_option maxRecDepth 10000 in
set_option maxHeartbeats 8000000 in
theorem Ay5(hw:WF A)(h:a4 A rp r cp vb fk fa){k:Nat}(hk:k<3)(h0:0<=r.now)(h12:r.now<12)(hl:r.al.length<=100000000):∃w A',EvF TP HH 91 [.ptr rp 0,.int .i64 (k:Int)] A w A'/\aJ A rp cp vb fk fa A' (r.timer k):=by
 refine Aa4 rfl Tryz.func91 (by unfold Tryz.f91;rfl) Tryz.ntmps91 (by unfold Tryz.f91;rfl) (by simp) ?_
 obtain⟨kv,av,b1,b2,b3⟩:=h.box
 have ld:=Ap1 b1 h.ok
 obtain⟨i,hi⟩:=Int.eq_ofNat_of_zero_le h0
 have dW:i<12:=by omega
 rw[hi]at ld
 have lt:=Cx8 b1 h.ok dW hk
 have hin:r.now.toNat=i:=by rw[hi];rfl
 unfold Rd.timer
 rw[hin]
 simp only[RT,Q0,Q1,Q2,Q3,Q4,Q5,Q6,Q7,Q8]
 rw[BW2,Aa2 (by rfl)]
 simp only[RT,Q0,Q1,Q2,Q3,Q4,Q5,Q6,Q7,Q8,(AB9 rp),ld,Ct9 dW,Cu0 hk,lt]
 cases q:r.bY i k with
 |true =>
  simp only[RT,Q0,Q1,Q2,Q3,Q4,Q5,Q6,Q7,Q8]
  exact .da h
 |false =>
  obtain⟨A1,s1,s2,s3⟩:=Cy0 b1 h.ok dW hk
  have h1:a4 A1 rp { r with bY:=hQ r.bY i k true } cp vb fk fa:=h.upd b1 b2 b3 s2 s3 rfl rfl rfl rfl { h.ok with }
  have ld1:=Ap1 s3 h1.ok
  have ld1:aa TP 3 (.ptr rp 3) A1=some (.int .i64 (i:Int)):=by rw[ld1.2.2.2.1,<- hi]
  simp only[RT,Q0,Q1,Q2,Q3,Q4,Q5,Q6,Q7,Q8]
  rw[BW3,Aa2 (by rfl)]
  simp only[RT,Q0,Q1,Q2,Q3,Q4,Q5,Q6,Q7,Q8,(AB9 rp),ld,Ct9 dW,Cu0 hk,s1,ld1,Ch0]
  obtain⟨w,A2,k1,k2⟩:=AO3 (s2.wf hw) h1 (a:=⟨3,r.now,k,0,z32⟩) rfl hl
  rw[show(⟨3,r.now,k,0,z32⟩:Act)=⟨3,i,k,0,z32⟩ by rw[hi]]at k1
  refine Aa0 k1 ?_
  simp only[RT,Q0,Q1,Q2,Q3,Q4,Q5,Q6,Q7,Q8]
  exact k2.next hw (s2.mono fun _ q=>.inl q) (.inl rfl) (.inl rfl)
theorem a4.pz(h:a4 A rp r cp vb fk fa)(hf:Fr (vbS vb) A B){v':Vt}(hc:bq B cp r.n v' vb):a4 B rp { r with v:=v' } cp vb fk fa:=by
 obtain⟨kv,av,b1,b2,b3⟩:=h.box
 have jO:∀fo:Option Nat,(∀j,j<24->fo≠some (vb j))->Off fo A (vbS vb):=by
  intro fo hfo b q f k base hf hk
  obtain⟨j,hj,q⟩:=q
  injection q with q;subst q
  rw[h.cnt.row j hj]at hk;cases hk
  intro z
  injection z with z1 z2
  exact hfo j hj (by rw[hf,z1])
 exact { box:=⟨kv,av,hf.row _ _ b1 (fun⟨j,hj,q⟩=>h.cnt.ju hj b1 (by injection q with q;exact q.symm)),b2.fr hf (jO _ fun j hj=>(h.ne2 j hj).1),b3.fr hf (jO _ fun j hj=>(h.ne2 j hj).2)⟩
         cnt:=hc,ok:={ h.ok with v:=hc.len },rc:=h.rc,ne1:=h.ne1,ne2:=h.ne2 }
set_option maxRecDepth 10000 in
set_option maxHeartbeats 8000000 in
theorem Ar0(hw:WF A)(h:a4 A rp r cp vb fk fa){k:Nat}(hk:k<2){id:Bts}(hid:id.length=32)(hl:r.al.length<=100000000):∃w A',EvF TP HH 84 [.ptr rp 0,.int .i64 (k:Int),.agg (bc id)] A w A'/\aJ A rp cp vb fk fa A' (r.vote k id):=by
 refine Aa4 rfl Tryz.func84 (by unfold Tryz.f84;rfl) Tryz.ntmps84 (by unfold Tryz.f84;rfl) (by simp) ?_
 simp only[RT,Q0,Q1,Q2,Q3,Q4,Q5,Q6,Q7,Q8]
 obtain⟨A1,e1,f1,r1,n1⟩:=Aa3 A (bc id)
 rw[<- e1]
 have h1:=h.fr0 f1
 have w1:=f1.wf hw
 obtain⟨kv,av,b1,b2,b3⟩:=h1.box
 have ld:=Ap1 b1 h1.ok
 obtain⟨_,A2,p1,p2,rfl,p3⟩:=AN7 w1 h1.cnt r.now k r.me hid
 rw[BV9,Aa2 (by rfl)]
 simp only[RT,Q0,Q1,Q2,Q3,Q4,Q5,Q6,Q7,Q8,(AB9 rp),ld,Ai8 r1 hid]
 refine Aa0 p1 ?_
 have h2:=h1.pz p2 p3
 have w2:=p2.wf w1
 have f2:Fr (rdS A1 rp vb fk fa) A1 A2:=p2.mono fun _ q=>.inr (.inl q)
 unfold Rd.vote
 have hw1:IntKind.i64.wrap (1+(k:Int))=1+(k:Int):=Ac6 (by omega) (by omega)
 by_cases q:cT r.n r.v r.now k r.me id=0
 rotate_left
 . have ev:dG r.n r.v r.now k r.me id=r.v:=by unfold dG;rw[if_neg q]
   rw[ev]at h2
   obtain⟨kv2,av2,c1,c2,c3⟩:=h2.box
   obtain⟨A3,s1,s2,s3⟩:=(AC0 c1 h2.ok (1+(k:Int))).2.1
   have h3:a4 A3 rp { r with step:=1+(k:Int) } cp vb fk fa:=h2.upd c1 c2 c3 s2 s3 rfl rfl rfl rfl { h2.ok with }
   simp only[RT,Q0,Q1,Q2,Q3,Q4,Q5,Q6,Q7,Q8,DF q,(AB9 rp),hw1,s1]
   rw[if_neg q]
   exact aJ.br hw f1 (aJ.next w1 f2 (.inl rfl) (.inl rfl) (.upd s2 h3))
 . have r2:=p2.row _ _ r1 (fun⟨j,hj,q⟩=>h1.cnt.ju hj r1 (by injection q with q;exact q.symm))
   obtain⟨kv2,av2,c1,c2,c3⟩:=h2.box
   have ld2:=Ap1 c1 h2.ok
   simp only[RT,Q0,Q1,Q2,Q3,Q4,Q5,Q6,Q7,Q8,DT q]
   rw[BW0,Aa2 (by rfl)]
   simp only[RT,Q0,Q1,Q2,Q3,Q4,Q5,Q6,Q7,Q8,(AB9 rp),ld2,Ai8 r2 hid,Cg9 hid]
   obtain⟨w,A3,k1,fk3,fa3,k2,k3,k4,k5⟩:=AO3 w2 h2 (a:=⟨2,r.now,k,0,id⟩) hid hl
   refine Aa0 k1 ?_
   obtain⟨kv3,av3,d1,d2,d3⟩:=k5.box
   obtain⟨A4,s1,s2,s3⟩:=(AC0 d1 k5.ok (1+(k:Int))).2.1
   have h4:=k5.upd (r':={ (({ r with v:=dG r.n r.v r.now k r.me id }:Rd).do_ ⟨2,r.now,k,0,id⟩)with step:=1+(k:Int) }) d1 d2 d3 s2 s3 rfl rfl rfl rfl { k5.ok with }
   simp only[RT,Q0,Q1,Q2,Q3,Q4,Q5,Q6,Q7,Q8,(AB9 rp),hw1,s1]
   rw[if_pos q]
   exact aJ.br hw f1 (aJ.next w1 f2 (.inl rfl) (.inl rfl) (aJ.next w2 k2 k3 k4 (.upd s2 h4)))
end
end Go.Sv.Tryz
namespace Go.Sv
abbrev ROf:=Int×Int×Bts
structure OL(f:Nat->Ofr)(l:List ROf):Prop where
 mem:∀p∈l,0<=p.1/\p.1<12/\f p.1.toNat=⟨true,p.2.1,p.2.2⟩
 kE:∀R:Nat,(f R).there=true->∃p∈l,p.1=R
def fw(l:List ROf)(R:Int):Option Nat:=l.findIdx? fun p=>decide (p.1=R)
def plO(o:Option Nat):Int:=match o with
 |some i=>(i:Int)
 |none=>-1
theorem AO4{α:Type}{f:α->Bool}{l:List α}{j:Nat}{p:α}(h:∀q∈l.take j,f q=false)(hp:l[j]?=some p)(hf:f p=true):l.findIdx? f=some j:=by
 obtain⟨hj,rfl⟩:=LG.1 hp
 rw[List.findIdx?_eq_some_iff_getElem]
 refine⟨hj,hf,fun i hi=>?_⟩
 have:=h (l[i]'(by omega)) (List.mem_take_iff_getElem.2 ⟨i,by omega,rfl⟩)
 simp[this]
theorem Ba9{α:Type}{f:α->Bool}{l:List α}(h:∀q∈l,f q=false):l.findIdx? f=none:=List.findIdx?_eq_none_iff.2 h
end Go.Sv
namespace Go.Sv.Tryz
open Go Go.Proofs
def roC(p:ROf):List V:=.int .i64 p.1::.int .i64 p.2.1::bc p.2.2
theorem Ay6{p:ROf}(h:p.2.2.length=32):(roC p).length=34:=by simp[roC,Aa7,h]
theorem Bh3(p:ROf):(roC p).all V.one=true:=by simp only[roC,List.all_cons,Ac9];rfl
def eRO:Enc ROf:=⟨34,true,fun _ cs x=>cs=roC x/\x.2.2.length=32,fun h=>by rw[h.1,Ay6 h.2],fun h=>by simp at h,fun h=>by rw[h.1,Bh3],fun _ h=>h⟩
theorem Ci4{m:Hp}{w:V}{x:ROf}:eRO.W m w x↔w=.agg (roC x)/\x.2.2.length=32:=by
 unfold Enc.W;rw[if_pos (by rfl)]
 exact⟨fun⟨cs,h,h1,h2⟩=>⟨by rw[h,h1],h2⟩,fun⟨h,h2⟩=>⟨_,h,rfl,h2⟩⟩
section
variable {m:Hp} {A B:AS} {l:List ROf} {v:V} {n:Nat}
theorem Cf5(b o:Nat):ae TP 152 (.ptr b o) 0=some (.ptr b o)/\ae TP 152 (.ptr b o) 1=some (.ptr b (o+1))/\ae TP 152 (.ptr b o) 2=some (.ptr b (o+2)):=⟨by kernel_rfl,by kernel_rfl,by kernel_rfl⟩
theorem Cu5{b o:Nat}{p:ROf}(h:jh A b o (roC p))(hp:p.2.2.length=32):aa TP 3 (.ptr b o) A=some (.int .i64 p.1)/\aa TP 3 (.ptr b (o+1)) A=some (.int .i64 p.2.1)/\aa TP 30 (.ptr b (o+2)) A=some (.agg (bc p.2.2)):=
 ⟨h.cC (j:=0) rfl ag3,h.cC (j:=1) rfl ag3,h.kS (j:=2) ⟨[.int .i64 p.1,.int .i64 p.2.1],[],by simp[roC],rfl⟩ Av4 Ap3 (by rw[Aa7,hp])⟩
theorem Cf6(hm:m.on A)(h:Slc eRO m v l){i:Nat}{p:ROf}(hp:l[i]?=some p):∃b o,aj TP 31 v (.int .i64 (i:Int))=some (.ptr b o)/\jh A b o (roC p)/\p.2.2.length=32:=by
 obtain⟨b,o,w,g1,g2,g3⟩:=h.at (P:=TP) (k:=.i64) hm Tryz.underlying31 A54 BE3 hp
 obtain⟨rfl,h2⟩:=Ci4.1 g3
 exact⟨b,o,g1,(AD8 BE3 A54 g2).1,h2⟩
set_option maxHeartbeats 4000000 in
theorem Ak3{R:Int}(hm:m.on A)(h:Slc eRO m v l)(hl:l.length<=1000000):∃w A',EvF TP HH 41 [v,.int .i64 R] A w A'/\A'=A/\w=.int .i64 (plO (fw l R)):=by
 refine Aa4 rfl Tryz.func41 (by unfold Tryz.f41;rfl) Tryz.ntmps41 (by unfold Tryz.f41;rfl) (by simp) ?_
 have hln:=fun B=>h.len (P:=TP) Tryz.underlying31 B
 simp only[RT,Q0,Q1,Q2,Q3,Q4,Q5,Q6,Q7,Q8]
 refine Aa6 (fun z e B=>∃(j:Nat),z=l.length-j/\j<=l.length/\e.get 5=.int .i64 j/\(∀q∈l.take j,(fun p:ROf=>decide (p.1=R)) q=false)/\e.get 0=v/\e.get 1=.int .i64 R/\Is B A)
  (fun z e B=>(Is z (.exit 0)/\Is B A/\fw l R=none)∨(Is z .ret/\Is B A/\∃j:Nat,fw l R=some j/\e.get 4=.int .i64 j))
  ⟨_,0,rfl,by omega,rfl,by simp,rfl,rfl,rfl⟩ ?_ ?_
 rotate_left
 . rintro z e B hz (⟨rfl,rfl,hg⟩ |⟨rfl,rfl,j,hg,h4⟩)
   . simp only[RT,Q0,Q1,Q2,Q3,Q4,Q5,Q6,Q7,Q8]
     rw[hg];rfl
   . simp only[RT,Q0,Q1,Q2,Q3,Q4,Q5,Q6,Q7,Q8,h4]
     rw[hg];rfl
 rintro z e B ⟨j,rfl,hj,h5,hno,h0,h1,rfl⟩
 simp only[RT,Q0,Q1,Q2,Q3,Q4,Q5,Q6,Q7,Q8,h5,h0,hln]
 refine Aa8 (fun q1=>?_) (fun q1=>?_)
 rotate_left
 . have:j=l.length:=by omega
   subst this
   rw[List.take_length]at hno
   simp only[RT,Q0,Q1,Q2,Q3,Q4,Q5,Q6,Q7,Q8]
   exact .inl ⟨rfl,rfl,Ba9 hno⟩
 obtain⟨p,hp⟩:=Ac7 (l:=l) (i:=j) (by omega)
 obtain⟨b,o,g1,g2,g3⟩:=Cf6 hm h hp
 have fa:=Cf5 b o
 have ld:=Cu5 g2 g3
 have hwi:IntKind.i64.wrap ((j:Int)+1)=((j+1:Nat):Int):=by rw[Ac2 (by omega)]
 by_cases c1:p.1=R
 . simp only[RT,Q0,Q1,Q2,Q3,Q4,Q5,Q6,Q7,Q8,h5,h0,h1,g1,fa,ld,DT c1]
   refine .inr ⟨rfl,rfl,j,AO4 hno hp (DT c1),rfl⟩
 . simp only[RT,Q0,Q1,Q2,Q3,Q4,Q5,Q6,Q7,Q8,h5,h0,h1,g1,fa,ld,DF c1,hwi]
   refine⟨l.length-(j+1),by omega,j+1,rfl,by omega,rfl,fun q hq=>?_,?_⟩
   . rw[Ab6 hp]at hq
     rcases List.mem_append.1 hq with hq |hq
     . exact hno q hq
     . rw[List.mem_singleton.1 hq];exact DF c1
   . first |exact⟨h0,h1,rfl⟩ |exact⟨h0,h1⟩ |exact⟨h1,rfl⟩ |exact h1 |exact Is.da _
end
end Go.Sv.Tryz
namespace Go.Sv.Tryz
open Go Go.Proofs
section
variable {m:Hp} {A B:AS} {v:V}
theorem Am6(A:AS){n h k:Int}(hn:n<=7)(hn0:0<=n):∃w A',EvF TP HH 40 [.int .i64 n,.int .i64 h,.int .i64 k] A w A'/\A'=A/\w=.int .i64 (aP n h k):=by
 refine Aa4 rfl Tryz.func40 (by unfold Tryz.f40;rfl) Tryz.ntmps40 (by unfold Tryz.f40;rfl) (by simp) ?_
 unfold aP
 by_cases q1:n<1
 . simp only[RT,Q0,Q1,Q2,Q3,Q4,Q5,Q6,Q7,Q8,DT q1]
   rw[if_pos (.inl q1)]
 by_cases q2:h<0
 . simp only[RT,Q0,Q1,Q2,Q3,Q4,Q5,Q6,Q7,Q8,DF q1,DT q2]
   rw[if_pos (.inr (.inl q2))]
 by_cases q3:k<0
 . simp only[RT,Q0,Q1,Q2,Q3,Q4,Q5,Q6,Q7,Q8,DF q1,DF q2,DT q3]
   rw[if_pos (.inr (.inr q3))]
 rw[if_neg (by omega)]
 obtain⟨n,rfl⟩:=Int.eq_ofNat_of_zero_le hn0
 obtain⟨h,rfl⟩:=Int.eq_ofNat_of_zero_le (show 0<=h by omega)
 obtain⟨k,rfl⟩:=Int.eq_ofNat_of_zero_le (show 0<=k by omega)
 have e1:(h:Int).tmod n=((h%n:Nat):Int):=rfl
 have e2:(k:Int).tmod n=((k%n:Nat):Int):=rfl
 have l1:h%n<n:=Nat.mod_lt _ (by omega)
 have l2:k%n<n:=Nat.mod_lt _ (by omega)
 have nz:¬((n:Int)=0):=by omega
 rw[e1,e2]
 simp only[RT,Q0,Q1,Q2,Q3,Q4,Q5,Q6,Q7,Q8,DF q1,DF q2,DF q3]
 rw[BT8,Aa2 (by rfl)]
 by_cases q0:((k%n:Nat):Int)>0
 rotate_left
 . simp only[RT,Q0,Q1,Q2,Q3,Q4,Q5,Q6,Q7,Q8,Al8,if_neg nz,e1,e2,DF q0,Ac6 (n:=((h%n:Nat):Int)+((k%n:Nat):Int)) (by omega) (by omega)]
   rw[if_neg (by omega)]
 simp only[RT,Q0,Q1,Q2,Q3,Q4,Q5,Q6,Q7,Q8,Al8,if_neg nz,e1,e2,DT q0,An1 (a:=(n:Int)) (b:=((k%n:Nat):Int)) (by omega) (by omega)]
 by_cases q:((h%n:Nat):Int)>=(n:Int)-((k%n:Nat):Int)
 . rw[if_pos q]
   simp only[RT,Q0,Q1,Q2,Q3,Q4,Q5,Q6,Q7,Q8,DT q,An1 (a:=(n:Int)) (b:=((k%n:Nat):Int)) (by omega) (by omega),An1 (a:=((h%n:Nat):Int)) (b:=(n:Int)-((k%n:Nat):Int)) (by omega) (by omega)]
 . rw[if_neg q]
   simp only[RT,Q0,Q1,Q2,Q3,Q4,Q5,Q6,Q7,Q8,DF q,Ac6 (n:=((h%n:Nat):Int)+((k%n:Nat):Int)) (by omega) (by omega)]
set_option maxHeartbeats 4000000 in
theorem Ar1{l:List Bts}{id:Bts}(hm:m.on A)(h:Slc eId m v l)(hl:l.length<=1000000)(hid:id.length=32):∃w A',EvF TP HH 87 [v,.agg (bc id)] A w A'/\Fr S0 A A'/\w=.bool (decide (id∈l)):=by
 refine Aa4 rfl Tryz.func87 (by unfold Tryz.f87;rfl) Tryz.ntmps87 (by unfold Tryz.f87;rfl) (by simp) ?_
 have hln:=fun B=>h.len (P:=TP) Tryz.underlying32 B
 obtain⟨A1,e1,f1,r1,n1⟩:=Aa3 A (bc id)
 obtain⟨b3,hb3⟩:∃b,b=A.blk.length:=⟨_,rfl⟩
 rw[<- hb3]at r1
 have ldi:=ldI r1 hid
 simp only[RT,Q0,Q1,Q2,Q3,Q4,Q5,Q6,Q7,Q8,<- hb3,<- e1]
 refine Aa6 (fun z e B=>∃(j:Nat),z=l.length-j/\j<=l.length/\e.get 5=.int .i64 j/\(¬id∈l.take j)/\e.get 0=v/\e.get 3=.ptr b3 0/\Is B A1)
  (fun z e B=>(Is z (.exit 0)/\Is B A1/\¬id∈l)∨(Is z .ret/\Is B A1/\id∈l/\e.get 4=.bool true))
  ⟨_,0,rfl,by omega,rfl,by simp,rfl,rfl,rfl⟩ ?_ ?_
 rotate_left
 . rintro z e B hz (⟨rfl,rfl,hg⟩ |⟨rfl,rfl,hg,h4⟩)
   . simp only[RT,Q0,Q1,Q2,Q3,Q4,Q5,Q6,Q7,Q8]
     rw[DF hg];exact⟨f1,rfl⟩
   . simp only[RT,Q0,Q1,Q2,Q3,Q4,Q5,Q6,Q7,Q8,h4]
     rw[DT hg];exact⟨f1,rfl⟩
 rintro z e B ⟨j,rfl,hj,h5,hno,h0,h3,rfl⟩
 simp only[RT,Q0,Q1,Q2,Q3,Q4,Q5,Q6,Q7,Q8,h5,h0,hln]
 refine Aa8 (fun q1=>?_) (fun q1=>?_)
 rotate_left
 . have:j=l.length:=by omega
   subst this
   rw[List.take_length]at hno
   simp only[RT,Q0,Q1,Q2,Q3,Q4,Q5,Q6,Q7,Q8]
   exact .inl ⟨rfl,rfl,hno⟩
 obtain⟨p,hp⟩:=Ac7 (l:=l) (i:=j) (by omega)
 obtain⟨b,o,cc,g1,g2,g3⟩:=h.at (P:=TP) (k:=.i64) (hm.fr0 f1) Tryz.underlying32 Ap3 Av4 hp
 obtain⟨rfl,hpl⟩:=Bf8.1 g3
 have hwi:IntKind.i64.wrap ((j:Int)+1)=((j+1:Nat):Int):=by rw[Ac2 (by omega)]
 simp only[RT,Q0,Q1,Q2,Q3,Q4,Q5,Q6,Q7,Q8]
 rw[BW1,Aa2 (by rfl)]
 by_cases c1:p=id
 . simp only[RT,Q0,Q1,Q2,Q3,Q4,Q5,Q6,Q7,Q8,h5,h0,h3,g1,g2,ldi,eqZ hpl hid,DT c1]
   exact .inr ⟨rfl,rfl,by rw[<- c1];exact List.mem_of_getElem? hp⟩
 . simp only[RT,Q0,Q1,Q2,Q3,Q4,Q5,Q6,Q7,Q8,h5,h0,h3,g1,g2,ldi,eqZ hpl hid,DF c1,hwi]
   refine⟨l.length-(j+1),by omega,j+1,rfl,by omega,rfl,fun hq=>?_,?_⟩
   . rw[Ab6 hp]at hq
     rcases List.mem_append.1 hq with hq |hq
     . exact hno hq
     . exact c1 (List.mem_singleton.1 hq).symm
   . first |exact⟨h0,h3,rfl⟩ |exact⟨h0,h3⟩ |exact⟨h3,rfl⟩ |exact h3 |exact Is.da _
end
end Go.Sv.Tryz
namespace Go.Sv.Tryz
open Go Go.Proofs
structure RrV where
 n:Int
 me:Int
 ht:Int
 now:Int
 st:Int
 lo:Int
 va:Int
 lk:Bts
 be:Bts
 fr:Bts
 ov:V
 kv:V
 vv:V
 tv:V
 av:V
def RrV.cs(x:RrV):List V:=[.int .i64 x.n,.int .i64 x.me,.int .i64 x.ht,.int .i64 x.now,.int .i64 x.st,.int .i64 x.lo,.int .i64 x.va]++(bc x.lk++(bc x.be++(bc x.fr++[x.ov,x.kv,x.vv,x.tv,x.av])))
structure RrV.ok(x:RrV):Prop where
 lk:x.lk.length=32
 be:x.be.length=32
 fr:x.fr.length=32
 one:x.cs.all V.one=true
theorem RrV.len{x:RrV}(h:x.ok):x.cs.length=108:=by simp[RrV.cs,Aa7,h.lk,h.be,h.fr]
section
variable {m:Hp} {A B:AS} {v:V} {x:RrV}
theorem AJ1(b:Nat):ae TP 36 (.ptr b 0) 0=some (.ptr b 0)/\ae TP 36 (.ptr b 0) 1=some (.ptr b 1)/\ae TP 36 (.ptr b 0) 2=some (.ptr b 2)/\ae TP 36 (.ptr b 0) 3=some (.ptr b 3)/\ae TP 36 (.ptr b 0) 4=some (.ptr b 4)/\ae TP 36 (.ptr b 0) 5=some (.ptr b 5)/\ae TP 36 (.ptr b 0) 6=some (.ptr b 6)/\ae TP 36 (.ptr b 0) 7=some (.ptr b 7)/\ae TP 36 (.ptr b 0) 8=some (.ptr b 39)/\ae TP 36 (.ptr b 0) 9=some (.ptr b 71)/\ae TP 36 (.ptr b 0) 10=some (.ptr b 103)/\ae TP 36 (.ptr b 0) 11=some (.ptr b 104)/\ae TP 36 (.ptr b 0) 12=some (.ptr b 105)/\ae TP 36 (.ptr b 0) 13=some (.ptr b 106)/\ae TP 36 (.ptr b 0) 14=some (.ptr b 107):=
 ⟨by kernel_rfl,by kernel_rfl,by kernel_rfl,by kernel_rfl,by kernel_rfl,by kernel_rfl,by kernel_rfl,by kernel_rfl,by kernel_rfl,by kernel_rfl,by kernel_rfl,by kernel_rfl,by kernel_rfl,by kernel_rfl,by kernel_rfl⟩
theorem RrV.tl(h:x.ok)(j:Nat):x.cs[103+j]?=[x.ov,x.kv,x.vv,x.tv,x.av][j]?:=by
 unfold RrV.cs
 rw[List.getElem?_append_right (by simp;omega)]
 rw[List.getElem?_append_right (by simp[Aa7,h.lk];omega)]
 rw[List.getElem?_append_right (by simp[Aa7,h.lk,h.be];omega)]
 rw[List.getElem?_append_right (by simp[Aa7,h.lk,h.be,h.fr];omega)]
 congr 1
 simp[Aa7,h.lk,h.be,h.fr]
 omega
theorem Bb0{b:Nat}{kk:BK}(hb:A.blk[b]?=some ⟨x.cs,kk⟩)(h:x.ok):aa TP 3 (.ptr b 0) A=some (.int .i64 x.n)/\aa TP 3 (.ptr b 1) A=some (.int .i64 x.me)/\aa TP 3 (.ptr b 2) A=some (.int .i64 x.ht)/\aa TP 3 (.ptr b 3) A=some (.int .i64 x.now)/\aa TP 3 (.ptr b 4) A=some (.int .i64 x.st)/\aa TP 3 (.ptr b 5) A=some (.int .i64 x.lo)/\aa TP 3 (.ptr b 6) A=some (.int .i64 x.va)/\aa TP 31 (.ptr b 103) A=some x.ov/\aa TP 32 (.ptr b 104) A=some x.kv/\aa TP 33 (.ptr b 105) A=some x.vv/\aa TP 34 (.ptr b 106) A=some x.tv/\aa TP 34 (.ptr b 107) A=some x.av/\aa TP 36 (.ptr b 0) A=some (.agg x.cs):=
 ⟨by rw[Ab2 ag3 hb];rfl,by rw[Ab2 ag3 hb];rfl,by rw[Ab2 ag3 hb];rfl,by rw[Ab2 ag3 hb];rfl,by rw[Ab2 ag3 hb];rfl,by rw[Ab2 ag3 hb];rfl,by rw[Ab2 ag3 hb];rfl,
  by rw[Ab2 Cw4 hb,x.tl h 0];rfl,by rw[Ab2 Ce2 hb,x.tl h 1];rfl,by rw[Ab2 Cw5 hb,x.tl h 2];rfl,by rw[Ab2 Cw7 hb,x.tl h 3];rfl,by rw[Ab2 Cw7 hb,x.tl h 4];rfl,
  At.load hb (.all _) Cw8 Cg3 (x.len h)⟩
end
end Go.Sv.Tryz
namespace Go.Sv.Tryz
open Go Go.Proofs
section
variable {m:Hp} {A B:AS} {v w:V} {x:RrV}
theorem RrV.put(h:x.ok)(j:Nat)(hj:j<5)(w:V):putAt x.cs (103+j) [w]=[.int .i64 x.n,.int .i64 x.me,.int .i64 x.ht,.int .i64 x.now,.int .i64 x.st,.int .i64 x.lo,.int .i64 x.va]++(bc x.lk++(bc x.be++(bc x.fr++[x.ov,x.kv,x.vv,x.tv,x.av].set j w))):=by
 have e:putAt x.cs (103+j) [w]=x.cs.set (103+j) w:=by
  unfold putAt
  rw[List.set_eq_take_append_cons_drop,if_pos (by rw[x.len h];omega)]
  simp
 rw[e]
 unfold RrV.cs
 rw[List.set_append_right _ _ (by simp;omega),List.set_append_right _ _ (by simp[Aa7,h.lk];omega),List.set_append_right _ _ (by simp[Aa7,h.lk,h.be];omega),List.set_append_right _ _ (by simp[Aa7,h.lk,h.be,h.fr];omega)]
 congr 5
 simp[Aa7,h.lk,h.be,h.fr]
 omega
theorem RrV.qO(h:x.ok)(hw:w.one=true):({ x with av:=w }:RrV).ok:=by
 refine⟨h.lk,h.be,h.fr,?_⟩
 have:=h.one
 unfold RrV.cs at this ⊢
 simp only[List.all_append,Bool.and_eq_true,List.all_cons,List.all_nil]at this ⊢
 exact⟨this.1,this.2.1,this.2.2.1,this.2.2.2.1,this.2.2.2.2.1,this.2.2.2.2.2.1,this.2.2.2.2.2.2.1,this.2.2.2.2.2.2.2.1,hw,trivial⟩
theorem BF7{b:Nat}(hb:A.blk[b]?=some ⟨x.cs,.var⟩)(h:x.ok)(hw:w.one=true):∃A',ag TP 34 (.ptr b 107) w A=some A'/\Fr (·=.row b) A A'/\A'.blk[b]?=some ⟨({ x with av:=w }:RrV).cs,.var⟩:=by
 obtain⟨A',s1,s2,s3,s4⟩:=Ab1 (P:=TP) (t:=34) (o:=107) (x:=w) (cs:=[w]) hb (Ad5 hw) Cw6 (by rw[x.len h];simp) (by simp[hw])
 rw[x.put h 4 (by omega) w]at s3
 exact⟨A',s1,s2,s3⟩
theorem Bh4:Flat dp:=fun _ _ _ _ h=>h
theorem BF8:bsl TP 34 0 (some [])=some (.aB [] 0 36):=by kernel_rfl
theorem B03{a:Act}(h:a.id.length=32):bsl TP 34 1 (some [(0,.agg (aX a))])=some (.aB (aX a) 1 36):=Av2 Tryz.underlying34 Bf2 Ce5 rfl (Aj2 h) (by decide)
end
end Go.Sv.Tryz
namespace Go.Sv.Tryz
open Go Go.Proofs
section
variable {m:Hp} {A B:AS} {v w:V} {x:RrV}
def rrZ:RrV:=⟨0,0,0,0,0,0,0,z32,z32,z32,.ah,.ah,.ah,.ah,.ah⟩
theorem AA7:rrZ.ok:=⟨rfl,rfl,rfl,by kernel_rfl⟩
theorem AI9:(aC TP 36).bind V.cells=some rrZ.cs:=by kernel_rfl
theorem AT8{b:Nat}{y:RrV}(hb:A.blk[b]?=some ⟨x.cs,.var⟩)(h:x.ok)(hy:y.ok):∃A',ag TP 36 (.ptr b 0) (.agg y.cs) A=some A'/\Fr (·=.row b) A A'/\A'.blk[b]?=some ⟨y.cs,.var⟩:=by
 obtain⟨A',s1,s2,s3,s4⟩:=Ab1 (P:=TP) (t:=36) (o:=0) (x:=.agg y.cs) (cs:=y.cs) hb rfl (by rw[y.len hy];exact Cg3) (by rw[x.len h,y.len hy];omega) hy.one
 refine⟨A',s1,s2,?_⟩
 have e:putAt x.cs 0 y.cs=y.cs:=by
  unfold putAt
  rw[Nat.zero_add,List.drop_eq_nil_of_le (by rw[x.len h,y.len hy];omega)];simp
 rw[e]at s3;exact s3
theorem Bs7{b:Nat}{kk:BK}{a:Act}(h:A.blk[b]?=some ⟨aX a,kk⟩)(ha:a.id.length=32):aa TP 127 (.ptr b 0) A=some (.agg (aX a)):=At.load h (.all _) BE2 Bf2 (Aj2 ha)
set_option maxHeartbeats 8000000 in
theorem Bs8{a:Act}{l:List Act}(hw:WF A)(hm:m.on A)(h:x.ok)(ha:a.id.length=32)(hL:Slc dp m x.av l)(hl:l.length<=100000):
 ∃u A',EvF TP HH 96 [.agg x.cs,.agg (aX a)] A u A'/\Fr S0 A A'/\∃w,u=.agg ({ x with av:=w }:RrV).cs/\({ x with av:=w }:RrV).ok/\eM dp A.blk.length A' w (l++[a]):=by
 refine Aa4 rfl Tryz.func96 (by unfold Tryz.f96;rfl) Tryz.ntmps96 (by unfold Tryz.f96;rfl) (by simp) ?_
 obtain⟨A1,e1,f1,r1,n1⟩:=Aa3 A x.cs
 obtain⟨b2,hb2⟩:∃b,b=A.blk.length:=⟨_,rfl⟩
 rw[<- hb2]at r1
 obtain⟨A2,e2,f2,r2,n2⟩:=Aa3 A1 (aX a)
 obtain⟨b3,hb3⟩:∃b,b=A1.blk.length:=⟨_,rfl⟩
 rw[<- hb3]at r2
 obtain⟨A3,e3,f3,r3,n3⟩:=Aa3 A2 rrZ.cs
 obtain⟨b4,hb4⟩:∃b,b=A2.blk.length:=⟨_,rfl⟩
 rw[<- hb4]at r3
 have f13:Fr S0 A A3:=(f1.ab f2).ab f3
 have w3:=f13.wf hw
 have fa:=AJ1 b2
 have ld3:=Bb0 (f3.af (f2.af r1)) h
 have lP:=(Bb0 ((Fr.aF A3 []).af (f3.af (f2.af r1))) h).2.2.2.2.2.2.2.2.2.2.2.1
 obtain⟨v1,B1,v2,B2,p1,p2,g1,g2,hS⟩:=Aq9 (P:=TP) (t:=34) (e:=127) (n:=36) (y:=a) (cs':=aX a) rfl Bh4 Ct6 w3 (hm.fr0 f13) hL ⟨rfl,ha⟩ (by omega) (by omega)
 have la:=Bs7 (g1.af (f3.af r2)) ha
 have hv2:v2.one=true:=by
  exact hS.one
 have rB:=g2.af (f3.af (f2.af r1))
 obtain⟨C,s1,s2,s3⟩:=BF7 rB h hv2
 have hok:=x.qO h hv2
 have lC:=(Bb0 s3 hok).2.2.2.2.2.2.2.2.2.2.2.2
 have hne:b4≠b2:=by omega
 have r4C:C.blk[b4]?=some ⟨rrZ.cs,.var⟩:=s2.row _ _ (g2.af r3) (by intro q;injection q with q;exact hne q)
 obtain⟨D,t1,t2,t3⟩:=AT8 r4C AA7 hok
 have lD:=(Bb0 t3 hok).2.2.2.2.2.2.2.2.2.2.2.2
 have fC:Fr S0 A C:=(f13.ab g2).ar s2 (by omega)
 have fD:Fr S0 A D:=fC.ar t2 (by omega)
 simp only[RT,Q0,Q1,Q2,Q3,Q4,Q5,Q6,Q7,Q8,<- hb2,<- e1,<- hb3,<- e2,AI9,<- hb4,<- e3,BF8,fa,lP,p1,la,B03 ha,p2,s1,lC,t1,lD]
 obtain⟨fo,z1,z2⟩:=(hS.row rB s2).row r4C t2
 exact⟨fD,v2,rfl,hok,fo,z1,fun f q=>by have:=z2 f q;have:=f13.len;omega⟩
end
end Go.Sv.Tryz
namespace Go.Sv
theorem OL.put{f:Nat->Ofr}{l:List ROf}{R v:Int}{id:Bts}(h:OL f l)(h0:0<=R)(h12:R<12)(hn:(f R.toNat).there=false):OL (fM f R.toNat ⟨true,v,id⟩) (l++[(R,v,id)]):=by
 refine⟨fun p hp=>?_,fun K hK=>?_⟩
 . rcases List.mem_append.1 hp with q |q
   . obtain⟨a,b,c⟩:=h.mem p q
     refine⟨a,b,?_⟩
     unfold fM
     rw[if_neg]
     . exact c
     . intro z;rw[z]at c;rw[c]at hn;cases hn
   . rw[List.mem_singleton.1 q];exact⟨h0,h12,if_pos rfl⟩
 . unfold fM at hK
   by_cases e:K=R.toNat
   . exact⟨_,List.mem_append_right _ (List.mem_singleton.2 rfl),by show R=(K:Int);omega⟩
   . rw[if_neg e]at hK
     obtain⟨p,p1,p2⟩:=h.kE K hK
     exact⟨p,List.mem_append_left _ p1,p2⟩
theorem OL.find{f:Nat->Ofr}{l:List ROf}{R:Int}(h:OL f l)(h0:0<=R):(fw l R).isSome=(f R.toNat).there:=by
 unfold fw
 cases hq:l.findIdx? (fun p=>decide (p.1=R))with
 |none =>
  have:=List.findIdx?_eq_none_iff.1 hq
  cases ht:(f R.toNat).there with
  |false=>rfl
  |true =>
   obtain⟨p,p1,p2⟩:=h.kE _ ht
   have:=of_decide_eq_false (this p p1)
   exact absurd (by rw[p2];omega) this
 |some j =>
  obtain⟨hj,h1,_⟩:=List.findIdx?_eq_some_iff_getElem.1 hq
  have h1:=of_decide_eq_true h1
  have:=(h.mem _ (List.getElem_mem hj)).2.2
  rw[h1]at this
  rw[this];rfl
structure TL(f:Nat->Nat->Bool)(l:List Act):Prop where
 mem:∀a∈l,∃R K:Nat,a=⟨3,R,K,0,z32⟩/\f R K=true
 kE:∀R K:Nat,f R K=true->(⟨3,R,K,0,z32⟩:Act)∈l
theorem TL.put{f:Nat->Nat->Bool}{l:List Act}{R K:Nat}(h:TL f l):TL (hQ f R K true) (l++[⟨3,R,K,0,z32⟩]):=by
 refine⟨fun a ha=>?_,fun R' K' hK=>?_⟩
 . rcases List.mem_append.1 ha with q |q
   . obtain⟨R',K',e,t⟩:=h.mem a q
     refine⟨R',K',e,?_⟩
     unfold hQ;split
     . rfl
     . exact t
   . exact⟨R,K,List.mem_singleton.1 q,if_pos ⟨rfl,rfl⟩⟩
 . unfold hQ at hK
   by_cases e:R'=R/\K'=K
   . obtain⟨rfl,rfl⟩:=e
     exact List.mem_append_right _ (List.mem_singleton.2 rfl)
   . rw[if_neg e]at hK
     exact List.mem_append_left _ (h.kE R' K' hK)
theorem TL.has{f:Nat->Nat->Bool}{l:List Act}{R K:Nat}(h:TL f l):((⟨3,R,K,0,z32⟩:Act)∈l)↔f R K=true:=by
 refine⟨fun q=>?_,h.kE R K⟩
 obtain⟨R',K',e,t⟩:=h.mem _ q
 injection e with _ e1 e2
 have:R=R':=by omega
 have:K=K':=by omega
 subst_vars;exact t
end Go.Sv
namespace Go.Sv.Tryz
open Go Go.Proofs
section
variable {A B:AS} {v w:V}
theorem B04:Flat eRO:=fun _ _ _ _ h=>h
theorem B05:bsl TP 31 0 (some [])=some (.aB [] 0 34):=by kernel_rfl
theorem Ci5{p:ROf}(h:p.2.2.length=32):bsl TP 31 1 (some [(0,.agg (roC p))])=some (.aB (roC p) 1 34):=Av2 Tryz.underlying31 A54 Ce7 rfl (Ay6 h) (by decide)
theorem Au2{p:ROf}{l:List ROf}{m:Hp}(hw:WF A)(hm:m.on A)(hp:p.2.2.length=32)(hL:Slc eRO m v l)(hl:l.length<=100000):
 ∃u A',EvF TP HH 79 [v,.agg (roC p)] A u A'/\Fr S0 A A'/\eM eRO A.blk.length A' u (l++[p]):=by
 refine Aa4 rfl Tryz.func79 (by unfold Tryz.f79;rfl) Tryz.ntmps79 (by unfold Tryz.f79;rfl) (by simp) ?_
 obtain⟨A1,e1,f1,r1,n1⟩:=Aa3 A (roC p)
 obtain⟨b3,hb3⟩:∃b,b=A.blk.length:=⟨_,rfl⟩
 rw[<- hb3]at r1
 obtain⟨v1,B1,v2,B2,p1,p2,g1,g2,hS⟩:=Aq9 (P:=TP) (t:=31) (e:=152) (n:=34) (y:=p) (cs':=roC p) rfl B04 CE0 (f1.wf hw) (hm.fr0 f1) hL ⟨rfl,hp⟩ (by omega) (by omega)
 have la:aa TP 152 (.ptr b3 0) B1=some (.agg (roC p)):=At.load (g1.af r1) (.all _) BE3 A54 (Ay6 hp)
 simp only[RT,Q0,Q1,Q2,Q3,Q4,Q5,Q6,Q7,Q8,<- hb3,<- e1,B05,p1,la,Ci5 hp,p2]
 obtain⟨fo,z1,z2⟩:=hS
 exact⟨f1.ab g2,fo,z1,fun f q=>by have:=z2 f q;have:=f1.len;omega⟩
end
end Go.Sv.Tryz
namespace Go.Sv.Tryz
open Go Go.Proofs
section
variable {A B:AS} {x:RrV}
theorem Ay7{n:Nat}(A:AS)(h:x.ok)(hn:okN n)(hx:x.n=n):∃u A',EvF TP HH 111 [.agg x.cs] A u A'/\Fr S0 A A'/\u=.int .i64 (bu n:Int):=by
 refine Aa4 rfl Tryz.func111 (by unfold Tryz.f111;rfl) Tryz.ntmps111 (by unfold Tryz.f111;rfl) (by simp) ?_
 have hfl:fT (n:Int)=dc n:=AD4 hn
 have hn7:n<=7:=by unfold okN at hn;omega
 have kR:2*(dc n:Int)+1=(bu n:Int):=by unfold bu dc;omega
 have qN:dc n<=2:=by unfold dc;omega
 obtain⟨A1,e1,f1,r1,n1⟩:=Aa3 A x.cs
 obtain⟨b1,hb1⟩:∃b,b=A.blk.length:=⟨_,rfl⟩
 rw[<- hb1]at r1
 have fa:=AJ1 b1
 have ld:=(Bb0 r1 h).1
 rw[hx]at ld
 obtain⟨_,D,k2,hD,rfl⟩:=Al9 A1 (n:=(n:Int))
 rw[hD]at k2
 have ew1:IntKind.i64.wrap (2*(dc n:Int))=2*(dc n:Int):=by rw[Ac6 (by omega) (by omega)]
 have ew2:IntKind.i64.wrap (2*(dc n:Int)+1)=(bu n:Int):=by rw[Ac6 (by omega) (by omega),kR]
 simp only[RT,Q0,Q1,Q2,Q3,Q4,Q5,Q6,Q7,Q8,<- hb1,<- e1,fa,ld]
 refine Aa0 k2 ?_
 simp only[RT,Q0,Q1,Q2,Q3,Q4,Q5,Q6,Q7,Q8,hfl,ew1,ew2]
 exact f1
end
end Go.Sv.Tryz
namespace Go.Sv.Tryz
open Go Go.Proofs
section
variable {A B:AS}
theorem Ai3(A:AS):∃u A',EvF TP HH 78 [] A u A'/\Fr S0 A A'/\u=.agg (bc n32):=by
 refine Aa4 rfl Tryz.func78 (by unfold Tryz.f78;rfl) Tryz.ntmps78 (by unfold Tryz.f78;rfl) (by simp) ?_
 obtain⟨A1,e1,f1,r1,n1⟩:=Aa3 A (bc bF)
 obtain⟨b0,hb0⟩:∃b,b=A.blk.length:=⟨_,rfl⟩
 rw[<- hb0]at r1
 obtain⟨A2,e2,f2,r2,n2⟩:=Aa3 A1 (bc bF)
 obtain⟨b1,hb1⟩:∃b,b=A1.blk.length:=⟨_,rfl⟩
 rw[<- hb1]at r2
 obtain⟨A3,u1,u2,u3⟩:=AA5 r2 (by simp[bF]) Aa9
 obtain⟨A4,s1,s2,s3,s4⟩:=Ab1 (P:=TP) (t:=5) (o:=31) (x:=.int .u8 1) (cs:=[.int .u8 1]) u3 rfl sz5 (by rw[Aa7,Aa9];simp) rfl
 have e4:putAt (bc z32) 31 [.int .u8 1]=bc n32:=rfl
 rw[e4]at s3
 have hne:b0≠b1:=by omega
 have r0:A4.blk[b0]?=some ⟨bc bF,.var⟩:=s2.row _ _ (u2.row _ _ (f2.af r1) (by intro q;injection q with q;exact hne q)) (by intro q;injection q with q;exact hne q)
 obtain⟨A5,t1,t2,t3⟩:=AA5 r0 (by simp[bF]) Ad3
 have ix:aj TP 30 (.ptr b1 0) (.int .i64 31)=some (.ptr b1 31):=by kernel_rfl
 simp only[RT,Q0,Q1,Q2,Q3,Q4,Q5,Q6,Q7,Q8,Av8,<- hb0,<- e1,<- hb1,<- e2,Ad8,u1,ix,s1,ldI s3 Ad3,t1,ldI t3 Ad3]
 exact(((f1.ab f2).ar u2 (by omega)).ar s2 (by omega)).ar t2 (by omega)
end
end Go.Sv.Tryz
namespace Go.Sv.Tryz
open Go Go.Proofs
section
variable {A B:AS} {x:RrV} {w:V}
theorem B06{b:Nat}(hb:A.blk[b]?=some ⟨x.cs,.var⟩)(h:x.ok)(hw:w.one=true):∃A',ag TP 31 (.ptr b 103) w A=some A'/\Fr (·=.row b) A A'/\A'.blk[b]?=some ⟨({ x with ov:=w }:RrV).cs,.var⟩:=by
 obtain⟨A',s1,s2,s3,s4⟩:=Ab1 (P:=TP) (t:=31) (o:=103) (x:=w) (cs:=[w]) hb (Ad5 hw) CC4 (by rw[x.len h];simp) (by simp[hw])
 rw[x.put h 0 (by omega) w]at s3
 exact⟨A',s1,s2,s3⟩
theorem B07{b:Nat}(hb:A.blk[b]?=some ⟨x.cs,.var⟩)(h:x.ok)(hw:w.one=true):∃A',ag TP 32 (.ptr b 104) w A=some A'/\Fr (·=.row b) A A'/\A'.blk[b]?=some ⟨({ x with kv:=w }:RrV).cs,.var⟩:=by
 obtain⟨A',s1,s2,s3,s4⟩:=Ab1 (P:=TP) (t:=32) (o:=104) (x:=w) (cs:=[w]) hb (Ad5 hw) Cr1 (by rw[x.len h];simp) (by simp[hw])
 rw[x.put h 1 (by omega) w]at s3
 exact⟨A',s1,s2,s3⟩
theorem BF9{b:Nat}(hb:A.blk[b]?=some ⟨x.cs,.var⟩)(h:x.ok)(hw:w.one=true):∃A',ag TP 33 (.ptr b 105) w A=some A'/\Fr (·=.row b) A A'/\A'.blk[b]?=some ⟨({ x with vv:=w }:RrV).cs,.var⟩:=by
 obtain⟨A',s1,s2,s3,s4⟩:=Ab1 (P:=TP) (t:=33) (o:=105) (x:=w) (cs:=[w]) hb (Ad5 hw) CC5 (by rw[x.len h];simp) (by simp[hw])
 rw[x.put h 2 (by omega) w]at s3
 exact⟨A',s1,s2,s3⟩
theorem B08{b:Nat}(hb:A.blk[b]?=some ⟨x.cs,.var⟩)(h:x.ok)(hw:w.one=true):∃A',ag TP 34 (.ptr b 106) w A=some A'/\Fr (·=.row b) A A'/\A'.blk[b]?=some ⟨({ x with tv:=w }:RrV).cs,.var⟩:=by
 obtain⟨A',s1,s2,s3,s4⟩:=Ab1 (P:=TP) (t:=34) (o:=106) (x:=w) (cs:=[w]) hb (Ad5 hw) Cw6 (by rw[x.len h];simp) (by simp[hw])
 rw[x.put h 3 (by omega) w]at s3
 exact⟨A',s1,s2,s3⟩
end
end Go.Sv.Tryz
namespace Go.Sv.Tryz
open Go Go.Proofs
section
variable {A B:AS} {x:RrV} {w:V}
theorem B09{b:Nat}{k:Int}(hb:A.blk[b]?=some ⟨x.cs,.var⟩)(h:x.ok):∃A',ag TP 3 (.ptr b 3) (.int .i64 k) A=some A'/\Fr (·=.row b) A A'/\A'.blk[b]?=some ⟨({ x with now:=k }:RrV).cs,.var⟩:=by
 obtain⟨A',s1,s2,s3,s4⟩:=Ab1 (P:=TP) (t:=3) (o:=3) (x:=.int .i64 k) (cs:=[.int .i64 k]) hb rfl sz3 (by rw[x.len h];simp) rfl
 exact⟨A',s1,s2,s3⟩
theorem B10{b:Nat}{k:Int}(hb:A.blk[b]?=some ⟨x.cs,.var⟩)(h:x.ok):∃A',ag TP 3 (.ptr b 4) (.int .i64 k) A=some A'/\Fr (·=.row b) A A'/\A'.blk[b]?=some ⟨({ x with st:=k }:RrV).cs,.var⟩:=by
 obtain⟨A',s1,s2,s3,s4⟩:=Ab1 (P:=TP) (t:=3) (o:=4) (x:=.int .i64 k) (cs:=[.int .i64 k]) hb rfl sz3 (by rw[x.len h];simp) rfl
 exact⟨A',s1,s2,s3⟩
theorem B11{b:Nat}{k:Int}(hb:A.blk[b]?=some ⟨x.cs,.var⟩)(h:x.ok):∃A',ag TP 3 (.ptr b 5) (.int .i64 k) A=some A'/\Fr (·=.row b) A A'/\A'.blk[b]?=some ⟨({ x with lo:=k }:RrV).cs,.var⟩:=by
 obtain⟨A',s1,s2,s3,s4⟩:=Ab1 (P:=TP) (t:=3) (o:=5) (x:=.int .i64 k) (cs:=[.int .i64 k]) hb rfl sz3 (by rw[x.len h];simp) rfl
 exact⟨A',s1,s2,s3⟩
theorem BI7{b:Nat}{k:Int}(hb:A.blk[b]?=some ⟨x.cs,.var⟩)(h:x.ok):∃A',ag TP 3 (.ptr b 6) (.int .i64 k) A=some A'/\Fr (·=.row b) A A'/\A'.blk[b]?=some ⟨({ x with va:=k }:RrV).cs,.var⟩:=by
 obtain⟨A',s1,s2,s3,s4⟩:=Ab1 (P:=TP) (t:=3) (o:=6) (x:=.int .i64 k) (cs:=[.int .i64 k]) hb rfl sz3 (by rw[x.len h];simp) rfl
 exact⟨A',s1,s2,s3⟩
end
end Go.Sv.Tryz
namespace Go.Sv
theorem AO5{α:Type}[DecidableEq α]:∀{l m:List α},l.Nodup->(∀x∈l,x∈m)->l.length<=m.length
 |[],m,_,_=>Nat.zero_le _
 |a::l,m,hn,h=>by
  have ha:=h a (List.mem_cons_self ..)
  have h2:∀x∈l,x∈m.erase a:=fun x hx=>by
   have hne:x≠a:=fun e=>(List.nodup_cons.1 hn).1 (e ▸ hx)
   exact(List.mem_erase_of_ne hne).2 (h x (List.mem_cons_of_mem _ hx))
  have h3:=AO5 (List.nodup_cons.1 hn).2 h2
  rw[List.length_erase_of_mem ha]at h3
  have:0<m.length:=List.length_pos_of_mem ha
  simp only[List.length_cons];omega
structure OLn(f:Nat->Ofr)(l:List ROf):Prop where
 ol:OL f l
 nd:(l.map (·.1)).Nodup
 nz:∀p∈l,p.2.2≠z32
theorem OLn.len{f:Nat->Ofr}{l:List ROf}(h:OLn f l):l.length<=12:=by
 have:=AO5 (m:=(List.range 12).map Int.ofNat) h.nd (fun x hx=>by
  obtain⟨p,hp,rfl⟩:=List.mem_map.1 hx
  obtain⟨a,b,_⟩:=h.ol.mem p hp
  exact List.mem_map.2 ⟨p.1.toNat,List.mem_range.2 (by omega),by show((p.1.toNat:Nat):Int)=_;omega⟩)
 simpa using this
theorem OLn.put{f:Nat->Ofr}{l:List ROf}{R v:Int}{id:Bts}(h:OLn f l)(h0:0<=R)(h12:R<12)(hn:(f R.toNat).there=false)(hz:id≠z32):OLn (fM f R.toNat ⟨true,v,id⟩) (l++[(R,v,id)]):=by
 refine⟨h.ol.put h0 h12 hn,?_,fun p hp=>(List.mem_append.1 hp).elim (h.nz p) fun q=>by rw[List.mem_singleton.1 q];exact hz⟩
 rw[List.map_append,List.nodup_append]
 refine⟨h.nd,by simp,fun a ha b hb=>?_⟩
 rintro rfl
 obtain⟨p,hp,rfl⟩:=List.mem_map.1 ha
 have hb:p.1=R:=by simpa using hb
 have:=(h.ol.mem p hp).2.2
 rw[hb]at this
 rw[this]at hn;cases hn
theorem OLn.find{f:Nat->Ofr}{l:List ROf}{R:Int}(h:OLn f l)(h0:0<=R):((f R.toNat).there=false/\plO (fw l R) = -1)∨((f R.toNat).there=true/\∃(j:Nat) (p:ROf),plO (fw l R)=j/\l[j]?=some p/\f R.toNat=⟨true,p.2.1,p.2.2⟩/\p.2.2≠z32):=by
 have hq:=h.ol.find h0
 cases hf:fw l R with
 |none=>rw[hf]at hq;exact .inl ⟨hq.symm,rfl⟩
 |some j =>
  rw[hf]at hq
  refine .inr ⟨hq.symm,?_⟩
  unfold fw at hf
  obtain⟨hj,h1,_⟩:=List.findIdx?_eq_some_iff_getElem.1 hf
  have h1:=of_decide_eq_true h1
  refine⟨j,l[j],rfl,LH hj,?_,h.nz _ (List.getElem_mem hj)⟩
  rw[<- h1];exact(h.ol.mem _ (List.getElem_mem hj)).2.2
structure VLn(n:Nat)(v:Vt)(l:List RV):Prop where
 vl:VL n v l
 nd:(l.map fun p=>(p.1,p.2.1,p.2.2.1)).Nodup
theorem VLn.len{n:Nat}{v:Vt}{l:List RV}(h:VLn n v l)(hn:n<=7):l.length<=168:=by
 have:=AO5 (m:=(List.range 168).map fun i=>(((i/14:Nat):Int),((i/7%2:Nat):Int),((i%7:Nat):Int))) h.nd (fun x hx=>by
  obtain⟨p,hp,rfl⟩:=List.mem_map.1 hx
  obtain⟨⟨h1,h2,h3,h4,h5⟩,_⟩:=h.vl.mem p hp
  refine List.mem_map.2 ⟨p.1.toNat*14+p.2.1.toNat*7+p.2.2.1.toNat,List.mem_range.2 (by omega),?_⟩
  simp only[Prod.mk.injEq]
  exact⟨by omega,by omega,by omega⟩)
 simpa using this
theorem VLn.put{n:Nat}{v:Vt}{l:List RV}{r k w:Int}{id:Bts}(h:VLn n v l)(hp:cT n v r k w id=0):VLn n (dG n v r k w id) (l++[(r,k,w,id)]):=by
 refine⟨h.vl.put hp,?_⟩
 obtain⟨q1,q2,q3⟩:=Au0 hp
 have hz:dN n v r k w=z32:=by unfold dN;rw[if_pos q1];exact q3
 have hno:=h.vl.none hz
 rw[List.map_append,List.nodup_append]
 refine⟨h.nd,by simp,fun a ha b hb=>?_⟩
 rintro rfl
 obtain⟨p,hp,rfl⟩:=List.mem_map.1 ha
 simp only[List.map_cons,List.map_nil,List.mem_singleton,Prod.mk.injEq]at hb
 exact hno p hp hb
structure TLn(f:Nat->Nat->Bool)(l:List Act):Prop where
 tl:TL f l
 nd:l.Nodup
 bd:∀R K:Nat,f R K=true->R<12/\K<3
theorem TLn.len{f:Nat->Nat->Bool}{l:List Act}(h:TLn f l):l.length<=36:=by
 have:=AO5 (m:=(List.range 36).map fun i=>(⟨3,((i/3:Nat):Int),((i%3:Nat):Int),0,z32⟩:Act)) h.nd (fun x hx=>by
  obtain⟨R,K,rfl,t⟩:=h.tl.mem x hx
  have:=h.bd R K t
  refine List.mem_map.2 ⟨R*3+K,List.mem_range.2 (by omega),?_⟩
  simp only[Act.mk.injEq,true_and,and_true]
  exact⟨by omega,by omega⟩)
 simpa using this
theorem TLn.put{f:Nat->Nat->Bool}{l:List Act}{R K:Nat}(h:TLn f l)(hR:R<12)(hK:K<3)(hn:¬f R K=true):TLn (hQ f R K true) (l++[⟨3,R,K,0,z32⟩]):=by
 refine⟨h.tl.put,?_,fun R' K' q=>?_⟩
 . rw[List.nodup_append]
   refine⟨h.nd,by simp,fun a ha b hb=>?_⟩
   rintro rfl
   rw[List.mem_singleton.1 hb]at ha
   exact hn (h.tl.has.1 ha)
 . unfold hQ at q
   by_cases e:R'=R/\K'=K
   . obtain⟨rfl,rfl⟩:=e;exact⟨hR,hK⟩
   . rw[if_neg e]at q;exact h.bd _ _ q
theorem Cz0:OLn (fun _=>jH) []:=⟨⟨fun p h=>(by cases h),fun R h=>by cases h⟩,by simp,fun p h=>by cases h⟩
theorem Cz1(n:Nat):VLn n v0 []:=⟨vl0 n,by simp⟩
theorem Cz2:TLn (fun _ _=>false) []:=⟨⟨fun p h=>(by cases h),fun R K h=>by cases h⟩,by simp,fun R K h=>by cases h⟩
end Go.Sv
namespace Go.Sv.Tryz
open Go Go.Proofs
def rrS(r:Rd)(ov kv vv tv av:V):RrV:=⟨r.n,r.me,r.ai,r.now,r.step,r.locked,r.valid,r.lock,r.a7,r.fresh,ov,kv,vv,tv,av⟩
def xo(X:Nat->Prop)(fo:Option Nat):Nat->Prop:=fun f=>X f∨fo=some f
structure Ac(X:Nat->Prop)(N:Nat)(A:AS)(r:Rd)(ov kv vv tv av:V)(fo:Option Nat):Prop where
 l:Lst dp Hp.emp A av r.al fo
 nx:∀f,fo=some f->¬X f
 nn:∀f,fo=some f->N<=f
 nl:r.al=[]->av=.ah
 ov:∃l,Slc eRO (qHp (xo X fo) A) ov l/\OLn r.offers l
 kv:Slc eId (qHp (xo X fo) A) kv r.known
 vv:∃l,Slc eRV (qHp (xo X fo) A) vv l/\VLn r.n r.v l
 tv:∃l,Slc dp (qHp (xo X fo) A) tv l/\TLn r.bY l
structure cD(X:Nat->Prop)(N:Nat)(A:AS)(r:Rd)(ov kv vv tv av:V):Prop where
 xlt:∀f,X f->f<A.blk.length
 nlt:N<=A.blk.length
 lk:r.lock.length=32
 be:r.a7.length=32
 fr:r.fresh.length=32
 n:okN r.n
 ac:∃fo,Ac X N A r ov kv vv tv av fo
section
variable {X Y:Nat->Prop} {N:Nat} {A B C:AS} {r r':Rd} {ovq kvq vvq tvq avq w:V} {b:Nat} {S:Loc->Prop} {fo:Option Nat}
theorem Bs9:(qHp (xo X fo) A).le (qHp X A):=Ae8 fun f q=>.inl q
theorem BG0(h:Tch X A S):Tch (xo X fo) A S:=fun b k q hk=>(h b k q hk).imp id fun⟨f,base,z1,z2⟩=>⟨f,base,z1,.inl z2⟩
theorem Ac.mv(h:Ac X N A r ovq kvq vvq tvq avq fo)(hw:WF A)(hf:Fr S A B)(ht:Tch X A S):Ac X N B r ovq kvq vvq tvq avq fo:=by
 have q:(qHp (xo X fo) A).le (qHp (xo X fo) B):=Ae4 hf (BG0 ht) hw fun f z=>.inl z
 obtain⟨l1,s1,t1⟩:=h.ov
 obtain⟨l2,s2,t2⟩:=h.vv
 obtain⟨l3,s3,t3⟩:=h.tv
 exact⟨h.l.fr hf (Off.tch ht h.nx),h.nx,h.nn,h.nl,⟨l1,s1.mono q,t1⟩,h.kv.mono q,⟨l2,s2.mono q,t2⟩,⟨l3,s3.mono q,t3⟩⟩
theorem Ac.fr0(h:Ac X N A r ovq kvq vvq tvq avq fo)(hf:Fr S0 A B):Ac X N B r ovq kvq vvq tvq avq fo:=by
 have q:(qHp (xo X fo) A).le (qHp (xo X fo) B):=Ac8 hf
 obtain⟨l1,s1,t1⟩:=h.ov
 obtain⟨l2,s2,t2⟩:=h.vv
 obtain⟨l3,s3,t3⟩:=h.tv
 exact⟨h.l.fr0 hf,h.nx,h.nn,h.nl,⟨l1,s1.mono q,t1⟩,h.kv.mono q,⟨l2,s2.mono q,t2⟩,⟨l3,s3.mono q,t3⟩⟩
theorem cD.ov(h:cD X N A r ovq kvq vvq tvq avq):∃l,Slc eRO (qHp X A) ovq l/\OLn r.offers l:=by
 obtain⟨fo,h⟩:=h.ac
 obtain⟨l,s,t⟩:=h.ov
 exact⟨l,s.mono Bs9,t⟩
theorem cD.kv(h:cD X N A r ovq kvq vvq tvq avq):Slc eId (qHp X A) kvq r.known:=h.ac.choose_spec.kv.mono Bs9
theorem cD.vv(h:cD X N A r ovq kvq vvq tvq avq):∃l,Slc eRV (qHp X A) vvq l/\VLn r.n r.v l:=by
 obtain⟨fo,h⟩:=h.ac
 obtain⟨l,s,t⟩:=h.vv
 exact⟨l,s.mono Bs9,t⟩
theorem cD.tv(h:cD X N A r ovq kvq vvq tvq avq):∃l,Slc dp (qHp X A) tvq l/\TLn r.bY l:=by
 obtain⟨fo,h⟩:=h.ac
 obtain⟨l,s,t⟩:=h.tv
 exact⟨l,s.mono Bs9,t⟩
theorem cD.av(h:cD X N A r ovq kvq vvq tvq avq):Slc dp (qHp X A) avq r.al:=by
 obtain⟨fo,h⟩:=h.ac
 exact h.l.mO (fun b cs q=>by cases q) h.nx
theorem cD.ok(h:cD X N A r ovq kvq vvq tvq avq):(rrS r ovq kvq vvq tvq avq).ok:=by
 obtain⟨l1,s1,_⟩:=h.ov
 obtain⟨l2,s2,_⟩:=h.vv
 obtain⟨l3,s3,_⟩:=h.tv
 refine⟨h.lk,h.be,h.fr,?_⟩
 unfold RrV.cs rrS
 simp only[List.all_append,Bool.and_eq_true,List.all_cons,List.all_nil,Ac9,AO1]
 exact⟨⟨trivial,trivial,trivial,trivial,trivial,trivial,trivial,trivial⟩,trivial,trivial,trivial,s1.one,h.kv.one,s2.one,s3.one,h.av.one,trivial⟩
theorem cD.mv(h:cD X N A r ovq kvq vvq tvq avq)(hw:WF A)(hf:Fr S A B)(ht:Tch X A S):cD X N B r ovq kvq vvq tvq avq:=by
 obtain⟨fo,k⟩:=h.ac
 exact { h with xlt:=fun f z=>Nat.lt_of_lt_of_le (h.xlt f z) hf.len,nlt:=Nat.le_trans h.nlt hf.len,ac:=⟨fo,k.mv hw hf ht⟩ }
theorem cD.fr0(h:cD X N A r ovq kvq vvq tvq avq)(hf:Fr S0 A B):cD X N B r ovq kvq vvq tvq avq:=by
 obtain⟨fo,k⟩:=h.ac
 exact { h with xlt:=fun f z=>Nat.lt_of_lt_of_le (h.xlt f z) hf.len,nlt:=Nat.le_trans h.nlt hf.len,ac:=⟨fo,k.fr0 hf⟩ }
theorem cD.row{cs:List V}(h:cD X N A r ovq kvq vvq tvq avq)(hw:WF A)(hb:A.blk[b]?=some ⟨cs,.var⟩)(hf:Fr (·=.row b) A B):cD X N B r ovq kvq vvq tvq avq:=h.mv hw hf (.box hb)
theorem cD.upd(h:cD X N A r ovq kvq vvq tvq avq)(lk:r'.lock.length=32)(be:r'.a7.length=32)(fr:r'.fresh.length=32)(e1:r'.n=r.n)(e2:r'.offers=r.offers)(e3:r'.known=r.known)(e4:r'.v=r.v)(e5:r'.bY=r.bY)(e6:r'.al=r.al):cD X N A r' ovq kvq vvq tvq avq:=by
 obtain⟨fo,k⟩:=h.ac
 exact⟨h.xlt,h.nlt,lk,be,fr,by rw[e1];exact h.n,fo,by rw[e6];exact k.l,k.nx,k.nn,by rw[e6];exact k.nl,by rw[e2];exact k.ov,by rw[e3];exact k.kv,by rw[e1,e4];exact k.vv,by rw[e5];exact k.tv⟩
theorem cD.sub(h:cD X N A r ovq kvq vvq tvq avq)(hY:∀f,Y f->X f):cD Y N A r ovq kvq vvq tvq avq:=by
 obtain⟨fo,k⟩:=h.ac
 have q:(qHp (xo X fo) A).le (qHp (xo Y fo) A):=Ae8 fun f z=>z.imp (hY f) id
 obtain⟨l1,s1,t1⟩:=k.ov
 obtain⟨l2,s2,t2⟩:=k.vv
 obtain⟨l3,s3,t3⟩:=k.tv
 exact { h with xlt:=fun f z=>h.xlt f (hY f z),ac:=⟨fo,k.l,fun f z w=>k.nx f z (hY f w),k.nn,k.nl,⟨l1,s1.mono q,t1⟩,k.kv.mono q,⟨l2,s2.mono q,t2⟩,⟨l3,s3.mono q,t3⟩⟩ }
theorem cD.fresh{N':Nat}(h:cD X N A r ovq kvq vvq tvq avq)(ha:r.al=[])(hN:N'<=A.blk.length):cD X N' A r ovq kvq vvq tvq avq:=by
 obtain⟨fo,k⟩:=h.ac
 have le:(qHp (xo X fo) A).le (qHp (xo X none) A):=Ae8 fun f q=>q.elim .inl fun q=>by cases q
 have e:=k.nl ha
 subst e
 obtain⟨l1,s1,t1⟩:=k.ov
 obtain⟨l2,s2,t2⟩:=k.vv
 obtain⟨l3,s3,t3⟩:=k.tv
 exact { h with nlt:=hN,ac:=⟨none,by rw[ha];exact .nil,(fun f q=>by cases q),(fun f q=>by cases q),(fun _=>rfl),⟨l1,s1.mono le,t1⟩,k.kv.mono le,⟨l2,s2.mono le,t2⟩,⟨l3,s3.mono le,t3⟩⟩ }
theorem cD.lower{N':Nat}(h:cD X N A r ovq kvq vvq tvq avq)(hN:N'<=N):cD X N' A r ovq kvq vvq tvq avq:=by
 obtain⟨fo,k⟩:=h.ac
 exact { h with nlt:=Nat.le_trans hN h.nlt,ac:=⟨fo,{ k with nn:=fun f q=>Nat.le_trans hN (k.nn f q) }⟩ }
theorem cD.go(h:cD X N A r ovq kvq vvq tvq avq)(hw:WF A)(hf:Fr S A B)(ht:Tch X A S)(hY:∀f,Y f->X f∨A.blk.length<=f)(hl:∀f,Y f->f<B.blk.length):cD Y N B r ovq kvq vvq tvq avq:=by
 obtain⟨fo,k⟩:=h.ac
 have lt:=k.l.bO
 have q:(qHp (xo X fo) A).le (qHp (xo Y fo) B):=Ae4 hf (BG0 ht) hw fun f z=>z.elim (fun z=>(hY f z).imp .inl id) fun z=>.inl (.inr z)
 obtain⟨l1,s1,t1⟩:=k.ov
 obtain⟨l2,s2,t2⟩:=k.vv
 obtain⟨l3,s3,t3⟩:=k.tv
 exact { h with xlt:=hl,nlt:=Nat.le_trans h.nlt hf.len,ac:=⟨fo,k.l.fr hf (Off.tch ht k.nx),(fun f z w=>(hY f w).elim (k.nx f z) fun y=>by have:=lt f z;omega),k.nn,k.nl,⟨l1,s1.mono q,t1⟩,k.kv.mono q,⟨l2,s2.mono q,t2⟩,⟨l3,s3.mono q,t3⟩⟩ }
end
section
variable {X Y:Nat->Prop} {N:Nat} {A B C:AS} {r r':Rd} {ov kv vv tv av w:V} {b:Nat} {S:Loc->Prop} {fo:Option Nat}
def Bx(X:Nat->Prop)(N:Nat)(A:AS)(b:Nat)(r:Rd):Prop:=∃ov kv vv tv av,A.blk[b]?=some ⟨(rrS r ov kv vv tv av).cs,.var⟩/\cD X N A r ov kv vv tv av
def RRs(X:Nat->Prop)(N:Nat)(A:AS)(r:Rd)(w:V):Prop:=∃ov kv vv tv av,w=.agg (rrS r ov kv vv tv av).cs/\cD X N A r ov kv vv tv av
theorem RRs.sub(h:RRs X N A r w)(hY:∀f,Y f->X f):RRs Y N A r w:=by
 obtain⟨ov,kv,vv,tv,av,e,h⟩:=h
 exact⟨ov,kv,vv,tv,av,e,h.sub hY⟩
theorem RRs.fr0(h:RRs X N A r w)(hf:Fr S0 A B):RRs X N B r w:=by
 obtain⟨ov,kv,vv,tv,av,e,h⟩:=h
 exact⟨ov,kv,vv,tv,av,e,h.fr0 hf⟩
theorem Bx.fr0(h:Bx X N A b r)(hf:Fr S0 A B):Bx X N B b r:=by
 obtain⟨ov,kv,vv,tv,av,e,h⟩:=h
 exact⟨ov,kv,vv,tv,av,hf.af e,h.fr0 hf⟩
theorem Bx.box(h:Bx X N A b r):∃cs,A.blk[b]?=some ⟨cs,.var⟩:=by
 obtain⟨ov,kv,vv,tv,av,e,h⟩:=h
 exact⟨_,e⟩
theorem AA8{kk:BK}(hb:A.blk[b]?=some ⟨(rrS r ov kv vv tv av).cs,kk⟩)(h:cD X N A r ov kv vv tv av):aa TP 3 (.ptr b 0) A=some (.int .i64 r.n)/\aa TP 3 (.ptr b 1) A=some (.int .i64 r.me)/\aa TP 3 (.ptr b 2) A=some (.int .i64 r.ai)/\aa TP 3 (.ptr b 3) A=some (.int .i64 r.now)/\aa TP 3 (.ptr b 4) A=some (.int .i64 r.step)/\aa TP 3 (.ptr b 5) A=some (.int .i64 r.locked)/\aa TP 3 (.ptr b 6) A=some (.int .i64 r.valid)/\aa TP 31 (.ptr b 103) A=some ov/\aa TP 32 (.ptr b 104) A=some kv/\aa TP 33 (.ptr b 105) A=some vv/\aa TP 34 (.ptr b 106) A=some tv/\aa TP 34 (.ptr b 107) A=some av:=by
 obtain⟨a,b,c,d,e,f,g,i,j,k,l,m,_⟩:=Bb0 hb h.ok
 exact⟨a,b,c,d,e,f,g,i,j,k,l,m⟩
theorem Ah1(r:Rd)(ov kv vv tv av:V):(rrS r ov kv vv tv av).cs=([[V.int .i64 r.n,.int .i64 r.me,.int .i64 r.ai,.int .i64 r.now,.int .i64 r.step,.int .i64 r.locked,.int .i64 r.valid],bc r.lock,bc r.a7,bc r.fresh,[ov,kv,vv,tv,av]]:List (List V)).flatten:=by
 unfold RrV.cs rrS;simp
theorem Ap7(h:cD X N A r ov kv vv tv av):(([[V.int .i64 r.n,.int .i64 r.me,.int .i64 r.ai,.int .i64 r.now,.int .i64 r.step,.int .i64 r.locked,.int .i64 r.valid],bc r.lock,bc r.a7,bc r.fresh,[ov,kv,vv,tv,av]]:List (List V)).map List.length)=[7,32,32,32,5]:=by
 simp[Aa7,h.lk,h.be,h.fr]
theorem Cf7{kk:BK}(hb:A.blk[b]?=some ⟨(rrS r ov kv vv tv av).cs,kk⟩)(h:cD X N A r ov kv vv tv av):aa TP 30 (.ptr b 7) A=some (.agg (bc r.lock))/\aa TP 30 (.ptr b 39) A=some (.agg (bc r.a7))/\aa TP 30 (.ptr b 71) A=some (.agg (bc r.fresh)):=by
 rw[Ah1]at hb
 refine⟨?_,?_,?_⟩
 . have:=At.part (L:=[[V.int .i64 r.n,.int .i64 r.me,.int .i64 r.ai,.int .i64 r.now,.int .i64 r.step,.int .i64 r.locked,.int .i64 r.valid],bc r.lock,bc r.a7,bc r.fresh,[ov,kv,vv,tv,av]]) (i:=1) rfl
   rw[Ap7 h]at this
   exact At.load hb this Av4 Ap3 (by rw[Aa7,h.lk])
 . have:=At.part (L:=[[V.int .i64 r.n,.int .i64 r.me,.int .i64 r.ai,.int .i64 r.now,.int .i64 r.step,.int .i64 r.locked,.int .i64 r.valid],bc r.lock,bc r.a7,bc r.fresh,[ov,kv,vv,tv,av]]) (i:=2) rfl
   rw[Ap7 h]at this
   exact At.load hb this Av4 Ap3 (by rw[Aa7,h.be])
 . have:=At.part (L:=[[V.int .i64 r.n,.int .i64 r.me,.int .i64 r.ai,.int .i64 r.now,.int .i64 r.step,.int .i64 r.locked,.int .i64 r.valid],bc r.lock,bc r.a7,bc r.fresh,[ov,kv,vv,tv,av]]) (i:=3) rfl
   rw[Ap7 h]at this
   exact At.load hb this Av4 Ap3 (by rw[Aa7,h.fr])
theorem RRs.new(h:RRs X N A r w):∃cs,w=.agg cs/\∃A1,A1=A.push ⟨cs,.var⟩/\Fr S0 A A1/\Bx X N A1 A.blk.length r:=by
 obtain⟨ov,kv,vv,tv,av,rfl,h⟩:=h
 obtain⟨A1,e1,f1,r1,n1⟩:=Aa3 A (rrS r ov kv vv tv av).cs
 exact⟨_,rfl,A1,e1,f1,ov,kv,vv,tv,av,r1,h.fr0 f1⟩
theorem Bx.out(h:Bx X N A b r):∃w,aa TP 36 (.ptr b 0) A=some w/\RRs X N A r w:=by
 obtain⟨ov,kv,vv,tv,av,e,h⟩:=h
 exact⟨_,(Bb0 e h.ok).2.2.2.2.2.2.2.2.2.2.2.2,ov,kv,vv,tv,av,rfl,h⟩
theorem RRs.put{x:RrV}(h:RRs X N A r w)(hw:WF A)(hb:A.blk[b]?=some ⟨x.cs,.var⟩)(hx:x.ok):∃A',ag TP 36 (.ptr b 0) w A=some A'/\Fr (·=.row b) A A'/\Bx X N A' b r:=by
 obtain⟨ov,kv,vv,tv,av,rfl,h⟩:=h
 obtain⟨A',s1,s2,s3⟩:=AT8 hb hx h.ok
 exact⟨A',s1,s2,ov,kv,vv,tv,av,s3,h.row hw hb s2⟩
theorem Bx.set(h:Bx X N A b r)(hw:WF A)(k:RRs X N A r' w):∃A',ag TP 36 (.ptr b 0) w A=some A'/\Fr (·=.row b) A A'/\Bx X N A' b r':=by
 obtain⟨ov,kv,vv,tv,av,e,h⟩:=h
 exact k.put hw e h.ok
theorem Bx.qP(h:Bx X N A b r)(hw:WF A)(k:Int):∃A',ag TP 3 (.ptr b 3) (.int .i64 k) A=some A'/\Fr (·=.row b) A A'/\Bx X N A' b { r with now:=k }:=by
 obtain⟨ov,kv,vv,tv,av,e,h⟩:=h
 obtain⟨A',s1,s2,s3⟩:=B09 e h.ok (k:=k)
 exact⟨A',s1,s2,ov,kv,vv,tv,av,s3,(h.row hw e s2).upd h.lk h.be h.fr rfl rfl rfl rfl rfl rfl⟩
theorem Bx.mP(h:Bx X N A b r)(hw:WF A)(k:Int):∃A',ag TP 3 (.ptr b 4) (.int .i64 k) A=some A'/\Fr (·=.row b) A A'/\Bx X N A' b { r with step:=k }:=by
 obtain⟨ov,kv,vv,tv,av,e,h⟩:=h
 obtain⟨A',s1,s2,s3⟩:=B10 e h.ok (k:=k)
 exact⟨A',s1,s2,ov,kv,vv,tv,av,s3,(h.row hw e s2).upd h.lk h.be h.fr rfl rfl rfl rfl rfl rfl⟩
theorem Bx.pa(h:Bx X N A b r)(hw:WF A)(k:Int):∃A',ag TP 3 (.ptr b 5) (.int .i64 k) A=some A'/\Fr (·=.row b) A A'/\Bx X N A' b { r with locked:=k }:=by
 obtain⟨ov,kv,vv,tv,av,e,h⟩:=h
 obtain⟨A',s1,s2,s3⟩:=B11 e h.ok (k:=k)
 exact⟨A',s1,s2,ov,kv,vv,tv,av,s3,(h.row hw e s2).upd h.lk h.be h.fr rfl rfl rfl rfl rfl rfl⟩
theorem Bx.pc(h:Bx X N A b r)(hw:WF A)(k:Int):∃A',ag TP 3 (.ptr b 6) (.int .i64 k) A=some A'/\Fr (·=.row b) A A'/\Bx X N A' b { r with valid:=k }:=by
 obtain⟨ov,kv,vv,tv,av,e,h⟩:=h
 obtain⟨A',s1,s2,s3⟩:=BI7 e h.ok (k:=k)
 exact⟨A',s1,s2,ov,kv,vv,tv,av,s3,(h.row hw e s2).upd h.lk h.be h.fr rfl rfl rfl rfl rfl rfl⟩
theorem Bx.pd(h:Bx X N A b r)(hw:WF A){id:Bts}(hi:id.length=32):∃A',ag TP 30 (.ptr b 7) (.agg (bc id)) A=some A'/\Fr (·=.row b) A A'/\Bx X N A' b { r with lock:=id }:=by
 obtain⟨ov,kv,vv,tv,av,e,h⟩:=h
 have e':=e
 rw[Ah1]at e'
 obtain⟨A',s1,s2,s3,s4⟩:=Ap0 (P:=TP) (t:=30) (x:=.agg (bc id)) (cs:=bc id) (i:=1) (o:=7) e' rfl (by rw[Ap7 h];rfl) rfl (by rw[Aa7,Aa7,h.lk,hi]) (by rw[Aa7,hi];exact Ap3) (Ac9 _)
 refine⟨A',s1,s2,ov,kv,vv,tv,av,?_,(h.row hw e s2).upd hi h.be h.fr rfl rfl rfl rfl rfl rfl⟩
 rw[Ah1];exact s3
theorem Bx.pe(h:Bx X N A b r)(hw:WF A){id:Bts}(hi:id.length=32):∃A',ag TP 30 (.ptr b 39) (.agg (bc id)) A=some A'/\Fr (·=.row b) A A'/\Bx X N A' b { r with a7:=id }:=by
 obtain⟨ov,kv,vv,tv,av,e,h⟩:=h
 have e':=e
 rw[Ah1]at e'
 obtain⟨A',s1,s2,s3,s4⟩:=Ap0 (P:=TP) (t:=30) (x:=.agg (bc id)) (cs:=bc id) (i:=2) (o:=39) e' rfl (by rw[Ap7 h];rfl) rfl (by rw[Aa7,Aa7,h.be,hi]) (by rw[Aa7,hi];exact Ap3) (Ac9 _)
 refine⟨A',s1,s2,ov,kv,vv,tv,av,?_,(h.row hw e s2).upd h.lk hi h.fr rfl rfl rfl rfl rfl rfl⟩
 rw[Ah1];exact s3
theorem Bx.ny(h:Bx X N A b r)(hw:WF A){id:Bts}(hi:id.length=32):∃A',ag TP 30 (.ptr b 71) (.agg (bc id)) A=some A'/\Fr (·=.row b) A A'/\Bx X N A' b { r with fresh:=id }:=by
 obtain⟨ov,kv,vv,tv,av,e,h⟩:=h
 have e':=e
 rw[Ah1]at e'
 obtain⟨A',s1,s2,s3,s4⟩:=Ap0 (P:=TP) (t:=30) (x:=.agg (bc id)) (cs:=bc id) (i:=3) (o:=71) e' rfl (by rw[Ap7 h];rfl) rfl (by rw[Aa7,Aa7,h.fr,hi]) (by rw[Aa7,hi];exact Ap3) (Ac9 _)
 refine⟨A',s1,s2,ov,kv,vv,tv,av,?_,(h.row hw e s2).upd h.lk h.be hi rfl rfl rfl rfl rfl rfl⟩
 rw[Ah1];exact s3
theorem Bx.nA{f:Nat->Ofr}{l:List ROf}(h:Bx X N A b r)(hw:WF A)(hf:Fr S0 A B)(hs:eM eRO A.blk.length B w l)(hl:OLn f l):∃A',ag TP 31 (.ptr b 103) w B=some A'/\Fr (·=.row b) B A'/\Bx X N A' b { r with offers:=f }:=by
 obtain⟨ov,kv,vv,tv,av,e,h⟩:=h
 have e':=hf.af e
 obtain⟨A',s1,s2,s3⟩:=B06 e' h.ok hs.one
 obtain⟨fo,k⟩:=h.ac
 have k':=(k.fr0 hf).mv (hf.wf hw) s2 (.box e')
 exact⟨A',s1,s2,w,kv,vv,tv,av,s3,⟨fun f q=>Nat.lt_of_lt_of_le (h.xlt f q) (Nat.le_trans hf.len s2.len),Nat.le_trans h.nlt (Nat.le_trans hf.len s2.len),h.lk,h.be,h.fr,h.n,fo,k'.l,k'.nx,k'.nn,k'.nl,⟨l,(hs.row e' s2).slc fun f q=>q.elim (h.xlt f) (k.l.bO f),hl⟩,k'.kv,k'.vv,k'.tv⟩⟩
theorem Bx.sH{l:List Bts}(h:Bx X N A b r)(hw:WF A)(hf:Fr S0 A B)(hs:eM eId A.blk.length B w l):∃A',ag TP 32 (.ptr b 104) w B=some A'/\Fr (·=.row b) B A'/\Bx X N A' b { r with known:=l }:=by
 obtain⟨ov,kv,vv,tv,av,e,h⟩:=h
 have e':=hf.af e
 obtain⟨A',s1,s2,s3⟩:=B07 e' h.ok hs.one
 obtain⟨fo,k⟩:=h.ac
 have k':=(k.fr0 hf).mv (hf.wf hw) s2 (.box e')
 exact⟨A',s1,s2,ov,w,vv,tv,av,s3,⟨fun f q=>Nat.lt_of_lt_of_le (h.xlt f q) (Nat.le_trans hf.len s2.len),Nat.le_trans h.nlt (Nat.le_trans hf.len s2.len),h.lk,h.be,h.fr,h.n,fo,k'.l,k'.nx,k'.nn,k'.nl,k'.ov,(hs.row e' s2).slc fun f q=>q.elim (h.xlt f) (k.l.bO f),k'.vv,k'.tv⟩⟩
theorem Bx.eF{f:Vt}{l:List RV}(h:Bx X N A b r)(hw:WF A)(hf:Fr S0 A B)(hs:eM eRV A.blk.length B w l)(hl:VLn r.n f l):∃A',ag TP 33 (.ptr b 105) w B=some A'/\Fr (·=.row b) B A'/\Bx X N A' b { r with v:=f }:=by
 obtain⟨ov,kv,vv,tv,av,e,h⟩:=h
 have e':=hf.af e
 obtain⟨A',s1,s2,s3⟩:=BF9 e' h.ok hs.one
 obtain⟨fo,k⟩:=h.ac
 have k':=(k.fr0 hf).mv (hf.wf hw) s2 (.box e')
 exact⟨A',s1,s2,ov,kv,w,tv,av,s3,⟨fun f q=>Nat.lt_of_lt_of_le (h.xlt f q) (Nat.le_trans hf.len s2.len),Nat.le_trans h.nlt (Nat.le_trans hf.len s2.len),h.lk,h.be,h.fr,h.n,fo,k'.l,k'.nx,k'.nn,k'.nl,k'.ov,k'.kv,⟨l,(hs.row e' s2).slc fun f q=>q.elim (h.xlt f) (k.l.bO f),hl⟩,k'.tv⟩⟩
theorem Ci6(hb:A.blk[b]?=some ⟨(rrS r ov kv vv tv av).cs,.var⟩)(h:cD X N A r ov kv vv tv av)(hw:WF A):∃A',ag TP 33 (.ptr b 105) vv A=some A'/\Fr (·=.row b) A A'/\Bx X N A' b r:=by
 obtain⟨l,hs,_⟩:=h.vv
 obtain⟨A',s1,s2,s3⟩:=BF9 hb h.ok hs.one
 exact⟨A',s1,s2,ov,kv,vv,tv,av,s3,h.row hw hb s2⟩
theorem Bx.lO{f:Nat->Nat->Bool}{l:List Act}(h:Bx X N A b r)(hw:WF A)(hf:Fr S0 A B)(hs:eM dp A.blk.length B w l)(hl:TLn f l):∃A',ag TP 34 (.ptr b 106) w B=some A'/\Fr (·=.row b) B A'/\Bx X N A' b { r with bY:=f }:=by
 obtain⟨ov,kv,vv,tv,av,e,h⟩:=h
 have e':=hf.af e
 obtain⟨A',s1,s2,s3⟩:=B08 e' h.ok hs.one
 obtain⟨fo,k⟩:=h.ac
 have k':=(k.fr0 hf).mv (hf.wf hw) s2 (.box e')
 exact⟨A',s1,s2,ov,kv,vv,w,av,s3,⟨fun f q=>Nat.lt_of_lt_of_le (h.xlt f q) (Nat.le_trans hf.len s2.len),Nat.le_trans h.nlt (Nat.le_trans hf.len s2.len),h.lk,h.be,h.fr,h.n,fo,k'.l,k'.nx,k'.nn,k'.nl,k'.ov,k'.kv,k'.vv,⟨l,(hs.row e' s2).slc fun f q=>q.elim (h.xlt f) (k.l.bO f),hl⟩⟩⟩
theorem Bx.pA(h:Bx X N A b r)(hw:WF A):∃av A' fo,aa TP 34 (.ptr b 107) A=some av/\ag TP 34 (.ptr b 107) .ah A=some A'/\Fr (·=.row b) A A'/\Bx (xo X fo) N A' b { r with al:=[] }/\Lst dp Hp.emp A' av r.al fo/\∀f,fo=some f->¬X f/\N<=f:=by
 obtain⟨ov,kv,vv,tv,av,e,h⟩:=h
 obtain⟨A',s1,s2,s3⟩:=BF7 e h.ok (w:=.ah) rfl
 obtain⟨fo,k⟩:=h.ac
 have k':=k.mv hw s2 (.box e)
 have le:∀{A:AS},(qHp (xo X fo) A).le (qHp (xo (xo X fo) none) A):=Ae8 fun f q=>q.elim id fun q=>by cases q
 obtain⟨l1,t1,y1⟩:=k'.ov
 obtain⟨l2,t2,y2⟩:=k'.vv
 obtain⟨l3,t3,y3⟩:=k'.tv
 refine⟨av,A',fo,(AA8 e h).2.2.2.2.2.2.2.2.2.2.2,s1,s2,⟨ov,kv,vv,tv,.ah,s3,⟨fun f q=>?_,Nat.le_trans h.nlt s2.len,h.lk,h.be,h.fr,h.n,none,.nil,(fun f q=>by cases q),(fun f q=>by cases q),(fun _=>rfl),⟨l1,t1.mono le,y1⟩,k'.kv.mono le,⟨l2,t2.mono le,y2⟩,⟨l3,t3.mono le,y3⟩⟩⟩,k'.l,fun f q=>⟨k.nx f q,k.nn f q⟩⟩
 exact Nat.lt_of_lt_of_le (q.elim (h.xlt f) (k.l.bO f)) s2.len
theorem rDo{a:Act}(hw:WF A)(h:RRs X N A r w)(ha:a.id.length=32)(hl:r.al.length<=100000):∃u A',EvF TP HH 96 [w,.agg (aX a)] A u A'/\Fr S0 A A'/\RRs X N A' (r.do_ a) u:=by
 obtain⟨ov,kv,vv,tv,av,rfl,h⟩:=h
 obtain⟨u,A',k1,k2,w,rfl,k3,fo',k4,k5⟩:=Bs8 hw (Ab5 X A) h.ok ha h.av hl
 obtain⟨fo,k⟩:=h.ac
 have q:(qHp (xo X fo) A).le (qHp (xo X fo') A'):=Ae4 k2 .s0 hw fun f z=>z.elim (fun z=>.inl (.inl z)) fun z=>.inr (k5 f z)
 obtain⟨l1,s1,t1⟩:=k.ov
 obtain⟨l2,s2,t2⟩:=k.vv
 obtain⟨l3,s3,t3⟩:=k.tv
 exact⟨_,A',k1,k2,ov,kv,vv,tv,w,rfl,⟨fun f z=>Nat.lt_of_lt_of_le (h.xlt f z) k2.len,Nat.le_trans h.nlt k2.len,h.lk,h.be,h.fr,h.n,fo',k4,(fun f z y=>by have:=h.xlt f y;have:=k5 f z;omega),(fun f z=>Nat.le_trans h.nlt (k5 f z)),(fun z=>absurd z (by show ¬r.al++[a]=[];simp)),⟨l1,s1.mono q,t1⟩,k.kv.mono q,⟨l2,s2.mono q,t2⟩,⟨l3,s3.mono q,t3⟩⟩⟩
end
end Go.Sv.Tryz
namespace Go.Sv.Tryz
open Go Go.Proofs
section
variable {X:Nat->Prop} {N:Nat} {A B:AS} {r r':Rd} {ov kv vv tv av w:V} {b:Nat}
theorem RRs.fin{b4:Nat}(h:RRs X N A r w)(hw:WF A)(hz:A.blk[b4]?=some ⟨rrZ.cs,.var⟩):∃A',ag TP 36 (.ptr b4 0) w A=some A'/\aa TP 36 (.ptr b4 0) A'=some w/\Fr (·=.row b4) A A'/\RRs X N A' r w:=by
 obtain⟨ov,kv,vv,tv,av,rfl,h⟩:=h
 obtain⟨A',s1,s2,s3⟩:=AT8 hz AA7 h.ok
 exact⟨A',s1,(Bb0 s3 h.ok).2.2.2.2.2.2.2.2.2.2.2.2,s2,ov,kv,vv,tv,av,rfl,h.row hw hz s2⟩
theorem Bx.fin{b4:Nat}(h:Bx X N A b r)(hw:WF A)(hz:A.blk[b4]?=some ⟨rrZ.cs,.var⟩):∃w A',aa TP 36 (.ptr b 0) A=some w/\ag TP 36 (.ptr b4 0) w A=some A'/\aa TP 36 (.ptr b4 0) A'=some w/\Fr (·=.row b4) A A'/\RRs X N A' r w:=by
 obtain⟨w,l,k⟩:=h.out
 obtain⟨A',s1,s2,s3,s4⟩:=k.fin hw hz
 exact⟨w,A',l,s1,s2,s3,s4⟩
theorem Ci7:bT TP 50 127=some (.int .i64::.int .i64::.int .i64::.int .i64::List.replicate 32 (.int .u8)):=by kernel_rfl
theorem B12{x y:Act}(hx:x.id.length=32)(hy:y.id.length=32):fO TP 127 (.agg (aX x)) (.agg (aX y))=some (decide (x=y)):=by
 have hg:TP.eqGuardType TP.depth 127=false:=by kernel_rfl
 unfold fO
 simp only[Ci7,BE2,hg]
 have e1:=Ak8 x.id
 have e2:=Ak8 y.id
 rw[hx]at e1;rw[hy]at e2
 have e3:=Ak2 x.id y.id (by omega)
 unfold aX
 simp only[an,aN,e1,e2,e3,V.bU,Bool.and_true,Bool.true_and,Bool.not_false,if_true]
 have e4:(decide (x=y))=(x.kind == y.kind && (x.round == y.round && (x.num == y.num && (x.valid == y.valid && decide (x.id=y.id))))):=by
  cases x;cases y
  rw[Bool.eq_iff_iff]
  simp
 rw[e4];rfl
theorem Cu6(b o:Nat):ae TP 127 (.ptr b o) 0=some (.ptr b o)/\ae TP 127 (.ptr b o) 1=some (.ptr b (o+1))/\ae TP 127 (.ptr b o) 2=some (.ptr b (o+2))/\ae TP 127 (.ptr b o) 3=some (.ptr b (o+3))/\ae TP 127 (.ptr b o) 4=some (.ptr b (o+4)):=⟨by kernel_rfl,by kernel_rfl,by kernel_rfl,by kernel_rfl,by kernel_rfl⟩
theorem B13(a b c:Int):au TP 127 [(0,.int .i64 a),(1,.int .i64 b),(2,.int .i64 c)]=some (.agg (aX ⟨a,b,c,0,z32⟩)):=by kernel_rfl
theorem Cz3:(aC TP 127).bind V.cells=some (aX ⟨0,0,0,0,z32⟩):=by kernel_rfl
theorem Ci8{A:AS}{a:Act}(h:a.id.length=32):∃A',ag TP 127 (.ptr A.blk.length 0) (.agg (aX a)) (A.push ⟨aX ⟨0,0,0,0,z32⟩,.var⟩)=some A'/\Fr S0 A A'/\A'.blk[A.blk.length]?=some ⟨aX a,.var⟩:=by
 obtain⟨A2,s1,s2,s3,s4⟩:=Ag5 (P:=TP) A (z:=aX ⟨0,0,0,0,z32⟩) (t:=127) (x:=.agg (aX a)) (cs:=aX a) rfl (by rw[Aj2 h];exact Bf2) (by rw[Aj2 h];rfl) (by simp only[aX,List.all_cons,Ac9];rfl)
 exact⟨A2,s1,s2,s3⟩
theorem Cu7{m:Hp}{v:V}{l:List Act}(hm:m.on A)(h:Slc dp m v l){j:Nat}{p:Act}(hp:l[j]?=some p):∃b o,aj TP 34 v (.int .i64 (j:Int))=some (.ptr b o)/\aa TP 127 (.ptr b o) A=some (.agg (aX p))/\p.id.length=32:=by
 obtain⟨b,o,w,g1,g2,g3⟩:=h.at (P:=TP) (k:=.i64) hm Tryz.underlying34 Bf2 BE2 hp
 obtain⟨rfl,h2⟩:=BE9.1 g3
 exact⟨b,o,g1,g2,h2⟩
set_option maxRecDepth 10000 in
set_option maxHeartbeats 16000000 in
theorem Bh5{k:Nat}(hw:WF A)(h:RRs X N A r w)(hk:k<3)(h0:0<=r.now)(h12:r.now<12)(hl:r.al.length<=100000):∃u A',EvF TP HH 95 [w,.int .i64 (k:Int)] A u A'/\Fr S0 A A'/\RRs X N A' (r.timer k) u:=by
 refine Aa4 rfl Tryz.func95 (by unfold Tryz.f95;rfl) Tryz.ntmps95 (by unfold Tryz.f95;rfl) (by simp) ?_
 obtain⟨cs,rfl,A1,e1,f1,hB1⟩:=h.new
 obtain⟨b2,hb2⟩:∃b,b=A.blk.length:=⟨_,rfl⟩
 rw[<- hb2]at hB1
 obtain⟨A2,e2,f2,r2,n2⟩:=Aa3 A1 rrZ.cs
 obtain⟨b4,hb4⟩:∃b,b=A1.blk.length:=⟨_,rfl⟩
 rw[<- hb4]at r2
 obtain⟨i,hi⟩:=Int.eq_ofNat_of_zero_le h0
 have dW:i<12:=by omega
 have hin:r.now.toNat=i:=by omega
 obtain⟨A3,e3,f3,r3⟩:=Ci8 (A:=A2) (a:=⟨3,i,k,0,z32⟩) rfl
 obtain⟨b5,hb5⟩:∃b,b=A2.blk.length:=⟨_,rfl⟩
 rw[<- hb5]at e3 r3
 have fa:=AJ1 b2
 have hB2:=hB1.fr0 f2
 have hB3:=hB2.fr0 f3
 have f13:Fr S0 A A3:=(f1.ab f2).ab f3
 have w3:=f13.wf hw
 have tM:b2<b4/\b4<b5:=by
  obtain⟨cs,q⟩:=hB1.box
  have:=Ab3 q
  have:=Ab3 r2
  omega
 obtain⟨ov,kv,vv,tv,av,hb,hr⟩:=hB3
 have ld:=AA8 hb hr
 obtain⟨ov',kv',vv',tv',av',hb',hr'⟩:=hB2
 have ld2:=AA8 hb' hr'
 rw[hi]at ld2
 obtain⟨l,hS,hT⟩:=hr.tv
 have hll:=hT.len
 have hln:=fun B=>hS.len (P:=TP) Tryz.underlying34 B
 unfold Rd.timer
 rw[hin]
 simp only[RT,Q0,Q1,Q2,Q3,Q4,Q5,Q6,Q7,Q8,<- e1,<- hb2]
 simp only[RT,Q0,Q1,Q2,Q3,Q4,Q5,Q6,Q7,Q8,AI9,<- hb4,<- e2,fa,ld2,B13,Cz3]
 simp only[RT,Q0,Q1,Q2,Q3,Q4,Q5,Q6,Q7,Q8,<- hb5,e3]
 have la:=Bs7 r3 (a:=⟨3,i,k,0,z32⟩) rfl
 have r4:=f3.af r2
 refine Aa6 (fun z e B=>∃(j:Nat),z=l.length-j/\j<=l.length/\e.get 6=.int .i64 j/\(¬(⟨3,i,k,0,z32⟩:Act)∈l.take j)/\e.get 2=.ptr b2 0/\e.get 4=.ptr b4 0/\e.get 5=.ptr b5 0/\Is B A3)
  (fun z e B=>(Is z (.exit 0)/\e.get 2=.ptr b2 0/\e.get 4=.ptr b4 0/\e.get 5=.ptr b5 0/\Is B A3/\¬(⟨3,i,k,0,z32⟩:Act)∈l)∨(Is z .ret/\e.get 4=.ptr b4 0/\(⟨3,i,k,0,z32⟩:Act)∈l/\∃u,aa TP 36 (.ptr b4 0) B=some u/\Fr S0 A B/\RRs X N B r u))
  ⟨_,0,rfl,by omega,rfl,by simp,rfl,rfl,rfl,rfl⟩ ?_ ?_
 . rintro z e B ⟨j,rfl,hj,h6,hno,g2,g4,g5,rfl⟩
   simp only[RT,Q0,Q1,Q2,Q3,Q4,Q5,Q6,Q7,Q8,h6,g2,fa,ld,hln]
   refine Aa8 (fun q1=>?_) (fun q1=>?_)
   rotate_left
   . have:j=l.length:=by omega
     subst this
     rw[List.take_length]at hno
     simp only[RT,Q0,Q1,Q2,Q3,Q4,Q5,Q6,Q7,Q8]
     refine .inl ⟨rfl,?_⟩
     and_intros<;>first |rfl |assumption
   obtain⟨p,hp⟩:=Ac7 (l:=l) (i:=j) (by omega)
   obtain⟨b,o,g1,g3,g7⟩:=Cu7 (Ab5 X _) hS hp
   have hwi:IntKind.i64.wrap ((j:Int)+1)=((j+1:Nat):Int):=by rw[Ac2 (by omega)]
   simp only[RT,Q0,Q1,Q2,Q3,Q4,Q5,Q6,Q7,Q8]
   rw[BW5,Aa2 (by rfl)]
   by_cases c1:p=⟨3,i,k,0,z32⟩
   . have hB3:Bx X N B b2 r:=⟨_,_,_,_,_,hb,hr⟩
     obtain⟨u,C,y1,y2,y3,y4,y5⟩:=hB3.fin w3 r4
     simp only[RT,Q0,Q1,Q2,Q3,Q4,Q5,Q6,Q7,Q8,h6,g2,g5,fa,ld,g1,g3,la,B12 g7 (y:=⟨3,i,k,0,z32⟩) rfl,DT c1,y1,g4,y2]
     refine .inr ⟨rfl,by rw[<- c1];exact List.mem_of_getElem? hp,u,?_⟩
     exact⟨y3,f13.ar y4 (by omega),y5⟩
   . simp only[RT,Q0,Q1,Q2,Q3,Q4,Q5,Q6,Q7,Q8,h6,g2,g5,fa,ld,g1,g3,la,B12 g7 (y:=⟨3,i,k,0,z32⟩) rfl,DF c1,hwi]
     refine⟨l.length-(j+1),by omega,j+1,rfl,by omega,rfl,fun hq=>?_,?_⟩
     . rw[Ab6 hp]at hq
       rcases List.mem_append.1 hq with hq |hq
       . exact hno hq
       . exact c1 (List.mem_singleton.1 hq).symm
     . and_intros<;>first |rfl |assumption
 . rintro z e B hz (⟨rfl,g2,g4,g5,rfl,hno⟩ |⟨rfl,g4,hin,u,hu,hf,hR⟩)
   rotate_left
   . simp only[RT,Q0,Q1,Q2,Q3,Q4,Q5,Q6,Q7,Q8,g4,hu]
     rw[if_pos (hT.tl.has.1 hin)]
     exact⟨hf,hR⟩
   have qQ:¬r.bY i k=true:=fun q=>hno (hT.tl.has.2 q)
   obtain⟨v1,B1,v2,B2,p1,p2,p3,p4,hS2⟩:=Aq9 (P:=TP) (t:=34) (e:=127) (n:=36) (y:=⟨3,i,k,0,z32⟩) (cs':=aX ⟨3,i,k,0,z32⟩) rfl Bh4 Ct6 w3 (Ab5 X _) hS ⟨rfl,rfl⟩ (by omega) (by omega)
   have hB:Bx X N B b2 r:=⟨_,_,_,_,_,hb,hr⟩
   have lP:=(AA8 ((Fr.aF B []).af hb) (hr.fr0 (Fr.aF B []))).2.2.2.2.2.2.2.2.2.2.1
   have la1:=Bs7 (p3.af r3) (a:=⟨3,i,k,0,z32⟩) rfl
   have w2:=p4.wf w3
   obtain⟨C,s1,s2,s3⟩:=hB.lO w3 p4 hS2 (hT.put dW hk qQ)
   have wC:=s2.wf w2
   obtain⟨u,y1,y2⟩:=s3.out
   obtain⟨cs2,q2⟩:=hB.box
   have laC:=Bs7 (s2.aq (p4.af r3) (by omega)) (a:=⟨3,i,k,0,z32⟩) rfl
   obtain⟨u',D,z1,z2,z3⟩:=rDo wC y2 (a:=⟨3,i,k,0,z32⟩) rfl hl
   have r4D:=z2.af (s2.aq (p4.af r4) (by omega))
   obtain⟨E,t1,t2,t3,t4⟩:=z3.fin (z2.wf wC) r4D
   simp only[RT,Q0,Q1,Q2,Q3,Q4,Q5,Q6,Q7,Q8,BF8,g2,fa,lP,p1,g5,la1,B03 (a:=⟨3,i,k,0,z32⟩) rfl,p2,s1,y1,laC]
   refine Aa0 z1 ?_
   simp only[RT,Q0,Q1,Q2,Q3,Q4,Q5,Q6,Q7,Q8,g4,t1,t2]
   rw[if_neg qQ,show(⟨3,r.now,k,0,z32⟩:Act)=⟨3,i,k,0,z32⟩ by rw[hi]]
   exact⟨(((f13.ab p4).ar s2 (by omega)).ab z2).ar t3 (by omega),t4⟩
end
end Go.Sv.Tryz
