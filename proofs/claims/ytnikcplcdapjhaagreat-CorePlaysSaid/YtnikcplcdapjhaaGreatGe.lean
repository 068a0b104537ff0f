/- Rounds in memory: a round, and a count beside it. -/
import Derived.Test.YtnikcplcdapjhaaGreatGd
import Derived.Test.YtnikcplcdapjhaaGreatGa
open Go.Proofs.Tryz renaming prog → TP
set_option linter.unusedSimpArgs false
set_option linter.unusedVariables false
open Nat renaming reduceLT → Q0, reduceBEq → Q1, reduceEqDiff → Q2, reduceAdd → Q3
open Int renaming reduceEq → Q4, reduceLT → Q5, reduceLE → Q6, reduceGT → Q7, reduceGE → Q8
namespace Go.Sv
end Go.Sv
namespace Go.Sv.Tryz
open Go Go.Proofs
section
variable {A B C:AS} {rp cp:Nat} {r r':Rd} {vb:Nat->Nat} {fk:Option Nat} {cp2 n:Nat} {vb2:Nat->Nat} {v2:Vt}
structure J2(A B:AS)(rp cp:Nat)(vb:Nat->Nat)(r:Rd)(fk:Option Nat)(cp2 n:Nat)(vb2:Nat->Nat)(v2:Vt):Prop where
 fr:Fr S0 A B
 gk:Gr A none fk
 rd:a4 B rp r cp vb fk none
 nr:kY A rp vb
 c2:bq B cp2 n v2 vb2
 n2:A.blk.length<=cp2/\∀j,j<24->A.blk.length<=vb2 j
 ne:∀i j,i<24->j<24->vb i≠vb2 j
 nf:∀j,j<24->fk≠some (vb2 j)
 nc:rp≠cp2
end
end Go.Sv.Tryz
namespace Go.Sv
end Go.Sv
namespace Go.Sv.Tryz
open Go Go.Proofs
section
variable {A B C:AS} {rp cp:Nat} {r r':Rd} {vb:Nat->Nat} {fk:Option Nat} {cp2 n:Nat} {vb2:Nat->Nat} {v2:Vt}
end
end Go.Sv.Tryz
namespace Go.Sv.Tryz
open Go Go.Proofs
section
variable {A B C:AS} {rp cp:Nat} {r r':Rd} {vb:Nat->Nat} {fk fa:Option Nat} {rp2 cp2:Nat} {vb2:Nat->Nat} {r2:Rd} {fk2:Option Nat}
end
end Go.Sv.Tryz
namespace Go.Sv
open Go
def TS(Bx X:Nat->Prop)(A:AS):Loc->Prop
 |.row b=>(∃cs,A.blk[b]?=some ⟨cs,.var⟩/\Bx b)∨∃cs f base,A.blk[b]?=some ⟨cs,.arr f base⟩/\X f
 |.fam f=>X f
 | _=>False
section
variable {Bx X:Nat->Prop} {A B:AS}
theorem TS.box{b:Nat}{cs:List V}(hb:A.blk[b]?=some ⟨cs,.var⟩)(h:¬Bx b):¬TS Bx X A (.row b):=by
 rintro(⟨cs',q,w⟩ |⟨cs',f,base,q,w⟩)
 . exact h w
 . rw[hb]at q;cases q
theorem TS.arr{b f base:Nat}{cs:List V}(hb:A.blk[b]?=some ⟨cs,.arr f base⟩)(h:¬X f):¬TS Bx X A (.row b):=by
 rintro(⟨cs',q,w⟩ |⟨cs',f',base',q,w⟩)
 . rw[hb]at q;cases q
 . rw[hb]at q;cases q;exact h w
theorem TS.new{A0:AS}(hw:WF A0)(hf:Fr S0 A0 A)(h1:∀b,Bx b->A0.blk.length<=b)(h2:∀f,X f->A0.blk.length<=f){x:Loc}(h:TS Bx X A x):x.dK A0:=by
 cases x with
 |row b =>
  rcases h with⟨cs,q,w⟩ |⟨cs,f,base,q,w⟩
  . exact h1 b w
  . rcases Nat.lt_or_ge b A0.blk.length with z |z
    rotate_left
    . exact z
    obtain⟨cs',k1,k2⟩:=hf.kind b _ (LH z)
    rw[q]at k1
    have k3:A0.blk[b].kind=.arr f base:=by cases hk:A0.blk[b].kind<;>rw[hk]at k1<;>cases k1;rfl
    have:=hw b _ f base (LH z) k3
    have:=h2 f w;omega
 |fam f=>exact h2 f h
 |map r=>exact h.elim
 |loop r=>exact h.elim
 |it r=>exact h.elim
end
end Go.Sv
namespace Go.Sv.Tryz
open Go Go.Proofs
section
variable {A B C:AS} {rp cp:Nat} {r r':Rd} {vb:Nat->Nat} {fk fa:Option Nat} {Bx X:Nat->Prop}
def XR(vb:Nat->Nat)(fk:Option Nat):Nat->Prop:=fun f=>(∃j,j<24/\f=vb j)∨fk=some f
theorem B39(h:a4 A rp r cp vb fk none){x:Loc}(q:rdS A rp vb fk none x):TS (·=rp) (XR vb fk) A x:=by
 rcases q with rfl |⟨j,hj,rfl⟩ |q |q
 . obtain⟨kv,av,b,_⟩:=h.box
   exact .inl ⟨_,b,rfl⟩
 . exact .inr ⟨_,_,_,h.cnt.row j hj,.inl ⟨j,hj,rfl⟩⟩
 . cases hfk:fk with
   |none=>rw[hfk]at q;exact q.elim
   |some f =>
    rw[hfk]at q
    cases x with
    |row b =>
     obtain⟨k,base,z1,z2⟩:=q
     obtain⟨cs,kd⟩:=k
     have z2:kd=.arr f base:=z2
     subst z2
     exact .inr ⟨_,_,_,z1,.inr rfl⟩
    |fam g=>exact .inr (congrArg some (show f=g from(show g=f from q).symm))
    |map r=>exact q.elim
    |loop r=>exact q.elim
    |it r=>exact q.elim
 . exact q.elim
theorem a4.xlt(h:a4 A rp r cp vb fk none){f:Nat}(q:XR vb fk f):f<A.blk.length:=by
 rcases q with⟨j,hj,rfl⟩ |q
 . exact h.cnt.lt hj
 . obtain⟨kv,av,b,b2,_⟩:=h.box
   exact b2.bO f q
variable {g:Nat} {rps cps:Nat->Nat} {vbs:Nat->Nat->Nat} {rs:Nat->Rd} {fks:Nat->Option Nat}
def upd{α:Type}(f:Nat->α)(i:Nat)(x:α):Nat->α:=fun j=>if j=i then x else f j
end
end Go.Sv.Tryz
namespace Go.Sv
open Go
theorem TS.back{Bx Bx' X X':Nat->Prop}{S:Loc->Prop}{A B:AS}(hw:WF A)(hf:Fr S A B)(h1:∀b,Bx' b->Bx b∨A.blk.length<=b)(h2:∀f,X' f->X f∨A.blk.length<=f){x:Loc}(h:TS Bx' X' B x):TS Bx X A x∨x.dK A:=by
 cases x with
 |row b =>
  rcases Nat.lt_or_ge b A.blk.length with z |z
  rotate_left
  . exact .inr z
  obtain⟨cs',k1,k2⟩:=hf.kind b _ (LH z)
  rcases h with⟨cs,q,w⟩ |⟨cs,f,base,q,w⟩
  . rw[q]at k1
    have k3:A.blk[b].kind=.var:=by cases hk:A.blk[b].kind<;>rw[hk]at k1<;>cases k1<;>rfl
    rcases h1 b w with y |y
    . exact .inl (.inl ⟨A.blk[b].cells,by rw[LH z,<- k3],y⟩)
    . omega
  . rw[q]at k1
    have k3:A.blk[b].kind=.arr f base:=by cases hk:A.blk[b].kind<;>rw[hk]at k1<;>cases k1<;>rfl
    have hlt:=hw b _ f base (LH z) k3
    rcases h2 f w with y |y
    . exact .inl (.inr ⟨A.blk[b].cells,f,base,by rw[LH z,<- k3],y⟩)
    . omega
 |fam f=>exact(h2 f h).imp id id
 |map r=>exact h.elim
 |loop r=>exact h.elim
 |it r=>exact h.elim
theorem TS.lX{Bx X:Nat->Prop}{A:AS}{fo:Option Nat}(h:∀f,fo=some f->X f){x:Loc}(q:aI A fo x):TS Bx X A x:=by
 cases fo with
 |none=>exact q.elim
 |some f =>
  cases x with
  |row b =>
   obtain⟨k,base,z1,z2⟩:=q
   obtain⟨cs,kd⟩:=k
   have z2:kd=.arr f base:=z2
   subst z2
   exact .inr ⟨_,_,_,z1,h f rfl⟩
  |fam g=>exact(show g=f from q) ▸ h f rfl
  |map r=>exact q.elim
  |loop r=>exact q.elim
  |it r=>exact q.elim
structure Ml where
 src:Nat
 dst:Nat
 act:Act
end Go.Sv
namespace Go.Sv.Tryz
open Go Go.Proofs
section
variable {A B C:AS} {hp g:Nat} {rps cps:Nat->Nat} {vbs:Nat->Nat->Nat} {rs:Nat->Rd} {fks:Nat->Option Nat} {av mv:V} {fal fm:Option Nat} {db:Nat} {ml:List Ml} {dn:Nat->Bts}
end
end Go.Sv.Tryz
namespace Go.Sv
open Go
def TM(Bx X Mp:Nat->Prop)(A:AS):Loc->Prop
 |.row b=>TS Bx X A (.row b)
 |.fam f=>X f
 |.map r=>Mp r
 | _=>False
section
variable {Bx X Mp Bx' X' Mp':Nat->Prop} {A B:AS} {S:Loc->Prop}
theorem TM.ts{x:Loc}(h:TS Bx X A x):TM Bx X Mp A x:=by
 cases x with
 |row b=>exact h
 |fam f=>exact h
 |map r=>exact h.elim
 |loop r=>exact h.elim
 |it r=>exact h.elim
theorem TM.back(hw:WF A)(hf:Fr S A B)(h1:∀b,Bx' b->Bx b∨A.blk.length<=b)(h2:∀f,X' f->X f∨A.blk.length<=f)(h3:∀r,Mp' r->Mp r∨A.maps.length<=r){x:Loc}(h:TM Bx' X' Mp' B x):TM Bx X Mp A x∨x.dK A:=by
 cases x with
 |row b=>exact TS.back (x:=.row b) hw hf h1 h2 h
 |fam f=>exact h2 f h
 |map r=>exact h3 r h
 |loop r=>exact h.elim
 |it r=>exact h.elim
theorem TM.mono(h1:∀b,Bx b->Bx' b)(h2:∀f,X f->X' f)(h3:∀r,Mp r->Mp' r){x:Loc}(h:TM Bx X Mp A x):TM Bx' X' Mp' A x:=by
 cases x with
 |row b=>exact h.elim (fun⟨cs,q,w⟩=>.inl ⟨cs,q,h1 _ w⟩) fun⟨cs,f,base,q,w⟩=>.inr ⟨cs,f,base,q,h2 _ w⟩
 |fam f=>exact h2 f h
 |map r=>exact h3 r h
 |loop r=>exact h.elim
 |it r=>exact h.elim
theorem TM.tch:Tch X A (TM Bx X Mp A):=by
 rintro b k (⟨cs,q,w⟩ |⟨cs,f,base,q,w⟩) hk
 . rw[q]at hk;cases hk;exact .inl rfl
 . rw[q]at hk;cases hk;exact .inr ⟨f,base,rfl,w⟩
theorem TM.box{b:Nat}{cs:List V}(hb:A.blk[b]?=some ⟨cs,.var⟩)(h:¬Bx b):¬TM Bx X Mp A (.row b):=TS.box hb h
theorem TM.off{fo:Option Nat}(h:∀f,fo=some f->¬X f):Off fo A (TM Bx X Mp A):=Off.tch TM.tch h
theorem TM.new{A0:AS}(hw:WF A0)(hf:Fr S0 A0 A)(h1:∀b,Bx b->A0.blk.length<=b)(h2:∀f,X f->A0.blk.length<=f)(h3:∀r,Mp r->A0.maps.length<=r){x:Loc}(h:TM Bx X Mp A x):x.dK A0:=by
 cases x with
 |row b=>exact TS.new hw hf h1 h2 (x:=.row b) h
 |fam f=>exact h2 f h
 |map r=>exact h3 r h
 |loop r=>exact h.elim
 |it r=>exact h.elim
end
structure CoK where
 cb:Nat
 rp:Nat
 cp:Nat
 mb:Nat
 mg:Nat
 vb:Nat->Nat
structure eI(c:Co):Prop where
 now:0<=c.now/\c.now<=1000000
 tim:c.tim.length<=40
 bat:∀p∈c.bat,p.1=az p.2/\p.2.length<=1000000
 done:c.done.length<=1000000
theorem eI.rd{c:Co}(h:eI c){r:Rd}:eI { c with rd:=r }:={ h with }
theorem AF4{κ β:Type}[DecidableEq κ]{k:κ}{v:β}:∀{l:List (κ×β)},aQ l k=some v->(k,v)∈l
 |[],h=>by simp[aQ]at h
 | (a,w)::l,h=>by
  unfold aQ at h
  split at h
  . rename_i q;cases h;rw[q];exact List.mem_cons_self
  . exact List.mem_cons_of_mem _ (AF4 h)
theorem eI.look{c:Co}(h:eI c)(k:Bts):((aQ c.bat k).getD []).length<=1000000:=by
 cases q:aQ c.bat k with
 |none=>simp
 |some v=>exact(h.bat _ (AF4 q)).2
theorem A72{l:List (Bts×Bts)}{b:Bts}(h:∀p∈l,p.1=az p.2/\p.2.length<=1000000)(hb:b.length<=1000000):∀p∈fU l b,p.1=az p.2/\p.2.length<=1000000:=by
 intro p hp
 unfold fU at hp
 split at hp
 . exact h p hp
 . rcases List.mem_append.1 hp with q |q
   . exact h p q
   . rw[List.mem_singleton.1 q];exact⟨rfl,hb⟩
def nz(X:Nat->Prop)(fk ft fo:Option Nat):Nat->Prop:=fun f=>X f∨fk=some f∨ft=some f∨fo=some f
def Gw(A:AS)(fo fo':Option Nat):Prop:=∀f,fo'=some f->fo=some f∨A.blk.length<=f
theorem Gw.or{A:AS}{fo fo':Option Nat}(h:Gw A fo fo'){f:Nat}(hf:fo'=some f):fo=some f∨A.blk.length<=f:=h f hf
theorem Gw.da{A:AS}{fo:Option Nat}:Gw A fo fo:=fun f q=>.inl q
theorem Gr.gw{A:AS}{fo fo':Option Nat}(h:Gr A fo fo'):Gw A fo fo':=fun f q=>h.or q
theorem Gw.trans{A B:AS}{f1 f2 f3:Option Nat}(h:Gw A f1 f2)(k:Gw B f2 f3)(hl:A.blk.length<=B.blk.length):Gw A f1 f3:=fun f q=>by
 rcases k f q with z |z
 . exact h f z
 . exact .inr (by omega)
theorem Gw.from{A B:AS}{f1 f2:Option Nat}(h:Gw B f1 f2)(hl:A.blk.length<=B.blk.length):Gw A f1 f2:=fun f q=>(h f q).imp id fun z=>by omega
structure Kn(r r':Rd):Prop where
 n:r'.n=r.n
 me:r'.me=r.me
 ai:r'.ai=r.ai
theorem Kn.da(r:Rd):Kn r r:=⟨rfl,rfl,rfl⟩
theorem Kn.trans{a b c:Rd}(h:Kn a b)(k:Kn b c):Kn a c:=⟨k.n.trans h.n,k.me.trans h.me,k.ai.trans h.ai⟩
theorem Kp.kn{r r':Rd}(h:Kp r r'):Kn r r':=⟨h.n,h.me,h.ai⟩
theorem An4(r:Rd):Kn r r.settle.1:=by have:=A57 1000 r;exact⟨this.n,this.me,this.ai⟩
theorem A73(r:Rd)(id:Bts):Kn r (r.bA id).1:=by
 unfold Rd.bA;split
 . exact An4 r
 . exact Kn.trans (b:=({ r with fresh:=if id=z32 then r.fresh else id }:Rd).begin 0) (by have:=AN2 ({ r with fresh:=if id=z32 then r.fresh else id }:Rd) 0;exact⟨this.n,this.me,this.ai⟩) (An4 _)
theorem AF5(r:Rd)(id:Bts):Kn r (r.cK id):=by unfold Rd.cK;split<;>exact⟨rfl,rfl,rfl⟩
theorem BJ9(r:Rd)(id:Bts):Kn r (r.fX id).1:=(AF5 r id).trans (An4 _)
theorem Bc3(r:Rd)(R v:Int)(id:Bts):Kn r (r.bZ R v id).1:=by
 unfold Rd.bZ;refine Kn.trans ?_ (An4 _);split<;>exact⟨rfl,rfl,rfl⟩
theorem Bu4(r:Rd)(R K W:Int)(id:Bts):Kn r (r.dm R K W id).1:=by
 unfold Rd.dm;refine Kn.trans ?_ (An4 _);split<;>exact⟨rfl,rfl,rfl⟩
theorem Bc4(r:Rd)(R K:Int):Kn r (r.cj R K).1:=by
 unfold Rd.cj;refine Kn.trans ?_ (An4 _)
 split
 . split
   . exact(AD6 _ _ _).kn
   split
   . exact(AD6 _ _ _).kn
   split
   . exact(AN2 _ _).kn
   . exact .da r
 . exact .da r
theorem AU8(r:Rd)(a:Act):Kn r (r.cI a):=by
 unfold Rd.cI
 repeat' split
 all_goals first |exact .da r |exact⟨rfl,rfl,rfl⟩ | (simp only[];split<;>first |exact⟨rfl,rfl,rfl⟩ | (split<;>exact⟨rfl,rfl,rfl⟩))
end Go.Sv
namespace Go.Sv.Tryz
open Go Go.Proofs
def XCo(K:CoK)(fk ft:Option Nat):Nat->Prop:=fun f=>XR K.vb fk f∨ft=some f
def LCo(K:CoK)(fk ft:Option Nat)(A:AS):Loc->Prop:=TM (fun b=>b=K.cb∨b=K.rp) (XCo K fk ft) (fun r=>r=K.mb∨r=K.mg) A
structure bV(X:Nat->Prop)(A:AS)(K:CoK)(fk ft:Option Nat)(c:Co):Prop where
 rd:a4 A K.rp c.rd K.cp K.vb fk none
 cm:CoM X A K.cb K.rp K.mb K.mg c ft
 sub:∀f,XCo K fk ft f->X f
 xlt:∀f,X f->f<A.blk.length
 ne1:K.cb≠K.rp
 ne2:K.cb≠K.cp
 dj:∀f,ft=some f->¬XR K.vb fk f
 rng:Rng c.rd
 al:c.rd.al=[]
 lim:eI c
section
variable {X Y:Nat->Prop} {A B C:AS} {K:CoK} {c c1 c2:Co} {fk ft fk1 ft1 fk2 ft2 fo fo1 fo2:Option Nat} {S:Loc->Prop}
theorem bV.pE(h:bV X A K fk ft c):∃cs,A.blk[K.cb]?=some ⟨cs,.var⟩:=by
 obtain⟨_,_,_,b,_⟩:=h.cm.ex;exact⟨_,b⟩
theorem bV.pG(h:bV X A K fk ft c):∃cs,A.blk[K.rp]?=some ⟨cs,.var⟩:=by
 obtain⟨_,_,b,_⟩:=h.rd.box;exact⟨_,b⟩
theorem bV.fr0(h:bV X A K fk ft c)(hf:Fr S0 A B):bV X B K fk ft c :=
 { h with rd:=h.rd.fr0 hf,cm:=h.cm.fr0 hf,xlt:=fun f q=>Nat.lt_of_lt_of_le (h.xlt f q) hf.len }
theorem bV.ts{Bx Z Mp:Nat->Prop}(hw:WF A)(h:bV X A K fk ft c)(hf:Fr (TM Bx Z Mp A) A B)(h1:¬Bx K.cb/\¬Bx K.rp/\¬Bx K.cp)(h2:∀f,Z f->X f/\¬XCo K fk ft f)(h3:¬Mp K.mb/\¬Mp K.mg)(hY:∀f,Y f->X f∨A.blk.length<=f)(hs:∀f,XCo K fk ft f->Y f)(hl:∀f,Y f->f<B.blk.length):bV Y B K fk ft c:=by
 obtain⟨cs,hb⟩:=h.pE
 obtain⟨cr,hr⟩:=h.pG
 refine { h with rd:=?_,cm:=?_,sub:=hs,xlt:=hl }
 . exact h.rd.fr hf (TM.box hr h1.2.1) (TM.box h.rd.cnt.box h1.2.2) (fun j hj=>⟨TS.arr (h.rd.cnt.row j hj) fun q=>(h2 _ q).2 (.inl (.inl ⟨j,hj,rfl⟩)),fun q=>(h2 _ q).2 (.inl (.inl ⟨j,hj,rfl⟩))⟩) (TM.off fun f q w=>(h2 f w).2 (.inl (.inr q))) (TM.off fun f q=>by cases q)
 . exact h.cm.fr hf (TM.box hb h1.1) h3.1 h3.2 (TM.off fun f q w=>(h2 f w).2 (.inr q)) (Ae4 hf (TM.tch.mono fun f q=>(h2 f q).1) hw hY)
structure aA(X:Nat->Prop)(A:AS)(K:CoK)(fk ft:Option Nat)(B:AS)(fk' ft' fo:Option Nat)(c':Co):Prop where
 g1:Gr A fk fk'
 g2:Gw A ft ft'
 fr:Fr (LCo K fk ft A) A B
 vbX:∀j,j<24->X (K.vb j)
 new:∀f,fo=some f->A.blk.length<=f/\¬XCo K fk' ft' f
 co:bV (nz X fk' ft' fo) B K fk' ft' c'
 le:(qHp X A).le (qHp (nz X fk' ft' fo) B)
theorem A09{X:Nat->Prop}{fk ft:Option Nat}(h:∀f,XCo K fk ft f->X f){f:Nat}(q:nz X fk ft none f):X f:=by
 rcases q with q |q |q |q
 . exact q
 . exact h f (.inl (.inr q))
 . exact h f (.inr q)
 . cases q
theorem bV.oF(h:bV X A K fk ft c)(hs:∀f,Y f->X f)(hx:∀f,XCo K fk ft f->Y f):bV Y A K fk ft c :=
 { h with cm:=h.cm.fr (.refl S0 A) (fun q=>q) (fun q=>q) (fun q=>q) .s0 (Ae8 hs),sub:=hx,xlt:=fun f q=>h.xlt f (hs f q) }
theorem aA.da(h:bV X A K fk ft c):aA X A K fk ft A fk ft none c :=
 ⟨.inl rfl,.da,.refl _ _,fun j hj=>h.sub _ (.inl (.inl ⟨j,hj,rfl⟩)),(fun f q=>by cases q),h.oF (fun f q=>A09 h.sub q) (fun f q=>.inl (h.sub f q)),Ae8 fun f q=>A09 h.sub q⟩
theorem aA.ab(h:aA X A K fk ft B fk1 ft1 fo c)(hf:Fr S0 B C):aA X A K fk ft C fk1 ft1 fo c :=
 { h with fr:=h.fr.ab hf,co:=h.co.fr0 hf,le:=Hp.le_trans h.le (Ac8 hf) }
theorem aA.of0(h:bV X A K fk ft c)(hf:Fr S0 A B):aA X A K fk ft B fk ft none c:=(aA.da h).ab hf
theorem aA.wf(h:aA X A K fk ft B fk1 ft1 fo c)(hw:WF A):WF B:=h.fr.wf hw
theorem aA.next(hw:WF A)(h:aA X A K fk ft B fk1 ft1 fo1 c1)(k:aA (nz X fk1 ft1 fo1) B K fk1 ft1 C fk2 ft2 fo2 c2)(hfo:∀f,fo=some f->fo1=some f∨fo2=some f):aA X A K fk ft C fk2 ft2 fo c2:=by
 have hx:∀f,nz X fk2 ft2 fo f->nz (nz X fk1 ft1 fo1) fk2 ft2 fo2 f:=fun f q=>by
  rcases q with q |q |q |q
  . exact .inl (.inl q)
  . exact .inr (.inl q)
  . exact .inr (.inr (.inl q))
  . exact(hfo f q).elim (fun z=>.inl (.inr (.inr (.inr z)))) fun z=>.inr (.inr (.inr z))
 have hs:∀f,XCo K fk2 ft2 f->nz X fk2 ft2 fo f:=fun f q=>by
  rcases q with(⟨j,hj,rfl⟩ |q) |q
  . exact .inl (h.vbX j hj)
  . exact .inr (.inl q)
  . exact .inr (.inr (.inl q))
 refine⟨h.g1.trans k.g1 h.fr.len,h.g2.trans k.g2 h.fr.len,h.fr.trans k.fr fun x q=>?_,h.vbX,fun f q=>?_,k.co.oF hx hs,Hp.le_trans h.le (Hp.le_trans k.le (Ae8 hx))⟩
 . refine TM.back hw h.fr (fun b q=>.inl q) (fun f q=>?_) (fun r q=>.inl q) q
   rcases q with(q |q) |q
   . exact .inl (.inl (.inl q))
   . exact(h.g1.or q).imp (fun z=>.inl (.inr z)) id
   . exact(h.g2.or q).imp (fun z=>.inr z) id
 . rcases hfo f q with z |z
   . have hlt:=h.co.xlt f (.inr (.inr (.inr z)))
     refine⟨(h.new f z).1,fun w=>(h.new f z).2 ?_⟩
     rcases w with(w |w) |w
     . exact .inl (.inl w)
     . rcases k.g1.or w with y |y
       . exact .inl (.inr y)
       . omega
     . rcases k.g2.or w with y |y
       . exact .inr y
       . omega
   . exact⟨Nat.le_trans h.fr.len (k.new f z).1,(k.new f z).2⟩
theorem aA.br(hw:WF A)(hf:Fr S0 A B)(k:aA X B K fk ft C fk1 ft1 fo c1):aA X A K fk ft C fk1 ft1 fo c1:=by
 refine⟨k.g1.from hf.len,k.g2.from hf.len,(hf.mono (S':=LCo K fk ft A) fun _ q=>q.elim).trans k.fr fun x q=>TM.back hw hf (fun b q=>.inl q) (fun f q=>.inl q) (fun r q=>.inl q) q,k.vbX,fun f q=>⟨Nat.le_trans hf.len (k.new f q).1,(k.new f q).2⟩,k.co,Hp.le_trans (Ac8 hf) k.le⟩
theorem aA.grow(hw:WF A)(h:aA X A K fk ft B fk1 ft1 fo c)(hf:Fr (aI B fo) B C)(g:Gr B fo fo2)(hl:∀f,fo2=some f->f<C.blk.length):aA X A K fk ft C fk1 ft1 fo2 c/\(qHp (nz X fk1 ft1 fo) B).le (qHp (nz X fk1 ft1 fo2) C):=by
 have hts:Fr (TM (fun _=>False) (fun f=>fo=some f) (fun _=>False) B) B C:=hf.mono fun x q=>TM.ts (TS.lX (fun f q=>q) q)
 have hY:∀f,nz X fk1 ft1 fo2 f->nz X fk1 ft1 fo f∨B.blk.length<=f:=fun f q=>by
  rcases q with q |q |q |q
  . exact .inl (.inl q)
  . exact .inl (.inr (.inl q))
  . exact .inl (.inr (.inr (.inl q)))
  . exact(g.or q).imp (fun z=>.inr (.inr (.inr z))) id
 have hle:(qHp (nz X fk1 ft1 fo) B).le (qHp (nz X fk1 ft1 fo2) C):=Ae4 hts (TM.tch.mono fun f q=>.inr (.inr (.inr q))) (h.wf hw) hY
 have hxc:∀f,XCo K fk1 ft1 f->nz X fk1 ft1 fo2 f:=fun f q=>by
  rcases q with(⟨j,hj,rfl⟩ |q) |q
  . exact .inl (h.vbX j hj)
  . exact .inr (.inl q)
  . exact .inr (.inr (.inl q))
 have hlt:∀f,nz X fk1 ft1 fo2 f->f<C.blk.length:=fun f q=>by
  rcases q with q |q |q |q
  . exact Nat.lt_of_lt_of_le (h.co.xlt f (.inl q)) hf.len
  . exact Nat.lt_of_lt_of_le (h.co.xlt f (.inr (.inl q))) hf.len
  . exact Nat.lt_of_lt_of_le (h.co.xlt f (.inr (.inr (.inl q)))) hf.len
  . exact hl f q
 refine⟨⟨h.g1,h.g2,h.fr.trans hts fun x q=>?_,h.vbX,fun f q=>?_,h.co.ts (h.wf hw) hts ⟨fun q=>q,fun q=>q,fun q=>q⟩ (fun f q=>⟨.inr (.inr (.inr q)),(h.new f q).2⟩) ⟨fun q=>q,fun q=>q⟩ hY hxc hlt,Hp.le_trans h.le hle⟩,hle⟩
 . rcases TM.back (Bx:=fun _=>False) (X:=fun _=>False) (Mp:=fun _=>False) hw h.fr (fun b q=>q.elim) (fun f q=>.inr (h.new f q).1) (fun r q=>q.elim) q with q |q
   . exact .inl (TM.mono (fun b q=>q.elim) (fun f q=>q.elim) (fun r q=>q.elim) q)
   . exact .inr q
 . rcases g.or q with z |z
   . exact h.new f z
   . refine⟨Nat.le_trans h.fr.len z,fun w=>?_⟩
     have:=h.co.xlt f (h.co.sub f w)
     omega
theorem bV.step(hw:WF A)(h:bV X A K fk ft c)(hf:Fr S A B)(hS:∀x,S x->LCo K fk ft A x)(g1:Gr A fk fk1)(g2:Gw A ft ft1)(hr:a4 B K.rp c1.rd K.cp K.vb fk1 none)(hc:∀Y:Nat->Prop,(qHp X A).le (qHp Y B)->(∀f,Y f->X f∨A.blk.length<=f)->CoM Y B K.cb K.rp K.mb K.mg c1 ft1)
 (hdj:∀f,ft1=some f->¬XR K.vb fk1 f) (lY:Rng c1.rd) (ha:c1.rd.al=[]) (hl:eI c1) (hl2:∀f,ft1=some f->f<B.blk.length) (hfo:∀f,fo=some f->A.blk.length<=f/\f<B.blk.length/\¬XCo K fk1 ft1 f):aA X A K fk ft B fk1 ft1 fo c1:=by
 have hfr:=hf.mono hS
 have hY:∀f,Sv.nz X fk1 ft1 fo f->X f∨A.blk.length<=f:=fun f q=>by
  rcases q with q |q |q |q
  . exact .inl q
  . exact(g1.or q).imp (fun z=>h.sub f (.inl (.inr z))) id
  . exact(g2.or q).imp (fun z=>h.sub f (.inr z)) id
  . exact .inr (hfo f q).1
 have hle:=Ae4 hfr (TM.tch.mono h.sub) hw hY
 refine⟨g1,g2,hfr,fun j hj=>h.sub _ (.inl (.inl ⟨j,hj,rfl⟩)),fun f q=>⟨(hfo f q).1,(hfo f q).2.2⟩,⟨hr,hc _ hle hY,fun f q=>?_,fun f q=>?_,h.ne1,h.ne2,hdj,lY,ha,hl⟩,hle⟩
 . rcases q with(q |q) |q
   . exact .inl (h.sub f (.inl (.inl q)))
   . exact .inr (.inl q)
   . exact .inr (.inr (.inl q))
 . rcases q with q |q |q |q
   . exact Nat.lt_of_lt_of_le (h.xlt f q) hf.len
   . exact hr.xlt (.inr q)
   . exact hl2 f q
   . exact(hfo f q).2.1
theorem bV.mB(hw:WF A)(h:bV X A K fk ft c)(hf:Fr S A B)(hS:∀x,S x->TM (fun b=>b=K.cb) (fun f=>ft=some f) (fun r=>r=K.mb∨r=K.mg) A x)(g2:Gw A ft ft1)(hrd:c1.rd=c.rd)(hc:∀Y:Nat->Prop,(qHp X A).le (qHp Y B)->CoM Y B K.cb K.rp K.mb K.mg c1 ft1)(hl:eI c1)(hl2:∀f,ft1=some f->f<B.blk.length):aA X A K fk ft B fk ft1 none c1:=by
 have hts:=hf.mono hS
 obtain⟨cr,hr⟩:=h.pG
 refine h.step hw hf (fun x q=>TM.mono (fun b q=>.inl q) (fun f q=>.inr q) (fun r q=>q) (hS x q)) (.inl rfl) g2 ?_ (fun Y q _=>hc Y q) (fun f q w=>?_) (by rw[hrd];exact h.rng) (by rw[hrd];exact h.al) hl hl2 (fun f q=>by cases q)
 . rw[hrd]
   exact h.rd.fr hts (TM.box hr fun q=>h.ne1 q.symm) (TM.box h.rd.cnt.box fun q=>h.ne2 q.symm) (fun j hj=>⟨TS.arr (Bx:=fun b=>b=K.cb) (X:=fun f=>ft=some f) (h.rd.cnt.row j hj) fun q=>h.dj _ q (.inl ⟨j,hj,rfl⟩),fun q=>h.dj _ (show ft=some (K.vb j)from q) (.inl ⟨j,hj,rfl⟩)⟩) (TM.off fun f q w=>h.dj f w (.inr q)) (TM.off fun f q=>by cases q)
 . rcases g2.or q with z |z
   . exact h.dj f z w
   . have:=h.rd.xlt w;omega
theorem bV.pg{r':Rd}(hw:WF A)(h:bV X A K fk ft c)(hf:Fr (rdS A K.rp K.vb fk none) A B)(g1:Gr A fk fk1)(hr:a4 B K.rp r' K.cp K.vb fk1 none)(hk:Kn c.rd r')(lY:Rng r')(ha:r'.al=[])(hfo:∀f,fo=some f->A.blk.length<=f/\f<B.blk.length/\¬XCo K fk1 ft f):aA X A K fk ft B fk1 ft fo { c with rd:=r' }:=by
 have hts:Fr (TM (fun b=>b=K.rp) (XR K.vb fk) (fun _=>False) A) A B:=hf.mono fun x q=>TM.ts (B39 h.rd q)
 obtain⟨cs,hb⟩:=h.pE
 obtain⟨tv0,dv0,bl0,x01,x02,_⟩:=h.cm.ex
 refine h.step (c1:={ c with rd:=r' }) hw hts (fun x q=>TM.mono (fun b q=>.inr q) (fun f q=>.inl q) (fun r q=>q.elim) q) g1 .da hr (fun Y hle _=>?_) (fun f q w=>?_) lY ha h.lim.rd (fun f q=>Nat.lt_of_lt_of_le (x02.bO f q) hf.len) hfo
 . have k:=h.cm.fr (Y:=Y) hts (TM.box hb h.ne1) (fun q=>q) (fun q=>q) (TM.off fun f q w=>h.dj f q w) hle
   obtain⟨tv,dv,bl,x1,x2,x3,x4,x5,x6⟩:=k.ex
   refine⟨⟨tv,dv,bl,?_,x2,x3,x4,x5,x6⟩,k.gv,k.mm⟩
   show B.blk[K.cb]?=some ⟨coC K.rp r'.n r'.me r'.ai c.now tv dv K.mb K.mg c.bL,.var⟩
   rw[hk.n,hk.me,hk.ai];exact x1
 . rcases w with w |w
   . exact h.dj f q (.inl w)
   . rcases g1.or w with z |z
     . exact h.dj f q (.inr z)
     . have:=x02.bO f q;omega
theorem bV.lK{x:Rd×List Act}{w:V}(hw:WF A)(h:bV X A K fk ft c)(k:fx A K.rp K.cp K.vb fk none B x w)(hk:Kn c.rd x.1)(lY:Rng x.1)(ha:x.1.al=[]):
 ∃fk' fo,aA X A K fk ft B fk' ft fo { c with rd:=x.1 }/\Lst dp Hp.emp B w x.2 fo:=by
 obtain⟨fk',fo,k1,k2,k3,k4,k5,k6,k7⟩:=k
 refine⟨fk',fo,h.pg hw k1 k2 k4 hk lY ha (fun f q=>?_),k5⟩
 have hl:A.blk.length<=f:=by
  rcases k3.or q with y |y
  . cases y
  . exact y
 refine⟨hl,k5.bO f q,fun w=>?_⟩
 rcases w with(⟨j,hj,rfl⟩ |w) |w
 . have:=h.rd.cnt.lt hj;omega
 . exact k6 f q w
 . have:=h.xlt f (h.sub f (.inr w));omega
theorem bV.mC{r':Rd}(hw:WF A)(h:bV X A K fk ft c)(k:aY A K.rp K.cp K.vb fk none B r')(hk:Kn c.rd r')(lY:Rng r')(ha:r'.al=[]):∃fk',aA X A K fk ft B fk' ft none { c with rd:=r' }:=by
 obtain⟨fk',k1,k2,k4⟩:=k
 exact⟨fk',h.pg hw k1 k2 k4 hk lY ha (fun f q=>by cases q)⟩
end
end Go.Sv.Tryz
namespace Go.Sv
open Go
def Co.offer(c:Co)(R:Int):M×Bool :=
 if (eZ c.rd R).there=true/\aP c.rd.n c.rd.ai R=c.rd.me then(⟨3,c.rd.me,c.rd.ai,R,(eZ c.rd R).valid,0,(eZ c.rd R).id,(aQ c.bat (eZ c.rd R).id).getD [],[],[]⟩,true)
 else(eU 0,false)
def Co.eu(c:Co)(b:Bts):Co:={ c with bat:=fU c.bat b }
def Co.a6(c:Co)(b:Bts):Co×List Act:=({ c.eu b with rd:=(c.rd.fX (az b)).1 },(c.rd.fX (az b)).2)
end Go.Sv
namespace Go.Sv.Tryz
open Go Go.Proofs
section
variable {X:Nat->Prop} {A B C:AS} {K:CoK} {c:Co} {fk ft:Option Nat}
theorem BK0(g:Nat->V)(a b R v:Int)(i j k l:Nat):au TP 48 [(0,.int .i64 3),(1,.int .i64 a),(2,.int .i64 b),(3,.int .i64 R),(4,.int .i64 v),(6,.agg ((List.range 32).map g)),(7,.sl i j k l)]=some (.agg (.int .i64 3::.int .i64 a::.int .i64 b::.int .i64 R::.int .i64 v::.int .i64 0::((List.range 32).map g++[.sl i j k l,.ah,.ah]))):=by kernel_rfl
theorem BG6{x:M}(h:x.id.length=32)(hk:x.kind=3)(hn:x.num=0)(i j k l:Nat):au TP 48 [(0,.int .i64 3),(1,.int .i64 x.who),(2,.int .i64 x.ai),(3,.int .i64 x.round),(4,.int .i64 x.valid),(6,.agg (bc x.id)),(7,.sl i j k l)]=some (.agg (mc x (.sl i j k l) .ah .ah)):=by
 obtain⟨g,hg⟩:=Ac3 (l:=bc x.id) (n:=32) (by rw[Aa7,h])
 unfold mc;rw[hg,hk,hn];exact BK0 g _ _ _ _ i j k l
theorem BK1{r:Rd}{R:Int}(h:(eZ r R).there=true):0<=R/\R<12:=by
 unfold eZ at h
 split at h
 . cases h
 . omega
theorem CoM.look{cb rp mb mg:Nat}(h:CoM X A cb rp mb mg c ft){id:Bts}(hid:id.length=32):∃v,cL TP 72 (.map mb) (.agg (bc id)) false A=some v/\Slc eU8 (qHp X A) v ((aQ c.bat id).getD [])/\(v=.ah↔aQ c.bat id=none):=by
 obtain⟨tv,dv,bl,x1,x2,x3,x4,x5,x6⟩:=h.ex
 have lk:=x3.look (P:=TP) Cl6 BJ8 Cv2 ⟨id,hid⟩ false
 have hl:=AO9 ⟨id,hid⟩ bl
 rw[<- x4]at hl
 cases q:aQ bl (⟨id,hid⟩:Idb)with
 |none =>
  rw[q]at lk hl
  have hl:aQ c.bat id=none:=hl
  exact⟨.ah,lk,.inl ⟨rfl,by rw[hl];rfl⟩,by rw[hl];simp⟩
 |some y =>
  rw[q]at lk hl
  have hl:aQ c.bat id=some y.2:=hl
  have hy:=x5 _ (AF4 q)
  exact⟨y.1,lk,by rw[hl];exact hy.1,⟨fun z=>absurd z hy.2,fun z=>by rw[hl]at z;cases z⟩⟩
set_option maxRecDepth 10000 in
set_option maxHeartbeats 16000000 in
theorem AK9(hw:WF A)(h:bV X A K fk ft c)(R:Int):
 ∃w A',EvF TP HH 48 [.ptr K.cb 0,.int .i64 R] A w A'/\Fr S0 A A'/\∃dv,w=.tup [.agg (mc (c.offer R).1 dv .ah .ah),.bool (c.offer R).2]/\Slc eU8 (qHp X A') dv (c.offer R).1.data/\(c.offer R).1.id.length=32/\(c.offer R).1.ids=[]/\(c.offer R).1.list=[]:=by
 refine Aa4 rfl Tryz.func48 (by unfold Tryz.f48;rfl) Tryz.ntmps48 (by unfold Tryz.f48;rfl) (by simp) ?_
 obtain⟨A1,e1,f1,r1,n1⟩:=Aa3 A mcZ
 obtain⟨b4,hb4⟩:∃b,b=A.blk.length:=⟨_,rfl⟩
 rw[<- hb4]at r1 n1
 have hmZ:mcZ=mc (eU 0) .ah .ah .ah:=rfl
 obtain⟨o,ho⟩:∃o,o=eZ c.rd R:=⟨_,rfl⟩
 have hol:o.id.length=32:=by rw[ho];exact AC6 h.rd.ok R
 have h1:=h.fr0 f1
 obtain⟨tv,dv,bl,x1,_⟩:=h1.cm.ex
 have ld:=Ap2 x1
 obtain⟨_,A2,k2,f2,rfl⟩:=AF2 (f1.wf hw) h1.rd R
 rw[<- ho]at k2
 obtain⟨A3,s1,f3,r3⟩:=B17 (A:=A2) hol
 obtain⟨b6,hb6⟩:∃b,b=A2.blk.length:=⟨_,rfl⟩
 rw[<- hb6]at s1 r3
 have f13:=(f1.ab f2).ab f3
 have f23:=f2.ab f3
 have w3:=f13.wf hw
 have h3:=h.fr0 f13
 have x3:=f23.af x1
 have ld3:=Ap2 x3
 have lo:=BY0 r3 hol
 have fo:=Cu8 b6
 have r13:=f23.af r1
 have tQ:=f1.len
 have tR:=f2.len
 simp only[RT,Q0,Q1,Q2,Q3,Q4,Q5,Q6,Q7,Q8,zcM,<- hb4,<- e1,An0 K.cb,ld]
 refine Aa0 k2 ?_
 simp only[RT,Q0,Q1,Q2,Q3,Q4,Q5,Q6,Q7,Q8,B18,<- hb6,s1]
 have hn:(c.rd.n:Int)<=7/\(0:Int)<=c.rd.n:=by have:=h.rd.cnt.ok;unfold okN at this;omega
 unfold Co.offer
 rw[<- ho]
 cases ht:o.there with
 |false =>
  obtain⟨A4,u1,u2,u3⟩:=An3 (y:=eU 0) (dv':=.ah) (iv':=.ah) (lv':=.ah) (hmZ ▸ r13) rfl rfl rfl
  have l4:=ldM u3 (rfl:(eU 0).id.length=32)
  have bz:au TP 48 []=some (.agg (mc (eU 0) .ah .ah .ah)):=by kernel_rfl
  rw[ht]at lo
  simp only[RT,Q0,Q1,Q2,Q3,Q4,Q5,Q6,Q7,Q8,Bp4,Aa1,fo,lo,Af4]
  refine⟨Ad0 rfl rfl rfl rfl Aa1,?_⟩
  simp only[RT,Q0,Q1,Q2,Q3,Q4,Q5,Q6,Q7,Q8,bz,u1,l4,Aa1]
  exact⟨f13.ar u2 (by omega),.ah,rfl,.inl ⟨rfl,rfl⟩,rfl,rfl,rfl⟩
 |true =>
  have hR:=BK1 (r:=c.rd) (R:=R) (by rw[<- ho];exact ht)
  rw[ht]at lo
  obtain⟨_,A3',p1,hA,rfl⟩:=Ap6 (A:=A3) (n:=c.rd.n) (h:=c.rd.ai) (k:=R) hn.1 hn.2 (by have:=h.rng.ai;omega) h.rng.ai.2 (by omega) (by omega)
  rw[hA]at p1
  simp only[RT,Q0,Q1,Q2,Q3,Q4,Q5,Q6,Q7,Q8,Bp4,Aa1,fo,lo,Af4,An0 K.cb,ld3]
  refine Aa0 p1 ?_
  by_cases hp:aP c.rd.n c.rd.ai R=c.rd.me
  rotate_left
  . obtain⟨A4,u1,u2,u3⟩:=An3 (y:=eU 0) (dv':=.ah) (iv':=.ah) (lv':=.ah) (hmZ ▸ r13) rfl rfl rfl
    have l4:=ldM u3 (rfl:(eU 0).id.length=32)
    have bz:au TP 48 []=some (.agg (mc (eU 0) .ah .ah .ah)):=by kernel_rfl
    simp only[RT,Q0,Q1,Q2,Q3,Q4,Q5,Q6,Q7,Q8,DT hp]
    refine⟨Ac4 rfl rfl rfl rfl rfl ld3.2.2.2.2.1 rfl Aa1,?_⟩
    simp only[RT,Q0,Q1,Q2,Q3,Q4,Q5,Q6,Q7,Q8,bz,u1,l4,Aa1]
    rw[if_neg (fun z=>hp z)]
    exact⟨f13.ar u2 (by omega),.ah,rfl,.inl ⟨rfl,rfl⟩,rfl,rfl,rfl⟩
  . obtain⟨v,lk1,lk2,_⟩:=h3.cm.look hol
    obtain⟨c',B,y1,y2,y3,y4,y5⟩:=At1 (P:=TP) (t:=45) (tx:=45) w3 BX5 Tryz.underlying45 lk2 (Ab5 X A3) (by have:=h.lim.look o.id;omega) (by have:=h.lim.look o.id;omega)
    obtain⟨x,hx⟩:∃x:M,x=⟨3,c.rd.me,c.rd.ai,R,o.valid,0,o.id,(aQ c.bat o.id).getD [],[],[]⟩:=⟨_,rfl⟩
    have hxl:x.id.length=32:=by rw[hx];exact hol
    have bm:=BG6 hxl (by rw[hx]) (by rw[hx]) c' 0 ((aQ c.bat o.id).getD []).length 1
    rw[show x.who=(c.rd.me:Int) by rw[hx],show x.ai=c.rd.ai by rw[hx],show x.round=R by rw[hx],show x.valid=o.valid by rw[hx],show x.id=o.id by rw[hx]]at bm
    have hnX:¬X A3.blk.length:=fun q=>by have:=h3.xlt _ q;omega
    obtain⟨A4,u1,u2,u3⟩:=An3 (y:=x) (dv':=.sl c' 0 ((aQ c.bat o.id).getD []).length 1) (iv':=.ah) (lv':=.ah) (hmZ ▸ y5.af r13) rfl hxl (by simp only[mc,List.all_cons,List.all_append,Ac9,List.all_nil];rfl)
    have l4:=ldM u3 hxl
    have f4:=Fr.aF A3 []
    have ldP:=Ap2 (f4.af x3)
    have loP:=BY0 (f4.af r3) hol
    have lkP:cL TP 72 (.map K.mb) (.agg (bc o.id)) false (A3.push ⟨[],.arr A3.blk.length 0⟩)=some v:=lk1
    have loB:=BY0 (y5.af r3) hol
    have ldB:=Ap2 (y5.af x3)
    simp only[RT,Q0,Q1,Q2,Q3,Q4,Q5,Q6,Q7,Q8,DF (show ¬ ¬(aP c.rd.n c.rd.ai R=c.rd.me)from fun z=>z hp)]
    refine⟨Ac4 rfl rfl rfl rfl rfl ld3.2.2.2.2.1 rfl Aa1,?_⟩
    simp only[RT,Q0,Q1,Q2,Q3,Q4,Q5,Q6,Q7,Q8,BU1,Aa1,fo,lo,An0 K.cb,ld3,Bu2,ldP,loP,lkP,y1]
    refine⟨Aa5 (ha:=rfl) rfl ldB.2.2.2.2.1 rfl (Aa5 (ha:=rfl) rfl ldB.2.2.2.2.2.1 rfl (Aa5 (ha:=rfl) rfl loB.2.1 rfl (Aa5 (ha:=rfl) rfl loB.2.2 rfl Aa1))),?_⟩
    simp only[RT,Q0,Q1,Q2,Q3,Q4,Q5,Q6,Q7,Q8,bm,u1,l4,Aa1]
    rw[if_pos hp,<- hx]
    have q2:=y5.af r13
    have qle:(qHp X B).le (qHp X A4):=Ae4 u2 (fun b k z y=>by cases z;rw[q2]at y;cases y;exact .inl rfl) (y5.wf w3) fun f q=>.inl q
    refine⟨(f13.ab y5).ar u2 (by omega),_,rfl,?_,hxl,by rw[hx],by rw[hx]⟩
    rw[hx]
    exact(Br3 (Aj1 y2 hnX) rfl).mono qle
end
end Go.Sv.Tryz
namespace Go.Sv.Tryz
open Go Go.Proofs
section
variable {X:Nat->Prop} {A B C:AS} {K:CoK} {c:Co} {fk ft:Option Nat}
theorem bV.lt(h:bV X A K fk ft c):K.cb<A.blk.length/\K.rp<A.blk.length/\K.cp<A.blk.length:=by
 obtain⟨_,q⟩:=h.pE
 obtain⟨_,w⟩:=h.pG
 exact⟨Ab3 q,Ab3 w,Ab3 h.rd.cnt.box⟩
theorem bV.eu{m:Hp}{v:V}{b:Bts}(hw:WF A)(h:bV X A K fk ft c)(hm:m.on A)(hv:Slc eU8 m v b)(hb:b.length<=1000000):
 ∃A',EvF TP HH 55 [.ptr K.cb 0,v] A (.agg (bc (az b))) A'/\aA X A K fk ft A' fk ft none (c.eu b):=by
 obtain⟨_,A',k1,k2,rfl,k3⟩:=Bi7 hw h.cm h.xlt hm hv (by omega)
 have hlt:∀f,ft=some f->f<A'.blk.length:=fun f q=>Nat.lt_of_lt_of_le (h.xlt f (h.sub f (.inr q))) k2.len
 refine⟨A',k1,?_⟩
 have hY:∀f,nz X fk ft none f->X f:=fun f q=>A09 h.sub q
 have hfr:Fr (LCo K fk ft A) A A':=k2.mono fun x q=>by subst q;exact .inl rfl
 refine⟨.inl rfl,.da,hfr,fun j hj=>h.sub _ (.inl (.inl ⟨j,hj,rfl⟩)),(fun f q=>by cases q),⟨?_,?_,fun f q=>.inl (h.sub f q),fun f q=>Nat.lt_of_lt_of_le (h.xlt f (hY f q)) k2.len,h.ne1,h.ne2,h.dj,h.rng,h.al,{ h.lim with bat:=A72 h.lim.bat hb }⟩,Ae4 k2 (fun b k q=>by cases q) hw fun f q=>.inl (hY f q)⟩
 . exact h.rd.fr k2 (fun q=>by cases q) (fun q=>by cases q) (fun j hj=>⟨fun q=>(by cases q),fun q=>(by cases q)⟩) (fun b q=>by cases q) (fun b q=>by cases q)
 . exact k3.fr (.refl S0 A') (fun q=>q) (fun q=>q) (fun q=>q) .s0 (Ae8 hY)
set_option maxRecDepth 10000 in
set_option maxHeartbeats 8000000 in
theorem As5{m:Hp}{v:V}{b:Bts}(hw:WF A)(h:bV X A K fk ft c)(hm:m.on A)(hv:Slc eU8 m v b)(hb:b.length<=1000000):
 ∃w A',EvF TP HH 27 [.ptr K.cb 0,v] A w A'/\∃fk' fo,aA X A K fk ft A' fk' ft fo (c.a6 b).1/\Lst dp Hp.emp A' w (c.a6 b).2 fo:=by
 refine Aa4 rfl Tryz.func27 (by unfold Tryz.f27;rfl) Tryz.ntmps27 (by unfold Tryz.f27;rfl) (by simp) ?_
 obtain⟨A1,k1,k2⟩:=h.eu hw hm hv hb
 have h1:=k2.co
 have w1:=k2.wf hw
 obtain⟨tv,dv,bl,x1,_⟩:=h.cm.ex
 obtain⟨tv1,dv1,bl1,y1,_⟩:=h1.cm.ex
 have ld:=Ap2 x1
 have ld1:=Ap2 y1
 obtain⟨w,A2,m1,m2⟩:=Bi2 w1 h1.rd h1.rng (by rw[h1.al];simp) (Ab4 b)
 obtain⟨fk',fo,n1,n2⟩:=h1.lK w1 m2 (BJ9 _ _) ((h1.rng.gh (az b)).1.settle) rfl
 simp only[RT,Q0,Q1,Q2,Q3,Q4,Q5,Q6,Q7,Q8,BT2,Aa1,An0 K.cb,ld]
 refine Aa0 k1 ?_
 simp only[RT,Q0,Q1,Q2,Q3,Q4,Q5,Q6,Q7,Q8,Aa1]
 refine⟨Aa5 (ha:=rfl) rfl ld1.1 rfl Aa1,?_⟩
 refine Aa0 m1 ?_
 simp only[RT,Q0,Q1,Q2,Q3,Q4,Q5,Q6,Q7,Q8,Aa1]
 exact⟨fk',fo,k2.next hw n1 (fun f q=>.inr q),n2⟩
end
end Go.Sv.Tryz
namespace Go.Sv
open Go
def Co.bp(s:Co×List M×Bool)(a:Act):Co×List M×Bool :=
 if a.kind=1 then(s.1,s.2.1++[(s.1.offer a.round).1],s.2.2)
 else if a.kind=2 then(s.1,s.2.1,true)
 else if a.kind=3 then({ s.1 with tim:=cV s.1.now s.1.tim a.round a.num },s.2.1,s.2.2)
 else if a.kind=4 then({ s.1 with done:=(aQ s.1.bat a.id).getD [],bL:=true,tim:=[] },s.2.1,s.2.2)
 else s
def Co.al(c:Co)(l:List Act):Co×List M×Bool:=l.foldl Co.bp (c,[],false)
def dC(r:Rd):M:=fc r.me r.ai (cW r)
def Co.act(c:Co)(l:List Act):Co×List M :=
 ((c.al l).1,if (c.al l).2.2=true/\0<(cW (c.al l).1.rd).length then(c.al l).2.1++[dC (c.al l).1.rd] else(c.al l).2.1)
theorem BK2(s:Co×List M×Bool)(a:Act):(Co.bp s a).1.rd=s.1.rd/\(Co.bp s a).1.bat=s.1.bat/\(Co.bp s a).1.now=s.1.now:=by
 unfold Co.bp
 repeat' split
 all_goals exact⟨rfl,rfl,rfl⟩
theorem AL0{now:Int}{l:List bj}{r s:Int}(h:l.length<=40):(cV now l r s).length<=40:=by
 unfold cV;split
 . exact h
 . rw[List.length_append];simp;omega
theorem BK3{s:Co×List M×Bool}{a:Act}(h:eI s.1):eI (Co.bp s a).1:=by
 unfold Co.bp
 split
 . exact h
 split
 . exact h
 split
 . exact { h with tim:=AL0 h.tim }
 split
 . exact { h with tim:=by show([]:List bj).length<=40;simp,done:=h.look a.id }
 . exact h
theorem A74(s:Co×List M×Bool)(a:Act):(Co.bp s a).2.1.length<=s.2.1.length+1:=by
 unfold Co.bp
 repeat' split
 all_goals simp
theorem A12(l:List Act):∀s:Co×List M×Bool,(l.foldl Co.bp s).1.rd=s.1.rd/\(l.foldl Co.bp s).1.bat=s.1.bat/\(l.foldl Co.bp s).1.now=s.1.now:=by
 induction l with
 |nil=>exact fun s=>⟨rfl,rfl,rfl⟩
 |cons a l ih =>
  intro s
  have h:=ih (Co.bp s a)
  have k:=BK2 s a
  exact⟨h.1.trans k.1,h.2.1.trans k.2.1,h.2.2.trans k.2.2⟩
theorem As6{α β:Type}{f:β->α->β}{L:List α}{s:β}{j:Nat}{a:α}(h:L[j]?=some a):(L.take (j+1)).foldl f s=f ((L.take j).foldl f s) a:=by
 rw[Ab6 h,List.foldl_append];rfl
end Go.Sv
namespace Go.Sv.Tryz
open Go Go.Proofs
section
variable {X Y:Nat->Prop} {A B C:AS} {K:CoK} {c c1 c2:Co} {fk ft fk1 ft1 fk2 ft2 fo fo2:Option Nat}
theorem A13{x:M}{dv iv lv:V}(h:x.id.length=32):bsl TP 51 1 (some [(0,.agg (mc x dv iv lv))])=some (.aB (mc x dv iv lv) 1 41):=Av2 Tryz.underlying51 Br4 Cx1 rfl (Am0 h) (by decide)
theorem bV.set(hw:WF A)(h:bV X A K fk ft c)(R S:Int):∃w A',EvF TP HH 65 [.ptr K.cb 1,.int .i64 R,.int .i64 S] A w A'/\∃ft',aA X A K fk ft A' fk ft' none { c with tim:=cV c.now c.tim R S }:=by
 obtain⟨tv,dv,bl,x1,x2,x3,x4,x5,x6⟩:=h.cm.ex
 obtain⟨w,A',k1,k2,tv',ft',k3,k4,k5⟩:=Bt9 hw x1 x2 (by have:=h.lim.tim;omega) h.lim.now.1 (by have:=h.lim.now;omega) R S
 refine⟨w,A',k1,ft',h.mB hw k2 (fun x q=>?_) k5.gw rfl (fun Y hle=>⟨⟨tv',dv,bl,k3,k4,x3.fr k2 (fun q=>?_),x4,fun p q=>⟨(x5 p q).1.mono hle,(x5 p q).2⟩,x6.mono hle⟩,h.cm.gv.fr k2 (fun q=>?_),h.cm.mm⟩) { h.lim with tim:=AL0 h.lim.tim } k4.bO⟩
 . rcases q with rfl |q
   . exact .inl ⟨_,x1,rfl⟩
   . exact TM.ts (TS.lX (fun f q=>q) q)
 all_goals
  rcases q with q |q
  . cases q
  . cases ft<;>exact q.elim
theorem bV.fin{v:V}{b:Bts}(hw:WF A)(h:bV X A K fk ft c)(hv:Slc eU8 (qHp X A) v b)(hb:b.length<=1000000):∃A1 A2 w A3,ag TP 45 (.ptr K.cb 8) v A=some A1/\ag TP 4 (.ptr K.cb 9) (.bool true) A1=some A2/\EvF TP HH 66 [.ptr K.cb 1] A2 w A3/\aA X A K fk ft A3 fk none none { c with done:=b,bL:=true,tim:=[] }/\Fr (·=.row K.cb) A A2:=by
 obtain⟨tv,dv,bl,x1,x2,x3,x4,x5,x6⟩:=h.cm.ex
 obtain⟨A1,s1,s2,s3⟩:=CA4 x1 hv.one
 obtain⟨A2,t1,t2,t3⟩:=B33 s3 true
 obtain⟨w,A3,u1,u2,u3⟩:=Bc0 t3
 have f2:Fr (·=.row K.cb) A A2:=s2.thn t2
 have f3:Fr (·=.row K.cb) A A3:=f2.thn u2
 refine⟨A1,A2,w,A3,s1,t1,u1,h.mB (c1:={ c with done:=b,bL:=true,tim:=[] }) hw f3 (fun x q=>by subst q;exact .inl ⟨_,x1,rfl⟩) (fun f q=>by cases q) rfl (fun Y hle=>⟨⟨.ah,v,bl,u3,.nil,x3.fr f3 (fun q=>by cases q),x4,fun p q=>⟨(x5 p q).1.mono hle,(x5 p q).2⟩,hv.mono hle⟩,h.cm.gv.fr f3 (fun q=>by cases q),h.cm.mm⟩) { h.lim with tim:=by show([]:List bj).length<=40;simp,done:=hb } (fun f q=>by cases q),f2⟩
theorem aA.msg{x:M}{w dv iv lv:V}{l:List M}(hw:WF A)(h:aA X A K fk ft B fk1 ft1 fo c)(hL:Lst eMsg (qHp (nz X fk1 ft1 fo) B) B w l fo)(hx:cw (qHp (nz X fk1 ft1 fo) B) x dv iv lv)(hl:l.length<=100000000):
 ∃v' C fo2,aR TP 51 51 w (.sl B.blk.length 0 1 41) (B.push ⟨mc x dv iv lv,.arr B.blk.length 0⟩)=some (v',C)/\aA X A K fk ft C fk1 ft1 fo2 c/\Lst eMsg (qHp (nz X fk1 ft1 fo2) C) C v' (l++[x]) fo2/\Fr (aI B fo) B C:=by
 obtain⟨v',C,fo2,p1,p2,p3,p4⟩:=hL.push (P:=TP) (t:=51) (tx:=51) (n:=41) rfl Cx5 Tryz.underlying51 (h.wf hw) (y:=x) (cs':=mc x dv iv lv) ⟨dv,iv,lv,rfl,hx⟩ (by omega) (by omega)
 obtain⟨q1,q2⟩:=h.grow hw p3 p4 p2.bO
 exact⟨v',C,fo2,p1,q1,p2.mono q2,p3⟩
theorem aA.jk{w:V}{l:List M}(h:Lst eMsg (qHp X A) A w l fo)(hf:Fr S0 A B):Lst eMsg (qHp X B) B w l fo:=(h.fr0 hf).mono (Ac8 hf)
set_option maxRecDepth 10000 in
set_option maxHeartbeats 32000000 in
theorem Bu5{lv:V}{L:List Act}{fl:Option Nat}(hw:WF A)(h:bV X A K fk ft c)(hL:Lst dp Hp.emp A lv L fl)(hfl:∀f,fl=some f->¬XCo K fk ft f)(hLn:L.length<=1000000):
 ∃w A',EvF TP HH 28 [.ptr K.cb 0,lv] A w A'/\∃ft' fo,aA X A K fk ft A' fk ft' fo (c.act L).1/\Lst eMsg (qHp (nz X fk ft' fo) A') A' w (c.act L).2 fo:=by
 refine Aa4 rfl Tryz.func28 (by unfold Tryz.f28;rfl) Tryz.ntmps28 (by unfold Tryz.f28;rfl) (by simp) ?_
 have hln:=fun B=>hL.len (P:=TP) Tryz.underlying81 B
 simp only[RT,Q0,Q1,Q2,Q3,Q4,Q5,Q6,Q7,Q8,hln]
 refine Aa6 (fun z e B=>∃(j:Nat) (w:V) (ft' fo:Option Nat),z=L.length-j/\j<=L.length/\e.get 15=.int .i64 j/\aA X A K fk ft B fk ft' fo ((L.take j).foldl Co.bp (c,[],false)).1/\Lst eMsg (qHp (nz X fk ft' fo) B) B w ((L.take j).foldl Co.bp (c,[],false)).2.1 fo/\((L.take j).foldl Co.bp (c,[],false)).2.1.length<=j/\e.get 0=.ptr K.cb 0/\e.get 13=lv/\e.get 14=.int .i64 L.length/\e.get 5=w/\e.get 6=.bool ((L.take j).foldl Co.bp (c,[],false)).2.2)
  (fun z e B=>Is z (.exit 0)/\∃(w:V) (ft' fo:Option Nat),aA X A K fk ft B fk ft' fo (c.al L).1/\Lst eMsg (qHp (nz X fk ft' fo) B) B w (c.al L).2.1 fo/\(c.al L).2.1.length<=L.length/\e.get 0=.ptr K.cb 0/\e.get 5=w/\e.get 6=.bool (c.al L).2.2)
  ⟨_,0,.ah,ft,none,rfl,by omega,rfl,.da h,.nil,by simp,rfl,rfl,rfl,rfl,rfl⟩ ?_ ?_
 . rintro z e B ⟨j,w,ft',fo,rfl,hj,h15,hS,hM,hml,h0,h13,h14,h5,h6⟩
   simp only[RT,Q0,Q1,Q2,Q3,Q4,Q5,Q6,Q7,Q8,h14,h15]
   refine Aa8 (fun g1=>?_) (fun g1=>?_)
   rotate_left
   . have:j=L.length:=by omega
     subst this
     rw[List.take_length]at hS hM hml h6
     simp only[RT,Q0,Q1,Q2,Q3,Q4,Q5,Q6,Q7,Q8]
     refine⟨rfl,w,ft',fo,?_⟩
     and_intros<;>first |rfl |assumption
   obtain⟨a,hax⟩:=Ac7 (l:=L) (i:=j) (by omega)
   have hLB:=hL.fr hS.fr (TM.off fun f q=>hfl f q)
   obtain⟨b2,o2,c2,g3,g4,g5⟩:=hLB.at (P:=TP) (k:=.i64) (Hp.ji B) Tryz.underlying81 Br0 Ce4 hax
   obtain⟨rfl,hal⟩:=BE9.1 g5
   obtain⟨E,e1,e2,e3⟩:=Cl4 (A:=B) hal
   have fA:=B24 B.blk.length
   have la2:=AS5 e3 hal
   have wB:=hS.wf hw
   have hSE:=hS.ab e2
   have hME:=aA.jk hM e2
   have wE:=hSE.wf hw
   have hwr:IntKind.i64.wrap ((j:Int)+1)=((j+1:Nat):Int):=by rw[Ac2 (by omega)]
   have em:(L.take (j+1)).foldl Co.bp (c,[],false)=Co.bp ((L.take j).foldl Co.bp (c,[],false)) a:=As6 hax
   obtain⟨s,hs⟩:∃s,s=(L.take j).foldl Co.bp (c,[],false):=⟨_,rfl⟩
   rw[<- hs]at hSE hME hml em h6
   clear hLB hM hS
   simp only[RT,Q0,Q1,Q2,Q3,Q4,Q5,Q6,Q7,Q8,h13,h15,g3,g4,zcA,e1,fA,la2]
   by_cases k1:a.kind=1
   . have e1:Co.bp s a=(s.1,s.2.1++[(s.1.offer a.round).1],s.2.2):=by unfold Co.bp;rw[if_pos k1]
     rw[e1]at em
     obtain⟨_,D,m1,m2,dv,rfl,m3,m4,m5,m6⟩:=AK9 wE hSE.co a.round
     have hSD:=hSE.ab m2
     have hMD:=aA.jk hME m2
     have hin:cw (qHp (nz X fk ft' fo) D) (s.1.offer a.round).1 dv .ah .ah:=⟨m4,m3,.inl ⟨rfl,m5⟩,.inl ⟨rfl,m6⟩⟩
     obtain⟨F,n1,n2,n3⟩:=Au3 hin
     have hSF:=hSD.ab n2
     have hMF:=aA.jk hMD n2
     obtain⟨v',G,fo2,p1,p2,p3,p4⟩:=hSF.msg hw hMF (hin.mono (Ac8 n2)) (by omega)
     simp only[RT,Q0,Q1,Q2,Q3,Q4,Q5,Q6,Q7,Q8,DT k1,h0,fA,la2]
     refine Aa0 m1 ?_
     simp only[RT,Q0,Q1,Q2,Q3,Q4,Q5,Q6,Q7,Q8,zcM,n1,h5,(ldM n3 m4),A13 m4,p1,h15,hwr]
     refine⟨L.length-(j+1),by omega,j+1,v',ft',fo2,rfl,by omega,?_⟩
     rw[em]
     have oH:(s.2.1++[(s.1.offer a.round).1]).length<=j+1:=by rw[List.length_append];simp;omega
     and_intros<;>first |rfl |assumption
   by_cases k2:a.kind=2
   . have e1:Co.bp s a=(s.1,s.2.1,true):=by unfold Co.bp;rw[if_neg k1,if_pos k2]
     rw[e1]at em
     simp only[RT,Q0,Q1,Q2,Q3,Q4,Q5,Q6,Q7,Q8,DF k1,DT k2,h15,hwr]
     refine⟨L.length-(j+1),by omega,j+1,w,ft',fo,rfl,by omega,?_⟩
     rw[em]
     have oH:s.2.1.length<=j+1:=by omega
     and_intros<;>first |rfl |assumption
   by_cases k3:a.kind=3
   . have e1:Co.bp s a=({ s.1 with tim:=cV s.1.now s.1.tim a.round a.num },s.2.1,s.2.2):=by unfold Co.bp;rw[if_neg k1,if_neg k2,if_pos k3]
     rw[e1]at em
     obtain⟨w1,F,m1,ft2,m2⟩:=hSE.co.set wE a.round a.num
     have hSF:=hSE.next hw m2 (fo:=fo) (fun f q=>.inl q)
     have hle:=m2.le
     have hMF:Lst eMsg (qHp (nz X fk ft2 fo) F) F w s.2.1 fo:=(hME.fr m2.fr (TM.off fun f q z=>(hSE.new f q).2 z)).mono (Hp.le_trans hle (Ae8 fun f q=>by
      rcases q with q |q |q |q
      . exact .inl (.inl q)
      . exact .inr (.inl q)
      . exact .inr (.inr (.inl q))
      . exact .inl (.inr (.inr (.inr q)))))
     simp only[RT,Q0,Q1,Q2,Q3,Q4,Q5,Q6,Q7,Q8,DF k1,DF k2,DT k3]
     rw[BA6,Aa2 (by rfl)]
     simp only[RT,Q0,Q1,Q2,Q3,Q4,Q5,Q6,Q7,Q8,h0,An0 K.cb,fA,la2]
     refine Aa0 m1 ?_
     simp only[RT,Q0,Q1,Q2,Q3,Q4,Q5,Q6,Q7,Q8,h15,hwr]
     refine⟨L.length-(j+1),by omega,j+1,w,ft2,fo,rfl,by omega,?_⟩
     rw[em]
     have oH:s.2.1.length<=j+1:=by omega
     and_intros<;>first |rfl |assumption
   by_cases k4:a.kind=4
   rotate_left
   . have e1:Co.bp s a=s:=by unfold Co.bp;rw[if_neg k1,if_neg k2,if_neg k3,if_neg k4]
     rw[e1]at em
     simp only[RT,Q0,Q1,Q2,Q3,Q4,Q5,Q6,Q7,Q8,DF k1,DF k2,DF k3,DF k4,h15,hwr]
     refine⟨L.length-(j+1),by omega,j+1,w,ft',fo,rfl,by omega,?_⟩
     rw[em]
     have oH:s.2.1.length<=j+1:=by omega
     and_intros<;>first |rfl |assumption
   have e1:Co.bp s a=({ s.1 with done:=(aQ s.1.bat a.id).getD [],bL:=true,tim:=[] },s.2.1,s.2.2):=by unfold Co.bp;rw[if_neg k1,if_neg k2,if_neg k3,if_pos k4]
   rw[e1]at em
   obtain⟨v,lk1,lk2,_⟩:=hSE.co.cm.look hal
   obtain⟨F1,F2,w2,F,n1,n2,n3,n4,n5⟩:=hSE.co.fin wE lk2 (hSE.co.lim.look a.id)
   obtain⟨tv,dv,bl,x1,_⟩:=hSE.co.cm.ex
   have ld:=Ap2 x1
   have hSF:=hSE.next hw n4 (fo:=fo) (fun f q=>.inl q)
   have hMF:Lst eMsg (qHp (nz X fk none fo) F) F w s.2.1 fo:=(hME.fr n4.fr (TM.off fun f q z=>(hSE.new f q).2 z)).mono (Hp.le_trans n4.le (Ae8 fun f q=>by
    rcases q with q |q |q |q
    . exact .inl (.inl q)
    . exact .inr (.inl q)
    . exact .inr (.inr (.inl q))
    . exact .inl (.inr (.inr (.inr q)))))
   simp only[RT,Q0,Q1,Q2,Q3,Q4,Q5,Q6,Q7,Q8,DF k1,DF k2,DF k3,DT k4]
   rw[BA7,Aa2 (by rfl)]
   simp only[RT,Q0,Q1,Q2,Q3,Q4,Q5,Q6,Q7,Q8,h0,An0 K.cb,fA,la2,ld,lk1,n1,n2]
   refine Aa0 n3 ?_
   simp only[RT,Q0,Q1,Q2,Q3,Q4,Q5,Q6,Q7,Q8,h15,hwr]
   refine⟨L.length-(j+1),by omega,j+1,w,none,fo,rfl,by omega,?_⟩
   rw[em]
   have oH:s.2.1.length<=j+1:=by omega
   and_intros<;>first |rfl |assumption
 . rintro z e B hz ⟨rfl,w,ft',fo,hS,hM,hml,h0,h5,h6⟩
   obtain⟨s,hs⟩:∃s,s=c.al L:=⟨_,rfl⟩
   rw[<- hs]at hS hM hml h6
   have wB:=hS.wf hw
   obtain⟨tv,dv,bl,x1,_⟩:=hS.co.cm.ex
   obtain⟨_,D,m1,m2,iv,fi,rfl,m3,m4⟩:=Ay9 wB hS.co.rd x1
   have hSD:=hS.ab m2
   have hMD:=aA.jk hM m2
   have hin:cw (qHp (nz X fk ft' fo) D) (dC s.1.rd) .ah iv .ah:=⟨rfl,.inl ⟨rfl,rfl⟩,m3.mO (fun b cs q=>by cases q) (fun f q w=>by have:=hS.co.xlt f w;have:=m4 f q;omega),.inl ⟨rfl,rfl⟩⟩
   obtain⟨F,n1,n2,n3⟩:=Au3 hin
   have hSF:=hSD.ab n2
   have hMF:=aA.jk hMD n2
   have hil:(dC s.1.rd).id.length=32:=rfl
   simp only[RT,Q0,Q1,Q2,Q3,Q4,Q5,Q6,Q7,Q8,h0]
   refine Aa0 m1 ?_
   have eA:c.act L=(s.1,if s.2.2=true/\0<(cW s.1.rd).length then s.2.1++[dC s.1.rd] else s.2.1):=by unfold Co.act;rw[<- hs]
   rw[eA]
   have n1:ag TP 48 (.ptr D.blk.length 0) (.agg (mc (fc s.1.rd.me s.1.rd.ai (cW s.1.rd)) .ah iv .ah)) (D.push ⟨mcZ,.var⟩)=some F:=n1
   by_cases q:s.2.2=true
   rotate_left
   . have q2:s.2.2=false:=by simpa using q
     simp only[RT,Q0,Q1,Q2,Q3,Q4,Q5,Q6,Q7,Q8,zcM,n1,h6,q2]
     simp only[RT,Q0,Q1,Q2,Q3,Q4,Q5,Q6,Q7,Q8,h5]
     refine⟨ft',fo,hSF,?_⟩
     rw[if_neg (by simp)]
     exact hMF
   by_cases q3:0<(cW s.1.rd).length
   rotate_left
   . simp only[RT,Q0,Q1,Q2,Q3,Q4,Q5,Q6,Q7,Q8,zcM,n1,h6,q,DF q3]
     simp only[RT,Q0,Q1,Q2,Q3,Q4,Q5,Q6,Q7,Q8,h5]
     refine⟨ft',fo,hSF,?_⟩
     rw[if_neg (by simp[q3])]
     exact hMF
   obtain⟨v',G,fo2,p1,p2,p3,p4⟩:=hSF.msg hw hMF (hin.mono (Ac8 n2)) (by omega)
   have lm:=ldM n3 hil
   simp only[RT,Q0,Q1,Q2,Q3,Q4,Q5,Q6,Q7,Q8,zcM,n1,h6,q,DT q3]
   simp only[RT,Q0,Q1,Q2,Q3,Q4,Q5,Q6,Q7,Q8,h5,lm,A13 hil,p1]
   refine⟨ft',fo2,p2,?_⟩
   rw[if_pos (by first |exact⟨trivial,q3⟩ |exact⟨rfl,q3⟩ |exact⟨q,q3⟩ |exact q3)]
   exact p3
end
end Go.Sv.Tryz
namespace Go.Sv
open Go
def Co.bA(c:Co)(b:Bts):Co×List M :=
 if b.length>4096 then(c,[])else Co.act { (c.a6 b).1 with rd:=((c.a6 b).1.rd.bA (az b)).1 } ((c.a6 b).2++((c.a6 b).1.rd.bA (az b)).2)
def Co.lZ(c:Co):Co×List M:=Co.act { c with rd:=(c.rd.bA z32).1 } (c.rd.bA z32).2
def co0(n me:Nat)(h:Int):Co:=⟨rd0 n me h,0,[],[],[],[],false⟩
theorem Cl8(n me:Nat)(h:Int):eI (co0 n me h):=⟨⟨by show(0:Int)<=0;omega,by show(0:Int)<=1000000;omega⟩,by show([]:List bj).length<=40;simp,(fun p q=>by cases q),by show([]:Bts).length<=_;simp⟩
end Go.Sv
namespace Go.Sv.Tryz
open Go Go.Proofs
section
variable {r:Rd}
theorem Rng.lb:∀{k:Nat} {r:Rd},Rng r->(Rd.rules k r).al.length<=r.al.length+2*k
 | 0,r,h=>Nat.le_refl _
 |k+1,r,h=>by
  have h1:=h.bP
  unfold Rd.rules;split
  . have:=Rng.lb (k:=k) h1.1;omega
  . omega
theorem Rng.ib(h:Rng r):r.settle.2.length<=r.al.length+2000:=Rng.lb (k:=1000) h
theorem Rng.fX(h:Rng r)(id:Bts):Rng (r.fX id).1/\(r.fX id).2.length<=r.al.length+2000/\(r.fX id).1.al=[]:=by
 have k:=h.gh id
 have:=k.1.ib
 rw[k.2]at this
 exact⟨k.1.settle,this,rfl⟩
theorem Rng.bA(h:Rng r)(id:Bts):Rng (r.bA id).1/\(r.bA id).2.length<=r.al.length+2001/\(r.bA id).1.al=[]:=by
 unfold Rd.bA
 split
 . have:=h.ib;exact⟨h.settle,by omega,rfl⟩
 . have k:Rng (({ r with fresh:=if id=z32 then r.fresh else id }:Rd).begin 0)/\(({ r with fresh:=if id=z32 then r.fresh else id }:Rd).begin 0).al.length<=r.al.length+1:=Rng.begin (r:={ r with fresh:=if id=z32 then r.fresh else id }) { h with } (by omega)
   have:=k.1.ib
   exact⟨k.1.settle,by omega,rfl⟩
end
section
variable {X Y:Nat->Prop} {A B C:AS} {K:CoK} {c c1 c2:Co} {fk ft fk1 ft1 fk2 ft2 fo fo2:Option Nat}
def iG(X:Nat->Prop)(A:AS)(K:CoK)(fk ft:Option Nat)(B:AS)(x:Co×List M)(w:V):Prop:=∃fk' ft' fo,aA X A K fk ft B fk' ft' fo x.1/\Lst eMsg (qHp (nz X fk' ft' fo) B) B w x.2 fo
theorem iG.next{x:Co×List M}{w:V}(hw:WF A)(h:aA X A K fk ft B fk1 ft1 fo c1)(k:iG (nz X fk1 ft1 fo) B K fk1 ft1 C x w):iG X A K fk ft C x w:=by
 obtain⟨fk2,ft2,fo2,k1,k2⟩:=k
 refine⟨fk2,ft2,fo2,h.next hw k1 (fun f q=>.inr q),k2.mono (Ae8 fun f q=>?_)⟩
 rcases q with q |q
 . exact .inl (.inl q)
 . exact .inr q
theorem iG.br{x:Co×List M}{w:V}(hw:WF A)(hf:Fr S0 A B)(k:iG X B K fk ft C x w):iG X A K fk ft C x w:=by
 obtain⟨fk2,ft2,fo2,k1,k2⟩:=k
 exact⟨fk2,ft2,fo2,k1.br hw hf,k2⟩
theorem iG.nil(h:bV X A K fk ft c)(hf:Fr S0 A B):iG X A K fk ft B (c,[]) .ah:=⟨fk,ft,none,.of0 h hf,.nil⟩
theorem aA.ph{w w2:V}{l l2:List Act}(hw:WF A)(h:aA X A K fk ft B fk1 ft1 fo c1)(hL:Lst dp Hp.emp B w l fo)(k:aA (nz X fk1 ft1 fo) B K fk1 ft1 C fk2 ft2 fo2 c2)(hL2:Lst dp Hp.emp C w2 l2 fo2)(hl:l.length+l2.length<=10000000):
 ∃v' D fo',aR TP 81 81 w w2 C=some (v',D)/\aA X A K fk ft D fk2 ft2 fo' c2/\Lst dp Hp.emp D v' (l++l2) fo'/\Fr (aI C fo) C D/\Gr C fo fo':=by
 have hC:=h.next hw k (fo:=fo) (fun f q=>.inl q)
 have hLC:=hL.fr k.fr (TM.off fun f q=>(h.new f q).2)
 obtain⟨cs',q1,q2⟩:=hL2.src (P:=TP) (tx:=81) Tryz.underlying81
 obtain⟨v',D,fo',p1,p2,p3,p4⟩:=hLC.app (P:=TP) (t:=81) (tx:=81) (e:=123) Cx7 (hC.wf hw) q1 q2 (by omega) (by omega)
 exact⟨v',D,fo',p1,(hC.grow hw p3 p4 p2.bO).1,p2,p3,p4⟩
theorem aA.more{w w2:V}{l l2:List Act}(hw:WF A)(h:aA X A K fk ft B fk1 ft1 fo c1)(hL:Lst dp Hp.emp B w l fo)(k:aA (nz X fk1 ft1 fo) B K fk1 ft1 C fk2 ft2 fo2 c2)(hL2:Lst dp Hp.emp C w2 l2 fo2)(hl:l.length+l2.length<=10000000):
 ∃v' D fo',aR TP 81 81 w w2 C=some (v',D)/\aA X A K fk ft D fk2 ft2 fo' c2/\Lst dp Hp.emp D v' (l++l2) fo':=by
 obtain⟨v',D,fo',p1,p2,p3,_⟩:=h.ph hw hL k hL2 hl
 exact⟨v',D,fo',p1,p2,p3⟩
theorem aA.box{b:Nat}{cs:List V}(hw:WF A)(h:aA X A K fk ft B fk1 ft1 fo c)(hb:B.blk[b]?=some ⟨cs,.var⟩)(hf:Fr (·=.row b) B C)(hn:A.blk.length<=b)(hne:b≠K.cb/\b≠K.rp/\b≠K.cp):aA X A K fk ft C fk1 ft1 fo c:=by
 have hts:Fr (TM (fun x=>x=b) (fun _=>False) (fun _=>False) B) B C:=hf.mono fun x q=>by subst q;exact .inl ⟨_,hb,rfl⟩
 have hle:(qHp (nz X fk1 ft1 fo) B).le (qHp (nz X fk1 ft1 fo) C):=Ae4 hf (.box hb) (h.wf hw) fun f q=>.inl q
 exact { h with fr:=h.fr.trans hf fun x q=>.inr (by subst q;exact hn),co:=h.co.ts (h.wf hw) hts ⟨fun q=>hne.1 q.symm,fun q=>hne.2.1 q.symm,fun q=>hne.2.2 q.symm⟩ (fun f q=>q.elim) ⟨fun q=>q,fun q=>q⟩ (fun f q=>.inl q) h.co.sub (fun f q=>Nat.lt_of_lt_of_le (h.co.xlt f q) hf.len),le:=Hp.le_trans h.le hle }
theorem aA.act{w:V}{l:List Act}(hw:WF A)(h:aA X A K fk ft B fk1 ft1 fo c1)(hL:Lst dp Hp.emp B w l fo)(hl:l.length<=1000000):∃w' C,EvF TP HH 28 [.ptr K.cb 0,w] B w' C/\iG X A K fk ft C (c1.act l) w':=by
 obtain⟨w',C,k1,ft',fo',k2,k3⟩:=Bu5 (h.wf hw) h.co hL (fun f q=>(h.new f q).2) hl
 exact⟨w',C,k1,iG.next hw h ⟨fk1,ft',fo',k2,k3⟩⟩
set_option maxRecDepth 10000 in
set_option maxHeartbeats 8000000 in
theorem AA9{v:V}{b:Bts}(hw:WF A)(h:bV X A K fk ft c)(hv:Slc eU8 (qHp X A) v b)(hb:b.length<=1000000):
 ∃w A',EvF TP HH 8 [.ptr K.cb 0,v] A w A'/\iG X A K fk ft A' (c.bA b) w:=by
 refine Aa4 rfl Tryz.func8 (by unfold Tryz.f8;rfl) Tryz.ntmps8 (by unfold Tryz.f8;rfl) (by simp) ?_
 have hln:=fun B=>hv.len (P:=TP) Tryz.underlying45 B
 unfold Co.bA
 by_cases q:b.length>4096
 . simp only[RT,Q0,Q1,Q2,Q3,Q4,Q5,Q6,Q7,Q8,hln,DT (show(b.length:Int)>4096 by omega)]
   rw[if_pos q]
   exact .nil h (.refl _ _)
 rw[if_neg q]
 obtain⟨w1,A1,k1,fk1,fo1,k2,k3⟩:=As5 hw h (Ab5 X A) hv hb
 have w1':=k2.wf hw
 obtain⟨_,A2,m1,m2,rfl⟩:=AF1 w1' (Ab5 _ A1) (hv.mono k2.le) (by omega)
 have k2':=k2.ab m2
 have w2':=k2'.wf hw
 obtain⟨tv1,dv1,bl1,y1,_⟩:=k2.co.cm.ex
 have ld1:=Ap2 y1
 have ld2:=Ap2 (m2.af y1)
 have hr:=k2'.co.rng
 obtain⟨w3,A3,n1,n2⟩:=AE9 w2' k2'.co.rd hr (by rw[k2'.co.al];simp) (Ab4 b)
 have hB:=hr.bA (az b)
 rw[k2'.co.al]at hB
 obtain⟨fk3,fo3,o1,o2⟩:=k2'.co.lK w2' n2 (A73 _ _) hB.1 hB.2.2
 have hll:(c.a6 b).2.length<=2000:=by
  have:=(h.rng.fX (az b)).2.1
  rw[h.al]at this;exact this
 have hl2:((c.a6 b).1.rd.bA (az b)).2.length<=2001:=hB.2.1
 obtain⟨v4,A4,fo4,p1,p2,p3⟩:=k2'.more hw (k3.fr0 m2) o1 o2 (by omega)
 obtain⟨w5,A5,u1,u2⟩:=p2.act hw p3 (by rw[List.length_append];omega)
 simp only[RT,Q0,Q1,Q2,Q3,Q4,Q5,Q6,Q7,Q8,hln,DF (show ¬(b.length:Int)>4096 by omega)]
 refine Aa0 k1 ?_
 simp only[RT,Q0,Q1,Q2,Q3,Q4,Q5,Q6,Q7,Q8,Cd9,Aa1,An0 K.cb,ld1]
 refine Aa0 m1 ?_
 simp only[RT,Q0,Q1,Q2,Q3,Q4,Q5,Q6,Q7,Q8,Aa1]
 refine⟨Aa5 (ha:=rfl) rfl ld2.1 rfl Aa1,?_⟩
 refine Aa0 n1 ?_
 simp only[RT,Q0,Q1,Q2,Q3,Q4,Q5,Q6,Q7,Q8,Aa1,p1]
 refine Aa0 u1 ?_
 simp only[RT,Q0,Q1,Q2,Q3,Q4,Q5,Q6,Q7,Q8,Aa1]
 exact u2
set_option maxRecDepth 10000 in
set_option maxHeartbeats 8000000 in
theorem Bi8(hw:WF A)(h:bV X A K fk ft c):
 ∃w A',EvF TP HH 16 [.ptr K.cb 0] A w A'/\iG X A K fk ft A' c.lZ w:=by
 refine Aa4 rfl Tryz.func16 (by unfold Tryz.f16;rfl) Tryz.ntmps16 (by unfold Tryz.f16;rfl) (by simp) ?_
 obtain⟨tv1,dv1,bl1,y1,_⟩:=h.cm.ex
 have ld1:=Ap2 y1
 obtain⟨w3,A3,n1,n2⟩:=AE9 hw h.rd h.rng (by rw[h.al];simp) Aa9
 have hB:=h.rng.bA z32
 rw[h.al]at hB
 obtain⟨fk3,fo3,o1,o2⟩:=h.lK hw n2 (A73 _ _) hB.1 hB.2.2
 obtain⟨w5,A5,u1,u2⟩:=o1.act hw o2 (by have:=hB.2.1;simp at this;omega)
 simp only[RT,Q0,Q1,Q2,Q3,Q4,Q5,Q6,Q7,Q8,An0 K.cb,ld1,Ad8]
 refine Aa0 n1 ?_
 simp only[RT,Q0,Q1,Q2,Q3,Q4,Q5,Q6,Q7,Q8]
 refine Aa0 u1 ?_
 simp only[RT,Q0,Q1,Q2,Q3,Q4,Q5,Q6,Q7,Q8]
 exact u2
set_option maxRecDepth 10000 in
set_option maxHeartbeats 8000000 in
theorem AF6(hw:WF A)(h:bV X A K fk ft c):
 ∃w A',EvF TP HH 22 [.ptr K.cb 0] A w A'/\Fr S0 A A'/\∃v,w=.tup [v,.bool c.bL]/\Slc eU8 (qHp X A') v (if c.bL then c.done else []):=by
 refine Aa4 rfl Tryz.func22 (by unfold Tryz.f22;rfl) Tryz.ntmps22 (by unfold Tryz.f22;rfl) (by simp) ?_
 obtain⟨tv,dv,bl,x1,x2,x3,x4,x5,x6⟩:=h.cm.ex
 have ld:=Ap2 x1
 cases q:c.bL with
 |false =>
  rw[q]at ld
  simp only[RT,Q0,Q1,Q2,Q3,Q4,Q5,Q6,Q7,Q8,An0 K.cb,ld,Af4]
  exact⟨.refl _ _,.ah,rfl,.inl ⟨rfl,rfl⟩⟩
 |true =>
  rw[q]at ld
  obtain⟨c',B,y1,y2,y3,y4,y5⟩:=At1 (P:=TP) (t:=45) (tx:=45) hw BX5 Tryz.underlying45 x6 (Ab5 X A) (by have:=h.lim.done;omega) (by have:=h.lim.done;omega)
  have f4:=Fr.aF A []
  have ldP:=Ap2 (f4.af x1)
  have hnX:¬X A.blk.length:=fun q=>by have:=h.xlt _ q;omega
  simp only[RT,Q0,Q1,Q2,Q3,Q4,Q5,Q6,Q7,Q8,An0 K.cb,ld,Af4,Bu2]
  simp only[RT,Q0,Q1,Q2,Q3,Q4,Q5,Q6,Q7,Q8,An0 K.cb,ldP,y1]
  exact⟨y5,_,rfl,Br3 (Aj1 y2 hnX) rfl⟩
structure oI(A:AS)(K:CoK):Prop where
 cb:A.blk.length<=K.cb
 cp:A.blk.length<=K.cp
 nr:kY A K.rp K.vb
 mb:A.maps.length<=K.mb
 mg:A.maps.length<=K.mg
theorem Cl9:mkm TP 72 (some none)=some .cq:=by kernel_rfl
theorem Cm0:mkm TP 73 (some none)=some .cq:=by kernel_rfl
theorem Cm1(n me h:Int)(rp mb mg:Nat):au TP 78 [(0,.ptr rp 0),(2,.int .i64 n),(3,.int .i64 me),(4,.int .i64 h),(5,.map mb),(6,.map mg)]=some (.agg (coC rp n me h 0 .ah .ah mb mg false)):=by kernel_rfl
set_option maxRecDepth 10000 in
set_option maxHeartbeats 8000000 in
theorem Bi9(hw:WF A){n me:Nat}{h:Int}(hok:okN n)(hme:me<n)(h0:0<=h):∃w A',EvF TP HH 25 [.int .i64 (n:Int),.int .i64 (me:Int),.int .i64 h] A w A'/\Fr S0 A A'/\∃rp cp vb,w=.tup [.ptr rp 0,.int .i64 0]/\a4 A' rp (rd0 n me h) cp vb none none/\kY A rp vb/\A.blk.length<=cp:=by
 have h7:n<=7:=by unfold okN at hok;omega
 refine Aa4 rfl Tryz.func25 (by unfold Tryz.f25;rfl) Tryz.ntmps25 (by unfold Tryz.f25;rfl) (by simp) ?_
 simp only[RT,Q0,Q1,Q2,Q3,Q4,Q5,Q6,Q7,Q8]
 obtain⟨w,A1,k1,f1,k3⟩:=AE6 (n:=(n:Int)) hw (by omega) (by omega)
 refine Aa0 k1 ?_
 rcases k3 with⟨q,rfl⟩ |⟨m,cp,vb,qm,hm,rfl,hc,hcp,hvb⟩
 . exact absurd hok (fun z=>A55 q (by unfold okN at z;omega))
 obtain rfl:m=n:=by omega
 simp only[RT,Q0,Q1,Q2,Q3,Q4,Q5,Q6,Q7,Q8,DF (show ¬((me:Int)<0) by omega),DF (show ¬((me:Int)>=(m:Int)) by omega),DF (show ¬h<0 by omega),B30]
 obtain⟨A2,e2,f2,r2,n2⟩:=Aa3 A1 (dP (rd0 m me h) .ah .ah cp)
 rw[<- e2]
 refine⟨f1.ab f2,A1.blk.length,cp,vb,rfl,?_,⟨f1.len,hvb⟩,hcp⟩
 have:=hc.fr0 f2
 exact { box:=⟨.ah,.ah,r2,.nil,.nil⟩,cnt:=this,ok:=CA2 _ _ _,rc:=fun q=>by have:=Ab3 hc.box;omega,ne1:=fun _ q=>(by cases q),ne2:=fun _ _=>⟨fun q=>(by cases q),fun q=>(by cases q)⟩ }
def nF(A A':AS)(w:V)(n me:Nat)(h:Int):Prop:=∃K:CoK,w=.tup [.ptr K.cb 0,.int .i64 0]/\oI A K/\∀X:Nat->Prop,(∀f,X f->f<A.blk.length)->bV (fun f=>X f∨XCo K none none f) A' K none none (co0 n me h)
set_option maxRecDepth 10000 in
set_option maxHeartbeats 8000000 in
theorem Bu6{A1:AS}{w:V}{n me:Nat}{h:Int}{rp cp:Nat}{vb:Nat->Nat}(hw:WF A)(q:¬h>1099511627776)(k1:EvF TP HH 25 [.int .i64 (n:Int),.int .i64 (me:Int),.int .i64 h] A (.tup [.ptr rp 0,.int .i64 0]) A1)(f1:Fr S0 A A1)(hlt:me<n)(h0:0<=h)(hR:a4 A1 rp (rd0 n me h) cp vb none none)(hN:kY A rp vb)(hcp:A.blk.length<=cp):
 ∃w A',EvF TP HH 5 [.int .i64 (n:Int),.int .i64 (me:Int),.int .i64 h] A w A'/\Fr S0 A A'/\nF A A' w n me h:=by
 refine Aa4 rfl Tryz.func5 (by unfold Tryz.f5;rfl) Tryz.ntmps5 (by unfold Tryz.f5;rfl) (by simp) ?_
 simp only[RT,Q0,Q1,Q2,Q3,Q4,Q5,Q6,Q7,Q8,DF q]
 refine Aa0 k1 ?_
 obtain⟨A2,e2⟩:∃B,B=A1.bQ ⟨[],0⟩:=⟨_,rfl⟩
 have f2:Fr S0 A1 A2:=by rw[e2];exact Fr.bQ A1 _
 obtain⟨mb,hmb⟩:∃m,m=A1.maps.length:=⟨_,rfl⟩
 have hM2:ee A2 mb lV Prod.fst ([]:oE):=by rw[e2,hmb];exact ee.new A1
 obtain⟨A3,e3⟩:∃B,B=A2.bQ ⟨[],0⟩:=⟨_,rfl⟩
 have f3:Fr S0 A2 A3:=by rw[e3];exact Fr.bQ A2 _
 obtain⟨mg,hmg⟩:∃m,m=A2.maps.length:=⟨_,rfl⟩
 have hM3:ee A3 mg mU V.bool ([]:List (Int×Bool)):=by rw[e3,hmg];exact ee.new A2
 have hl2:A2.maps.length=A1.maps.length+1:=by rw[e2];simp[AS.bQ]
 obtain⟨A4,e4,f4,r4,n4⟩:=Aa3 A3 (coC rp (n:Int) (me:Int) h 0 .ah .ah mb mg false)
 obtain⟨cb,hcb⟩:∃b,b=A3.blk.length:=⟨_,rfl⟩
 rw[<- hcb]at r4
 simp only[RT,Q0,Q1,Q2,Q3,Q4,Q5,Q6,Q7,Q8,Cl9,Cm0,<- e2,<- hmb,<- e3,<- hmg,Cm1]
 simp only[RT,Q0,Q1,Q2,Q3,Q4,Q5,Q6,Q7,Q8,<- e4,<- hcb]
 have f14:=(f2.ab f3).ab f4
 have fA4:=f1.ab f14
 have hR4:=hR.fr0 f14
 have l13:=(f2.ab f3).len
 have rpl:rp<A1.blk.length:=by obtain⟨_,_,b,_⟩:=hR.box;exact Ab3 b
 have cpl:cp<A1.blk.length:=Ab3 hR.cnt.box
 have hml:∀{A B:AS},Fr S0 A B->A.maps.length<=B.maps.length:=fun hf=>by
  apply Nat.not_lt.1;intro z
  obtain⟨mo,q⟩:=Ac7 z
  have:=hf.map _ _ q (fun w=>w)
  have:=(LG.1 this).1
  omega
 have m1:=hml f1
 refine⟨fA4,⟨cb,rp,cp,mb,mg,vb⟩,rfl,⟨by show A.blk.length<=cb;have:=f1.len;omega,hcp,hN,by show A.maps.length<=mb;omega,by show A.maps.length<=mg;omega⟩,fun X hX=>?_⟩
 refine⟨hR4,⟨⟨.ah,.ah,[],r4,.nil,(hM2.fr f3 (fun q=>q)).fr f4 (fun q=>q),rfl,(fun p q=>by cases q),.inl ⟨rfl,rfl⟩⟩,hM3.fr f4 (fun q=>q),by show mb≠mg;omega⟩,fun f q=>.inr q,fun f q=>?_,by show cb≠rp;omega,by show cb≠cp;omega,(fun f q=>by cases q),CA3 hlt h0 (by omega),rfl,Cl8 _ _ _⟩
 rcases q with q |q |q
 . exact Nat.lt_of_lt_of_le (hX f q) fA4.len
 . exact hR4.xlt q
 . cases q
theorem A75(hw:WF A){n me:Nat}{h:Int}(hok:okN n)(hme:me<n)(h0:0<=h)(h1:h<=1099511627776):∃w A',EvF TP HH 5 [.int .i64 (n:Int),.int .i64 (me:Int),.int .i64 h] A w A'/\Fr S0 A A'/\nF A A' w n me h:=by
 obtain⟨w,A1,k1,f1,rp,cp,vb,rfl,hR,hN,hcp⟩:=Bi9 hw hok hme h0
 exact Bu6 (w:=.eg) hw (by omega) k1 f1 hme h0 hR hN hcp
end
end Go.Sv.Tryz
namespace Go.Sv
open Go
theorem Bu7{p q:List V}{n j:Nat}(hp:p.length=n)(hj:j<q.length)(w:V):putAt (p++q) (n+j) [w]=p++q.set j w:=by
 have e:putAt (p++q) (n+j) [w]=(p++q).set (n+j) w:=by
  unfold putAt
  rw[List.set_eq_take_append_cons_drop,if_pos (by rw[List.length_append];omega)]
  simp
 rw[e,List.set_append_right _ _ (by omega),hp,Nat.add_sub_cancel_left]
end Go.Sv
namespace Go.Sv.Tryz
open Go Go.Proofs
abbrev BaP:=Bts×Bts
def baC(p:BaP):List V:=bc p.1++[.str p.2]
theorem Bj0{p:BaP}(h:p.1.length=32):(baC p).length=33:=by simp[baC,Aa7,h]
theorem BK4(p:BaP):(baC p).all V.one=true:=by simp only[baC,List.all_append,Ac9];rfl
def eBa:Enc BaP:=⟨33,true,fun _ cs x=>cs=baC x/\x.1.length=32,fun h=>by rw[h.1,Bj0 h.2],fun h=>by simp at h,fun h=>by rw[h.1,BK4],fun _ h=>h⟩
theorem Cm2{m:Hp}{w:V}{x:BaP}:eBa.W m w x↔w=.agg (baC x)/\x.1.length=32:=by
 unfold Enc.W;rw[if_pos (by rfl)]
 exact⟨fun⟨cs,h,h1,h2⟩=>⟨by rw[h,h1],h2⟩,fun⟨h,h2⟩=>⟨_,h,rfl,h2⟩⟩
structure RcV where
 ov:V
 kv:V
 vv:V
 tv:V
 av:V
 dv:V
 bv:V
 gv:V
def RcV.rr(s:RcV)(r:Rd):List V:=(rrS r s.ov s.kv s.vv s.tv s.av).cs
def rcC(c:Co)(s:RcV):List V:=s.rr c.rd++[s.dv,s.bv,s.gv,.str c.done,.bool c.bL]
def jl(c:Co):List bj:=c.tim.map fun x=>(x.1-c.now,x.2.1,x.2.2)
def xz(X Z:Nat->Prop):Nat->Prop:=fun f=>X f∨Z f
def xn(X Z:Nat->Prop):Nat->Prop:=fun f=>X f∨¬Z f
structure cO(X Z:Nat->Prop)(A:AS)(c:Co)(s:RcV):Prop where
 rr:cD (xz X Z) 0 A c.rd s.ov s.kv s.vv s.tv s.av
 ds:Slc dQ (qHp (xn X Z) A) s.dv (jl c)
 dl:∀x∈c.tim,c.now<x.1/\x.1<=c.now+2003
 bs:Slc eBa (qHp (xn X Z) A) s.bv c.bat
 gs:Slc (eInt .i64) (qHp (xn X Z) A) s.gv c.cG
def bW(X:Nat->Prop)(A:AS)(c:Co)(s:RcV):Prop:=∃Z,cO X Z A c s
def CxZ(X Z:Nat->Prop)(A:AS)(b:Nat)(c:Co):Prop:=∃s,A.blk[b]?=some ⟨rcC c s,.var⟩/\cO X Z A c s
def Cx(X:Nat->Prop)(A:AS)(b:Nat)(c:Co):Prop:=∃s,A.blk[b]?=some ⟨rcC c s,.var⟩/\bW X A c s
def RCs(X:Nat->Prop)(A:AS)(c:Co)(w:V):Prop:=∃s,w=.agg (rcC c s)/\bW X A c s
section
variable {X Y Z:Nat->Prop} {A B C:AS} {c c':Co} {s:RcV} {w:V} {b:Nat} {r:Rd} {S:Loc->Prop} {fo:Option Nat} {N:Nat}
theorem bW.rr(h:bW X A c s):cD X 0 A c.rd s.ov s.kv s.vv s.tv s.av:=h.choose_spec.rr.sub fun f q=>.inl q
theorem BK5:(qHp (xn X Z) A).le (qHp X A):=Ae8 fun f q=>.inl q
theorem bW.ds(h:bW X A c s):Slc dQ (qHp X A) s.dv (jl c):=h.choose_spec.ds.mono BK5
theorem bW.dl(h:bW X A c s):∀x∈c.tim,c.now<x.1/\x.1<=c.now+2003:=h.choose_spec.dl
theorem bW.bs(h:bW X A c s):Slc eBa (qHp X A) s.bv c.bat:=h.choose_spec.bs.mono BK5
theorem bW.gs(h:bW X A c s):Slc (eInt .i64) (qHp X A) s.gv c.cG:=h.choose_spec.gs.mono BK5
theorem BG7(h:Tch X A S):Tch (xz X Z) A S:=fun b k q hk=>(h b k q hk).imp id fun⟨f,base,z1,z2⟩=>⟨f,base,z1,.inl z2⟩
theorem BG8(h:Tch X A S):Tch (xn X Z) A S:=fun b k q hk=>(h b k q hk).imp id fun⟨f,base,z1,z2⟩=>⟨f,base,z1,.inl z2⟩
theorem cO.mv(h:cO X Z A c s)(hw:WF A)(hf:Fr S A B)(ht:Tch X A S):cO X Z B c s:=by
 have q:(qHp (xn X Z) A).le (qHp (xn X Z) B):=Ae4 hf (BG8 ht) hw fun f z=>.inl z
 exact⟨h.rr.mv hw hf (BG7 ht),h.ds.mono q,h.dl,h.bs.mono q,h.gs.mono q⟩
theorem cO.fr0(h:cO X Z A c s)(hf:Fr S0 A B):cO X Z B c s:=by
 have q:(qHp (xn X Z) A).le (qHp (xn X Z) B):=Ac8 hf
 exact⟨h.rr.fr0 hf,h.ds.mono q,h.dl,h.bs.mono q,h.gs.mono q⟩
theorem cO.row{cs:List V}(h:cO X Z A c s)(hw:WF A)(hb:A.blk[b]?=some ⟨cs,.var⟩)(hf:Fr (·=.row b) A B):cO X Z B c s:=h.mv hw hf (.box hb)
theorem cO.go(h:cO X Z A c s)(hw:WF A)(hf:Fr S A B)(ht:Tch X A S)(hY:∀f,Y f->X f∨A.blk.length<=f)(hl:∀f,Y f->f<B.blk.length):cO Y Z B c s:=by
 have q:(qHp (xn X Z) A).le (qHp (xn Y Z) B):=Ae4 hf (BG8 ht) hw fun f z=>z.elim (fun z=>(hY f z).imp .inl id) fun z=>.inl (.inr z)
 exact⟨h.rr.go hw hf (BG7 ht) (fun f z=>z.elim (fun z=>(hY f z).imp .inl id) fun z=>.inl (.inr z)) fun f z=>z.elim (hl f) fun z=>Nat.lt_of_lt_of_le (h.rr.xlt f (.inr z)) hf.len,h.ds.mono q,h.dl,h.bs.mono q,h.gs.mono q⟩
theorem cO.sub(h:cO X Z A c s)(hY:∀f,Y f->X f):cO Y Z A c s:=by
 have q:(qHp (xn X Z) A).le (qHp (xn Y Z) A):=Ae8 fun f z=>z.imp (hY f) id
 exact⟨h.rr.sub fun f z=>z.imp (hY f) id,h.ds.mono q,h.dl,h.bs.mono q,h.gs.mono q⟩
def zn(Z:Nat->Prop)(A B:AS):Nat->Prop:=fun f=>Z f∨(A.blk.length<=f/\f<B.blk.length)
theorem cO.grow(h:cO X Z A c s)(hw:WF A)(hf:Fr S0 A B):cO X (zn Z A B) B c s:=by
 have q:(qHp (xn X Z) A).le (qHp (xn X (zn Z A B)) B):=Ae4 hf .s0 hw fun f z=>.inl (z.imp id fun z y=>z (.inl y))
 exact⟨h.rr.go hw hf .s0 (fun f z=>z.elim (fun z=>.inl (.inl z)) fun z=>z.elim (fun z=>.inl (.inr z)) fun z=>.inr z.1) fun f z=>z.elim (fun z=>Nat.lt_of_lt_of_le (h.rr.xlt f (.inl z)) hf.len) fun z=>z.elim (fun z=>Nat.lt_of_lt_of_le (h.rr.xlt f (.inr z)) hf.len) fun z=>z.2,h.ds.mono q,h.dl,h.bs.mono q,h.gs.mono q⟩
theorem cO.mV{τ:Type}{E:Enc τ}{l:List τ}(h:cO X Z A c s)(hs:eM E A.blk.length B w l):Slc E (qHp (xn X (zn Z A B)) B) w l:=by
 obtain⟨fo,h1,h2⟩:=hs
 refine h1.mO (fun b cs q=>by cases q) fun f q z=>?_
 have:=h2 f q
 rcases z with z |z
 . have:=h.rr.xlt f (.inl z);omega
 . exact z (.inr ⟨this,h1.bO f q⟩)
theorem bW.iV(h:bW X A c s):(s.rr c.rd).length=108:=RrV.len h.rr.ok
theorem bW.len(h:bW X A c s):(rcC c s).length=113:=by unfold rcC;rw[List.length_append,h.iV];rfl
theorem cO.len(h:cO X Z A c s):(rcC c s).length=113:=bW.len ⟨Z,h⟩
theorem cO.iV(h:cO X Z A c s):(s.rr c.rd).length=108:=bW.iV ⟨Z,h⟩
theorem bW.one(h:bW X A c s):(rcC c s).all V.one=true:=by
 unfold rcC
 have h1:(s.rr c.rd).all V.one=true:=h.rr.ok.one
 simp only[List.all_append,h1,List.all_cons,List.all_nil,h.ds.one,h.bs.one,h.gs.one]
 rfl
theorem bW.mv(h:bW X A c s)(hw:WF A)(hf:Fr S A B)(ht:Tch X A S):bW X B c s:=h.imp fun Z h=>h.mv hw hf ht
theorem bW.fr0(h:bW X A c s)(hf:Fr S0 A B):bW X B c s:=h.imp fun Z h=>h.fr0 hf
theorem bW.row{cs:List V}(h:bW X A c s)(hw:WF A)(hb:A.blk[b]?=some ⟨cs,.var⟩)(hf:Fr (·=.row b) A B):bW X B c s:=h.mv hw hf (.box hb)
theorem bW.go(h:bW X A c s)(hw:WF A)(hf:Fr S A B)(ht:Tch X A S)(hY:∀f,Y f->X f∨A.blk.length<=f)(hl:∀f,Y f->f<B.blk.length):bW Y B c s:=h.imp fun Z h=>h.go hw hf ht hY hl
theorem bW.sub(h:bW X A c s)(hY:∀f,Y f->X f):bW Y A c s:=h.imp fun Z h=>h.sub hY
theorem Cx.box(h:Cx X A b c):∃cs,A.blk[b]?=some ⟨cs,.var⟩/\cs.length=113:=by obtain⟨s,e,h⟩:=h;exact⟨_,e,h.len⟩
theorem Cx.lt(h:Cx X A b c):b<A.blk.length:=by obtain⟨cs,q,_⟩:=h.box;exact Ab3 q
theorem Cx.fr0(h:Cx X A b c)(hf:Fr S0 A B):Cx X B b c:=by obtain⟨s,e,h⟩:=h;exact⟨s,hf.af e,h.fr0 hf⟩
theorem RCs.mv(h:RCs X A c w)(hw:WF A)(hf:Fr S A B)(ht:Tch X A S):RCs X B c w:=by obtain⟨s,e,h⟩:=h;exact⟨s,e,h.mv hw hf ht⟩
theorem RCs.sub(h:RCs X A c w)(hY:∀f,Y f->X f):RCs Y A c w:=by obtain⟨s,e,h⟩:=h;exact⟨s,e,h.sub hY⟩
theorem RCs.fr0(h:RCs X A c w)(hf:Fr S0 A B):RCs X B c w:=by obtain⟨s,e,h⟩:=h;exact⟨s,e,h.fr0 hf⟩
theorem Cx.z(h:Cx X A b c):∃Z,CxZ X Z A b c:=by obtain⟨s,e,Z,h⟩:=h;exact⟨Z,s,e,h⟩
theorem CxZ.cx(h:CxZ X Z A b c):Cx X A b c:=by obtain⟨s,e,h⟩:=h;exact⟨s,e,Z,h⟩
theorem CxZ.fr0(h:CxZ X Z A b c)(hf:Fr S0 A B):CxZ X Z B b c:=by obtain⟨s,e,h⟩:=h;exact⟨s,hf.af e,h.fr0 hf⟩
theorem CxZ.row{cs:List V}{b':Nat}(h:CxZ X Z A b c)(hw:WF A)(hb:A.blk[b']?=some ⟨cs,.var⟩)(hf:Fr (·=.row b') A B)(hne:b≠b'):CxZ X Z B b c:=by obtain⟨s,e,h⟩:=h;exact⟨s,hf.aq e hne,h.row hw hb hf⟩
theorem Cx.go(h:Cx X A b c)(hw:WF A)(hf:Fr S A B)(ht:Tch X A S)(hn:¬S (.row b))(hY:∀f,Y f->X f∨A.blk.length<=f)(hl:∀f,Y f->f<B.blk.length):Cx Y B b c:=by obtain⟨s,e,h⟩:=h;exact⟨s,hf.row _ _ e hn,h.go hw hf ht hY hl⟩
theorem Cx.sub(h:Cx X A b c)(hY:∀f,Y f->X f):Cx Y A b c:=by obtain⟨s,e,h⟩:=h;exact⟨s,e,h.sub hY⟩
theorem RCs.new(h:RCs X A c w):∃cs,w=.agg cs/\∃A1,A1=A.push ⟨cs,.var⟩/\Fr S0 A A1/\Cx X A1 A.blk.length c:=by
 obtain⟨s,rfl,h⟩:=h
 obtain⟨A1,e1,f1,r1,n1⟩:=Aa3 A (rcC c s)
 exact⟨_,rfl,A1,e1,f1,s,r1,h.fr0 f1⟩
theorem RCs.put{cs:List V}(h:RCs X A c w)(hw:WF A)(hb:A.blk[b]?=some ⟨cs,.var⟩)(hl:cs.length=113):∃A',ag TP 41 (.ptr b 0) w A=some A'/\aa TP 41 (.ptr b 0) A'=some w/\Fr (·=.row b) A A'/\Cx X A' b c/\RCs X A' c w:=by
 obtain⟨s,rfl,h⟩:=h
 obtain⟨A',s1,s2,s3,s4⟩:=Ab1 (P:=TP) (t:=41) (o:=0) (x:=.agg (rcC c s)) (cs:=rcC c s) hb rfl (by rw[h.len];exact BI0) (by rw[hl,h.len];omega) h.one
 have e:putAt cs 0 (rcC c s)=rcC c s:=by
  unfold putAt
  rw[Nat.zero_add,List.drop_eq_nil_of_le (by rw[hl,h.len];omega)];simp
 rw[e]at s3
 have h':=h.row hw hb s2
 exact⟨A',s1,At.load s3 (.all _) Ce3 BI0 h.len,s2,⟨s,s3,h'⟩,⟨s,rfl,h'⟩⟩
theorem Cx.set(h:Cx X A b c)(hw:WF A)(k:RCs X A c' w):∃A',ag TP 41 (.ptr b 0) w A=some A'/\Fr (·=.row b) A A'/\Cx X A' b c':=by
 obtain⟨cs,q,hl⟩:=h.box
 obtain⟨A',s1,_,s2,s3,_⟩:=k.put hw q hl
 exact⟨A',s1,s2,s3⟩
theorem Cx.out(h:Cx X A b c):∃w,aa TP 41 (.ptr b 0) A=some w/\RCs X A c w:=by
 obtain⟨s,e,h⟩:=h
 exact⟨_,At.load e (.all _) Ce3 BI0 h.len,s,rfl,h⟩
theorem Cx.fin{b4:Nat}{cs:List V}(h:Cx X A b c)(hw:WF A)(hz:A.blk[b4]?=some ⟨cs,.var⟩)(hl:cs.length=113):∃w A',aa TP 41 (.ptr b 0) A=some w/\ag TP 41 (.ptr b4 0) w A=some A'/\aa TP 41 (.ptr b4 0) A'=some w/\Fr (·=.row b4) A A'/\RCs X A' c w:=by
 obtain⟨w,l,k⟩:=h.out
 obtain⟨A',s1,s2,s3,_,s4⟩:=k.put hw hz hl
 exact⟨w,A',l,s1,s2,s3,s4⟩
def rcZ:List V:=rrZ.cs++[.ah,.ah,.ah,.str [],.bool false]
theorem Ad9:rcZ.length=113:=by unfold rcZ;rw[List.length_append,rrZ.len AA7];rfl
theorem Bc5:(aC TP 41).bind V.cells=some rcZ:=by kernel_rfl
theorem Bf4(b:Nat):ae TP 41 (.ptr b 0) 0=some (.ptr b 0)/\ae TP 41 (.ptr b 0) 1=some (.ptr b 108)/\ae TP 41 (.ptr b 0) 2=some (.ptr b 109)/\ae TP 41 (.ptr b 0) 3=some (.ptr b 110)/\ae TP 41 (.ptr b 0) 4=some (.ptr b 111)/\ae TP 41 (.ptr b 0) 5=some (.ptr b 112):=⟨by kernel_rfl,by kernel_rfl,by kernel_rfl,by kernel_rfl,by kernel_rfl,by kernel_rfl⟩
theorem bW.at_(h:bW X A c s){j:Nat}(hj:j<108):(rcC c s)[j]?=(s.rr c.rd)[j]?:=by
 unfold rcC
 rw[List.getElem?_append_left (by rw[h.iV];exact hj)]
theorem bW.tl(h:bW X A c s)(j:Nat):(rcC c s)[108+j]?=([s.dv,s.bv,s.gv,.str c.done,.bool c.bL]:List V)[j]?:=by
 unfold rcC
 rw[List.getElem?_append_right (by rw[h.iV];omega),h.iV,Nat.add_sub_cancel_left]
theorem At4{kk:BK}(hb:A.blk[b]?=some ⟨rcC c s,kk⟩)(h:bW X A c s):aa TP 3 (.ptr b 0) A=some (.int .i64 c.rd.n)/\aa TP 3 (.ptr b 1) A=some (.int .i64 c.rd.me)/\aa TP 3 (.ptr b 2) A=some (.int .i64 c.rd.ai)/\aa TP 3 (.ptr b 3) A=some (.int .i64 c.rd.now)/\aa TP 3 (.ptr b 6) A=some (.int .i64 c.rd.valid)/\aa TP 31 (.ptr b 103) A=some s.ov/\aa TP 33 (.ptr b 105) A=some s.vv/\aa TP 37 (.ptr b 108) A=some s.dv/\aa TP 38 (.ptr b 109) A=some s.bv/\aa TP 39 (.ptr b 110) A=some s.gv/\aa TP 9 (.ptr b 111) A=some (.str c.done)/\aa TP 4 (.ptr b 112) A=some (.bool c.bL)/\aa TP 36 (.ptr b 0) A=some (.agg (s.rr c.rd))/\aa TP 30 (.ptr b 39) A=some (.agg (bc c.rd.a7)):=by
 have at0:At (rcC c s) 0 (s.rr c.rd):=⟨[],[s.dv,s.bv,s.gv,.str c.done,.bool c.bL],by simp[rcC],rfl⟩
 refine⟨by rw[Ab2 ag3 hb,h.at_ (by omega)];rfl,by rw[Ab2 ag3 hb,h.at_ (by omega)];rfl,by rw[Ab2 ag3 hb,h.at_ (by omega)];rfl,by rw[Ab2 ag3 hb,h.at_ (by omega)];rfl,by rw[Ab2 ag3 hb,h.at_ (by omega)];rfl,?_,?_,?_,?_,?_,?_,?_,?_,?_⟩
 . rw[Ab2 Cw4 hb,h.at_ (by omega)];exact RrV.tl h.rr.ok 0
 . rw[Ab2 Cw5 hb,h.at_ (by omega)];exact RrV.tl h.rr.ok 2
 . rw[Ab2 CC6 hb];exact h.tl 0
 . rw[Ab2 CC8 hb];exact h.tl 1
 . rw[Ab2 CD0 hb];exact h.tl 2
 . rw[Ab2 ag9 hb];exact h.tl 3
 . rw[Ab2 ag4 hb];exact h.tl 4
 . exact At.load hb at0 Cw8 Cg3 h.iV
 . have q:=At.part (L:=[[V.int .i64 c.rd.n,.int .i64 c.rd.me,.int .i64 c.rd.ai,.int .i64 c.rd.now,.int .i64 c.rd.step,.int .i64 c.rd.locked,.int .i64 c.rd.valid],bc c.rd.lock,bc c.rd.a7,bc c.rd.fresh,[s.ov,s.kv,s.vv,s.tv,s.av]]) (i:=2) rfl
   rw[Ap7 h.rr,<- Ah1]at q
   exact At.load hb (at0.trans q) Av4 Ap3 (by rw[Aa7,h.rr.be])
theorem CxZ.nG(h:CxZ X Z A b c)(hw:WF A)(k:RRs (xo (xz X Z) fo) N A r w)(hfo:∀f,fo=some f->¬xz X Z f):∃A',ag TP 36 (.ptr b 0) w A=some A'/\Fr (·=.row b) A A'/\CxZ (xo X fo) Z A' b { c with rd:=r }:=by
 obtain⟨s,e,h⟩:=h
 obtain⟨ov,kv,vv,tv,av,rfl,k⟩:=k
 obtain⟨A',s1,s2,s3,s4⟩:=Ab1 (P:=TP) (t:=36) (o:=0) (x:=.agg (rrS r ov kv vv tv av).cs) (cs:=(rrS r ov kv vv tv av).cs) e rfl (by rw[RrV.len k.ok];exact Cg3) (by rw[h.len,RrV.len k.ok];omega) k.ok.one
 have e2:putAt (rcC c s) 0 (rrS r ov kv vv tv av).cs=rcC { c with rd:=r } { s with ov:=ov,kv:=kv,vv:=vv,tv:=tv,av:=av }:=AI7 [] (s.rr c.rd) _ _ (by rw[RrV.len k.ok,h.iV])
 rw[e2]at s3
 have h':=h.row hw e s2
 have q:(qHp (xn X Z) A').le (qHp (xn (xo X fo) Z) A'):=Ae8 fun f z=>z.elim (fun z=>z.elim .inl fun z=>.inr fun y=>hfo f z (.inr y)) .inr
 refine⟨A',s1,s2,_,s3,((k.row hw e s2).lower (Nat.zero_le _)).sub fun f z=>?_,h'.ds.mono q,h'.dl,h'.bs.mono q,h'.gs.mono q⟩
 exact z.elim (fun z=>z.elim (fun z=>.inl (.inl z)) .inr) fun z=>.inl (.inr z)
theorem CxZ.nH(h:CxZ X Z A b c)(hw:WF A)(k:RRs (xz X Z) N A r w):∃A',ag TP 36 (.ptr b 0) w A=some A'/\Fr (·=.row b) A A'/\CxZ X Z A' b { c with rd:=r }:=by
 obtain⟨A',s1,s2,s3⟩:=h.nG (fo:=none) hw (k.sub fun f z=>z.elim id fun z=>by cases z) (fun f q=>by cases q)
 obtain⟨s,e,s3⟩:=s3
 exact⟨A',s1,s2,s,e,s3.sub fun f z=>.inl z⟩
theorem CxZ.ny(h:CxZ X Z A b c)(hw:WF A){id:Bts}(hi:id.length=32):∃A',ag TP 30 (.ptr b 71) (.agg (bc id)) A=some A'/\Fr (·=.row b) A A'/\CxZ X Z A' b { c with rd:={ c.rd with fresh:=id } }:=by
 obtain⟨s,e,h⟩:=h
 have e':=e
 have ep:∀r:Rd,s.rr r++[s.dv,s.bv,s.gv,.str c.done,.bool c.bL]=([[V.int .i64 r.n,.int .i64 r.me,.int .i64 r.ai,.int .i64 r.now,.int .i64 r.step,.int .i64 r.locked,.int .i64 r.valid],bc r.lock,bc r.a7,bc r.fresh,[s.ov,s.kv,s.vv,s.tv,s.av],[s.dv,s.bv,s.gv,.str c.done,.bool c.bL]]:List (List V)).flatten:=fun r=>by
  unfold RcV.rr;rw[Ah1];simp
 unfold rcC at e'
 rw[ep]at e'
 obtain⟨A',s1,s2,s3,s4⟩:=Ap0 (P:=TP) (t:=30) (x:=.agg (bc id)) (cs:=bc id) (i:=3) (o:=71) e' rfl (by simp[jJ,Aa7,h.rr.lk,h.rr.be]) rfl (by rw[Aa7,Aa7,h.rr.fr,hi]) (by rw[Aa7,hi];exact Ap3) (Ac9 _)
 have h':=h.row hw e s2
 refine⟨A',s1,s2,s,?_,h'.rr.upd h'.rr.lk h'.rr.be hi rfl rfl rfl rfl rfl rfl,h'.ds,h'.dl,h'.bs,h'.gs⟩
 have ep2:=ep { c.rd with fresh:=id }
 show A'.blk[b]?=some ⟨s.rr { c.rd with fresh:=id }++[s.dv,s.bv,s.gv,.str c.done,.bool c.bL],.var⟩
 rw[ep2];exact s3
theorem bW.put(h:bW X A c s){j:Nat}(hj:j<5)(w:V):putAt (rcC c s) (108+j) [w]=s.rr c.rd++([s.dv,s.bv,s.gv,.str c.done,.bool c.bL]:List V).set j w:=Bu7 h.iV hj w
theorem cO.put(h:cO X Z A c s){j:Nat}(hj:j<5)(w:V):putAt (rcC c s) (108+j) [w]=s.rr c.rd++([s.dv,s.bv,s.gv,.str c.done,.bool c.bL]:List V).set j w:=bW.put ⟨Z,h⟩ hj w
theorem CxZ.lO{l:List bj}(h:CxZ X Z A b c)(hw:WF A)(hs:Slc dQ (qHp (xn X Z) A) w (l.map fun x=>(x.1-c.now,x.2.1,x.2.2)))(hl:∀x∈l,c.now<x.1/\x.1<=c.now+2003):∃A',ag TP 37 (.ptr b 108) w A=some A'/\Fr (·=.row b) A A'/\CxZ X Z A' b { c with tim:=l }:=by
 obtain⟨s,e,h⟩:=h
 obtain⟨A',s1,s2,s3,s4⟩:=Ab1 (P:=TP) (t:=37) (o:=108) (x:=w) (cs:=[w]) e (Ad5 hs.one) Cw9 (by rw[h.len];simp) (by simp[hs.one])
 rw[h.put (j:=0) (by omega)]at s3
 have h':=h.row hw e s2
 exact⟨A',s1,s2,{ s with dv:=w },s3,h'.rr,hs.mono (Ae4 s2 (.box e) hw fun f q=>.inl q),hl,h'.bs,h'.gs⟩
theorem CxZ.nu{l:List BaP}(h:CxZ X Z A b c)(hw:WF A)(hs:Slc eBa (qHp (xn X Z) A) w l):∃A',ag TP 38 (.ptr b 109) w A=some A'/\Fr (·=.row b) A A'/\CxZ X Z A' b { c with bat:=l }:=by
 obtain⟨s,e,h⟩:=h
 obtain⟨A',s1,s2,s3,s4⟩:=Ab1 (P:=TP) (t:=38) (o:=109) (x:=w) (cs:=[w]) e (Ad5 hs.one) CC7 (by rw[h.len];simp) (by simp[hs.one])
 rw[h.put (j:=1) (by omega)]at s3
 have h':=h.row hw e s2
 exact⟨A',s1,s2,{ s with bv:=w },s3,h'.rr,h'.ds,h'.dl,hs.mono (Ae4 s2 (.box e) hw fun f q=>.inl q),h'.gs⟩
theorem CxZ.pH{l:List Int}(h:CxZ X Z A b c)(hw:WF A)(hs:Slc (eInt .i64) (qHp (xn X Z) A) w l):∃A',ag TP 39 (.ptr b 110) w A=some A'/\Fr (·=.row b) A A'/\CxZ X Z A' b { c with cG:=l }:=by
 obtain⟨s,e,h⟩:=h
 obtain⟨A',s1,s2,s3,s4⟩:=Ab1 (P:=TP) (t:=39) (o:=110) (x:=w) (cs:=[w]) e (Ad5 hs.one) CC9 (by rw[h.len];simp) (by simp[hs.one])
 rw[h.put (j:=2) (by omega)]at s3
 have h':=h.row hw e s2
 exact⟨A',s1,s2,{ s with gv:=w },s3,h'.rr,h'.ds,h'.dl,h'.bs,hs.mono (Ae4 s2 (.box e) hw fun f q=>.inl q)⟩
theorem CxZ.grow(h:CxZ X Z A b c)(hw:WF A)(hf:Fr S0 A B):CxZ X (zn Z A B) B b c:=by obtain⟨s,e,h⟩:=h;exact⟨s,hf.af e,h.grow hw hf⟩
theorem CxZ.mV{τ:Type}{E:Enc τ}{l:List τ}(h:CxZ X Z A b c)(hs:eM E A.blk.length B w l):Slc E (qHp (xn X (zn Z A B)) B) w l:=by obtain⟨s,e,h⟩:=h;exact h.mV hs
theorem Cx.lO{l:List bj}(h:Cx X A b c)(hw:WF A)(hf:Fr S0 A B)(hs:eM dQ A.blk.length B w (l.map fun x=>(x.1-c.now,x.2.1,x.2.2)))(hl:∀x∈l,c.now<x.1/\x.1<=c.now+2003):∃A',ag TP 37 (.ptr b 108) w B=some A'/\Fr (·=.row b) B A'/\Cx X A' b { c with tim:=l }:=by
 obtain⟨Z,h⟩:=h.z
 obtain⟨A',s1,s2,s3⟩:=(h.grow hw hf).lO (hf.wf hw) (h.mV hs) hl
 exact⟨A',s1,s2,s3.cx⟩
theorem Cx.nu{l:List BaP}(h:Cx X A b c)(hw:WF A)(hf:Fr S0 A B)(hs:eM eBa A.blk.length B w l):∃A',ag TP 38 (.ptr b 109) w B=some A'/\Fr (·=.row b) B A'/\Cx X A' b { c with bat:=l }:=by
 obtain⟨Z,h⟩:=h.z
 obtain⟨A',s1,s2,s3⟩:=(h.grow hw hf).nu (hf.wf hw) (h.mV hs)
 exact⟨A',s1,s2,s3.cx⟩
theorem Cx.pH{l:List Int}(h:Cx X A b c)(hw:WF A)(hf:Fr S0 A B)(hs:eM (eInt .i64) A.blk.length B w l):∃A',ag TP 39 (.ptr b 110) w B=some A'/\Fr (·=.row b) B A'/\Cx X A' b { c with cG:=l }:=by
 obtain⟨Z,h⟩:=h.z
 obtain⟨A',s1,s2,s3⟩:=(h.grow hw hf).pH (hf.wf hw) (h.mV hs)
 exact⟨A',s1,s2,s3.cx⟩
theorem Cm3(hb:A.blk[b]?=some ⟨rcC c s,.var⟩)(h:bW X A c s)(hw:WF A):∃A',ag TP 37 (.ptr b 108) s.dv A=some A'/\Fr (·=.row b) A A'/\Cx X A' b c:=by
 obtain⟨Z,h⟩:=h
 have:=CxZ.lO (l:=c.tim) ⟨s,hb,h⟩ hw h.ds h.dl
 obtain⟨A',s1,s2,s3⟩:=this
 exact⟨A',s1,s2,s3.cx⟩
theorem Cx.qZ(h:Cx X A b c)(hw:WF A):∃A',ag TP 37 (.ptr b 108) .ah A=some A'/\Fr (·=.row b) A A'/\Cx X A' b { c with tim:=[] }:=by
 obtain⟨Z,h⟩:=h.z
 obtain⟨A',s1,s2,s3⟩:=h.lO (w:=.ah) (l:=[]) hw (.inl ⟨rfl,rfl⟩) (fun x q=>by cases q)
 exact⟨A',s1,s2,s3.cx⟩
theorem Cx.sO(h:Cx X A b c)(hw:WF A)(d:Bts):∃A',ag TP 9 (.ptr b 111) (.str d) A=some A'/\Fr (·=.row b) A A'/\Cx X A' b { c with done:=d }:=by
 obtain⟨s,e,h⟩:=h
 obtain⟨A',s1,s2,s3,s4⟩:=Ab1 (P:=TP) (t:=9) (o:=111) (x:=.str d) (cs:=[.str d]) e rfl sz9 (by rw[h.len];simp) rfl
 rw[h.put (j:=3) (by omega)]at s3
 obtain⟨Z,h⟩:=h
 have h':=h.row hw e s2
 exact⟨A',s1,s2,s,s3,Z,h'.rr,h'.ds,h'.dl,h'.bs,h'.gs⟩
theorem Cx.nA(h:Cx X A b c)(hw:WF A)(o:Bool):∃A',ag TP 4 (.ptr b 112) (.bool o) A=some A'/\Fr (·=.row b) A A'/\Cx X A' b { c with bL:=o }:=by
 obtain⟨s,e,h⟩:=h
 obtain⟨A',s1,s2,s3,s4⟩:=Ab1 (P:=TP) (t:=4) (o:=112) (x:=.bool o) (cs:=[.bool o]) e rfl sz4 (by rw[h.len];simp) rfl
 rw[h.put (j:=4) (by omega)]at s3
 obtain⟨Z,h⟩:=h
 have h':=h.row hw e s2
 exact⟨A',s1,s2,s,s3,Z,h'.rr,h'.ds,h'.dl,h'.bs,h'.gs⟩
end
end Go.Sv.Tryz
namespace Go.Sv
theorem AL1{κ β:Type}[DecidableEq κ](k:κ):∀l:List (κ×β),aQ l k=(l.find? fun p=>decide (p.1=k)).map (·.2)
 |[]=>rfl
 | (a,b)::l=>by
  unfold aQ
  rw[List.find?_cons]
  by_cases q:a=k
  . simp[q]
  . rw[if_neg (fun z=>q z.symm),AL1 k l];simp[q]
end Go.Sv
namespace Go.Sv.Tryz
open Go Go.Proofs
section
variable {X:Nat->Prop} {A B C:AS} {c c':Co} {s:RcV} {w:V} {b:Nat} {r:Rd}
theorem CA8(b o:Nat):ae TP 166 (.ptr b o) 0=some (.ptr b o)/\ae TP 166 (.ptr b o) 1=some (.ptr b (o+32)):=⟨by kernel_rfl,by kernel_rfl⟩
theorem CA9{m:Hp}{v:V}{l:List BaP}(hm:m.on A)(h:Slc eBa m v l){j:Nat}{p:BaP}(hp:l[j]?=some p):∃b o,aj TP 38 v (.int .i64 (j:Int))=some (.ptr b o)/\aa TP 30 (.ptr b o) A=some (.agg (bc p.1))/\aa TP 9 (.ptr b (o+32)) A=some (.str p.2)/\p.1.length=32:=by
 obtain⟨b,o,w,g1,g2,g3⟩:=h.at (P:=TP) (k:=.i64) hm Tryz.underlying38 BE5 Cf0 hp
 obtain⟨rfl,h2⟩:=Cm2.1 g3
 have hh:=(AD8 Cf0 BE5 g2).1
 refine⟨b,o,g1,hh.kS (j:=0) ⟨[],[.str p.2],by simp[baC],rfl⟩ Av4 Ap3 (by rw[Aa7,h2]),hh.cC (j:=32) ?_ ag9,h2⟩
 unfold baC
 rw[List.getElem?_append_right (by rw[Aa7,h2];exact Nat.le_refl _),Aa7,h2];rfl
set_option maxHeartbeats 4000000 in
theorem A76{m:Hp}{v:V}{l:List BaP}{id:Bts}(hm:m.on A)(h:Slc eBa m v l)(hl:l.length<=1000000)(hid:id.length=32):∃w A',EvF TP HH 53 [v,.agg (bc id)] A w A'/\Fr S0 A A'/\w=.tup [.str ((aQ l id).getD []),.bool (aQ l id).isSome]:=by
 refine Aa4 rfl Tryz.func53 (by unfold Tryz.f53;rfl) Tryz.ntmps53 (by unfold Tryz.f53;rfl) (by simp) ?_
 have hln:=fun B=>h.len (P:=TP) Tryz.underlying38 B
 obtain⟨A1,e1,f1,r1,n1⟩:=Aa3 A (bc id)
 obtain⟨b3,hb3⟩:∃b,b=A.blk.length:=⟨_,rfl⟩
 rw[<- hb3]at r1
 rw[AL1]
 simp only[RT,Q0,Q1,Q2,Q3,Q4,Q5,Q6,Q7,Q8,<- hb3,<- e1]
 refine Aa6 (fun z e B=>∃(j:Nat),z=l.length-j/\j<=l.length/\e.get 6=.int .i64 j/\(∀q∈l.take j,(fun p:BaP=>decide (p.1=id)) q=false)/\e.get 0=v/\e.get 3=.ptr b3 0/\Is B A1)
  (fun z e B=>(Is z (.exit 0)/\Is B A1/\l.find? (fun p:BaP=>decide (p.1=id))=none)∨(Is z .ret/\Is B A1/\∃p,l.find? (fun p:BaP=>decide (p.1=id))=some p/\e.get 4=.str p.2/\e.get 5=.bool true))
  ⟨_,0,rfl,by omega,rfl,by simp,rfl,rfl,rfl⟩ ?_ ?_
 rotate_left
 . rintro z e B hz (⟨rfl,rfl,hg⟩ |⟨rfl,rfl,p,hg,h4,h5⟩)
   . simp only[RT,Q0,Q1,Q2,Q3,Q4,Q5,Q6,Q7,Q8]
     rw[hg]
     exact⟨f1,rfl⟩
   . simp only[RT,Q0,Q1,Q2,Q3,Q4,Q5,Q6,Q7,Q8,h4,h5]
     rw[hg]
     exact⟨f1,rfl⟩
 rintro z e B ⟨j,rfl,hj,h6,hno,h0,h3,rfl⟩
 simp only[RT,Q0,Q1,Q2,Q3,Q4,Q5,Q6,Q7,Q8,h6,h0,hln]
 refine Aa8 (fun q1=>?_) (fun q1=>?_)
 rotate_left
 . have:j=l.length:=by omega
   subst this
   rw[List.take_length]at hno
   simp only[RT,Q0,Q1,Q2,Q3,Q4,Q5,Q6,Q7,Q8]
   exact .inl ⟨rfl,rfl,Go.Sv.iS hno⟩
 obtain⟨p,hp⟩:=Ac7 (l:=l) (i:=j) (by omega)
 obtain⟨bb,o,g1,g2,g3,g4⟩:=CA9 (hm.fr0 f1) h hp
 have fa:=CA8 bb o
 have hwi:IntKind.i64.wrap ((j:Int)+1)=((j+1:Nat):Int):=by rw[Ac2 (by omega)]
 simp only[RT,Q0,Q1,Q2,Q3,Q4,Q5,Q6,Q7,Q8]
 rw[BU5,Aa2 (by rfl)]
 by_cases c1:p.1=id
 . simp only[RT,Q0,Q1,Q2,Q3,Q4,Q5,Q6,Q7,Q8,h6,h0,h3,g1,fa,g2,ldI r1 hid,eqZ g4 hid,DT c1,g3]
   refine .inr ⟨rfl,rfl,p,Go.Sv.iO hno hp (DT c1),?_⟩
   first |exact rfl |exact⟨rfl,rfl⟩
 . simp only[RT,Q0,Q1,Q2,Q3,Q4,Q5,Q6,Q7,Q8,h6,h0,h3,g1,fa,g2,ldI r1 hid,eqZ g4 hid,DF c1,hwi]
   refine⟨l.length-(j+1),by omega,j+1,rfl,by omega,rfl,fun q hq=>?_,?_⟩
   . rw[Ab6 hp]at hq
     rcases List.mem_append.1 hq with hq |hq
     . exact hno q hq
     . rw[List.mem_singleton.1 hq];exact DF c1
   . first |exact⟨h0,h3,rfl⟩ |exact⟨h0,h3⟩ |exact⟨h3,rfl⟩ |exact h3 |exact rfl
theorem B40(g:Nat->V)(s:Bts):au TP 166 [(0,.agg ((List.range 32).map g)),(1,.str s)]=some (.agg ((List.range 32).map g++[.str s])):=by kernel_rfl
theorem Cm4{p:BaP}(h:p.1.length=32):au TP 166 [(0,.agg (bc p.1)),(1,.str p.2)]=some (.agg (baC p)):=by
 obtain⟨g,hg⟩:=Ac3 (l:=bc p.1) (n:=32) (by rw[Aa7,h])
 unfold baC;rw[hg];exact B40 g p.2
theorem B41:bsl TP 38 0 (some [])=some (.aB [] 0 33):=by kernel_rfl
theorem Cm5{p:BaP}(h:p.1.length=32):bsl TP 38 1 (some [(0,.agg (baC p))])=some (.aB (baC p) 1 33):=Av2 Tryz.underlying38 BE5 Cf1 rfl (Bj0 h) (by decide)
set_option maxRecDepth 10000 in
set_option maxHeartbeats 16000000 in
theorem B42{t:Bts}(hw:WF A)(h:RCs X A c w)(ht:t.length<=100000000)(hl:c.bat.length<=100000):∃u A',EvF TP HH 57 [w,.str t] A u A'/\Fr S0 A A'/\RCs X A' (c.eu t) u:=by
 refine Aa4 rfl Tryz.func57 (by unfold Tryz.f57;rfl) Tryz.ntmps57 (by unfold Tryz.f57;rfl) (by simp) ?_
 obtain⟨cs,rfl,A1,e1,f1,hB1⟩:=h.new
 obtain⟨b2,hb2⟩:∃b,b=A.blk.length:=⟨_,rfl⟩
 rw[<- hb2]at hB1
 obtain⟨A2,e2,f2,r4,n2⟩:=Aa3 A1 rcZ
 obtain⟨b4,hb4⟩:∃b,b=A1.blk.length:=⟨_,rfl⟩
 rw[<- hb4]at r4
 have l2:b2<b4:=by have:=hB1.lt;omega
 have f12:=f1.ab f2
 have w2:=f12.wf hw
 obtain⟨_,A3,k3,f3,rfl⟩:=rId w2 ht
 obtain⟨A4,e4,f4,r5,n4⟩:=Aa3 A3 (bc bF)
 obtain⟨b5,hb5⟩:∃b,b=A3.blk.length:=⟨_,rfl⟩
 rw[<- hb5]at r5
 obtain⟨A5,s1,s2,s3⟩:=AA5 r5 (by simp[bF]) (Ab4 t)
 have l4:b4<b5:=by have:=Ab3 (f3.af r4);omega
 have f35:Fr S0 A2 A5:=((f3.ab f4).ar s2 (by have:=f3.len;omega))
 have f15:=f12.ab f35
 have w5:=f15.wf hw
 have hB5:=(hB1.fr0 f2).fr0 f35
 have r45:=f35.af r4
 obtain⟨s,hb,hI⟩:=hB5
 have hB5:Cx X A5 b2 c:=⟨s,hb,hI⟩
 have fa:=Bf4 b2
 have ld:=At4 hb hI
 obtain⟨_,A6,k6,f6,rfl⟩:=A76 (id:=az t) (Ab5 X A5) hI.bs (by omega) (Ab4 t)
 have f16:=f15.ab f6
 have w6:=f16.wf hw
 have hB6:=hB5.fr0 f6
 have r46:=f6.af r45
 have s36:=f6.af s3
 simp only[RT,Q0,Q1,Q2,Q3,Q4,Q5,Q6,Q7,Q8,<- e1,<- hb2]
 simp only[RT,Q0,Q1,Q2,Q3,Q4,Q5,Q6,Q7,Q8,Bc5,<- hb4,<- e2]
 refine Aa0 k3 ?_
 simp only[RT,Q0,Q1,Q2,Q3,Q4,Q5,Q6,Q7,Q8,Av8]
 simp only[RT,Q0,Q1,Q2,Q3,Q4,Q5,Q6,Q7,Q8,<- hb5,<- e4,s1,fa,ld,ldI s3 (Ab4 t)]
 refine Aa0 k6 ?_
 unfold Co.eu fU
 cases hlk:aQ c.bat (az t)with
 |some y =>
  obtain⟨u,D,y1,y2,y3,y4,y5⟩:=hB6.fin w6 r46 Ad9
  simp only[RT,Q0,Q1,Q2,Q3,Q4,Q5,Q6,Q7,Q8,Option.isSome_some,Af4,y1,y2,y3]
  exact⟨f16.ar y4 (by omega),y5⟩
 |none =>
  have hI6:=hI.fr0 f6
  have hb6:=f6.af hb
  obtain⟨v1,B1,v2,B2,p1,p2,p3,p4,hS2⟩:=Aq9 (P:=TP) (t:=38) (e:=166) (n:=33) (y:=(az t,t)) (cs':=baC (az t,t)) rfl (fun _ _ _ _ h=>h) CE2 w6 (Ab5 X A6) hI6.bs ⟨rfl,Ab4 t⟩ (by omega) (by omega)
  have lP:=(At4 ((Fr.aF A6 []).af hb6) (hI6.fr0 (Fr.aF A6 []))).2.2.2.2.2.2.2.2.1
  have wB2:=p4.wf w6
  obtain⟨C,t1,t2,t3⟩:=hB6.nu w6 p4 hS2
  obtain⟨u,D,y1,y2,y3,y4,y5⟩:=t3.fin (t2.wf wB2) (t2.aq (p4.af r46) (by omega)) Ad9
  have lI:=ldI (p3.af s36) (Ab4 t)
  simp only[RT,Q0,Q1,Q2,Q3,Q4,Q5,Q6,Q7,Q8,Option.isSome_none,Af4,B41,fa,lP,p1,lI,Cm4 (p:=(az t,t)) (Ab4 t),Cm5 (p:=(az t,t)) (Ab4 t),p2,t1,y1,y2,y3]
  exact⟨((f16.ab p4).ar t2 (by omega)).ar y4 (by omega),y5⟩
def RCA(X:Nat->Prop)(N:Nat)(A:AS)(x:Co×List Act)(u:V):Prop:=∃u1 v fo,u=.tup [u1,v]/\RCs (xo X fo) A x.1 u1/\Lst dp Hp.emp A v x.2 fo/\∀f,fo=some f->¬X f/\N<=f
set_option maxRecDepth 10000 in
set_option maxHeartbeats 16000000 in
theorem A77{t:Bts}(hw:WF A)(h:RCs X A c w)(hr:Rng c.rd)(ha:c.rd.al=[])(ht:t.length<=100000000)(hl:c.bat.length<=100000):∃u A',EvF TP HH 31 [w,.str t] A u A'/\Fr S0 A A'/\RCA X A.blk.length A' (c.a6 t) u:=by
 refine Aa4 rfl Tryz.func31 (by unfold Tryz.f31;rfl) Tryz.ntmps31 (by unfold Tryz.f31;rfl) (by simp) ?_
 obtain⟨cs,rfl,A1,e1,f1,hB1⟩:=h.new
 obtain⟨b2,hb2⟩:∃b,b=A.blk.length:=⟨_,rfl⟩
 rw[<- hb2]at hB1
 obtain⟨A2,e2,f2,r4,n2⟩:=Aa3 A1 rcZ
 obtain⟨b4,hb4⟩:∃b,b=A1.blk.length:=⟨_,rfl⟩
 rw[<- hb4]at r4
 have l2:b2<b4:=by have:=hB1.lt;omega
 have f12:=f1.ab f2
 have w2:=f12.wf hw
 have hB2:=hB1.fr0 f2
 obtain⟨u,o1,o2⟩:=hB2.out
 obtain⟨u2,A3,k3,f3,hH⟩:=B42 (t:=t) w2 o2 ht hl
 have f13:=f12.ab f3
 have w3:=f13.wf hw
 obtain⟨A4,s1,s2,s3⟩:=(hB2.fr0 f3).set w3 hH
 have f14:=f13.ar s2 (by omega)
 have w4:=s2.wf w3
 have r44:=s2.aq (f3.af r4) (by omega)
 obtain⟨s,hb,Z,hZ⟩:=s3
 have s3:CxZ X Z A4 b2 (c.eu t):=⟨s,hb,hZ⟩
 have hI:bW X A4 (c.eu t) s:=⟨Z,hZ⟩
 have fa:=Bf4 b2
 have ld:=At4 hb hI
 obtain⟨A5,e5,f5,r6,n5⟩:=Aa3 A4 rrZ.cs
 obtain⟨b6,hb6⟩:∃b,b=A4.blk.length:=⟨_,rfl⟩
 rw[<- hb6]at r6
 have l4:b4<b6:=by have:=Ab3 r44;omega
 have w5:=f5.wf w4
 obtain⟨_,A6,k6,f6,rfl⟩:=rId w5 ht
 have w6:=f6.wf w5
 have ld6:=At4 ((f5.ab f6).af hb) (hI.fr0 (f5.ab f6))
 obtain⟨_,A7,k7,f7,u7,v7,fo,rfl,h7,hv7,hnf⟩:=Cj0 (id:=az t) w6 (⟨_,_,_,_,_,rfl,(hZ.fr0 (f5.ab f6)).rr.fresh ha ((f14.ab f5).ab f6).len⟩:RRs (xz X Z) A.blk.length A6 c.rd (.agg (s.rr c.rd))) hr (Ab4 t) (by rw[ha];simp)
 have f47:=(f5.ab f6).ab f7
 have w7:=f47.wf w4
 have r67:=f7.af (f6.af r6)
 obtain⟨A8,t1,t2,t3,t4⟩:=h7.fin w7 r67
 have w8:=t3.wf w7
 have hb8:CxZ X Z A8 b2 (c.eu t):=(s3.fr0 f47).row w7 r67 t3 (by omega)
 obtain⟨A9,p1,p2,p3⟩:=hb8.nG w8 t4 fun f q=>(hnf f q).1
 have w9:=p2.wf w8
 have r49:=p2.aq (t3.aq (f47.af r44) (by omega)) (by omega)
 obtain⟨u9,D,y1,y2,y3,y4,y5⟩:=p3.cx.fin w9 r49 Ad9
 obtain⟨c8,q8,_⟩:=hb8.cx.box
 have ldh:(c.eu t).rd=c.rd:=rfl
 rw[ldh]at ld ld6
 simp only[RT,Q0,Q1,Q2,Q3,Q4,Q5,Q6,Q7,Q8,<- e1,<- hb2]
 simp only[RT,Q0,Q1,Q2,Q3,Q4,Q5,Q6,Q7,Q8,Bc5,<- hb4,<- e2,o1]
 refine Aa0 k3 ?_
 simp only[RT,Q0,Q1,Q2,Q3,Q4,Q5,Q6,Q7,Q8,s1]
 simp only[RT,Q0,Q1,Q2,Q3,Q4,Q5,Q6,Q7,Q8,BT3,fa,ld,AI9,Aa1]
 simp only[RT,Q0,Q1,Q2,Q3,Q4,Q5,Q6,Q7,Q8,<- hb6,<- e5]
 refine Aa0 k6 ?_
 simp only[RT,Q0,Q1,Q2,Q3,Q4,Q5,Q6,Q7,Q8]
 refine⟨Aa5 (ha:=rfl) rfl ld6.2.2.2.2.2.2.2.2.2.2.2.2.1 rfl Aa1,?_⟩
 refine Aa0 k7 ?_
 simp only[RT,Q0,Q1,Q2,Q3,Q4,Q5,Q6,Q7,Q8,t1,Aa1,t2,fa,p1,y1,y2,y3]
 refine⟨((((f14.ab f47).ar t3 (by omega)).ar p2 (by omega)).ar y4 (by omega)),u9,v7,fo,rfl,y5,?_,fun f q=>⟨fun z=>(hnf f q).1 (.inl z),by rw[hb2];exact(hnf f q).2⟩⟩
 exact((hv7.fr t3 (.box r67)).fr p2 (.box q8)).fr y4 (.box r49)
end
end Go.Sv.Tryz
namespace Go.Sv.Tryz
open Go Go.Proofs
section
variable {X:Nat->Prop} {A B C:AS} {c c':Co} {s:RcV} {w:V} {b:Nat} {r:Rd}
theorem B43(R:Int)(A:AS):∃w A',EvF TP HH 98 [.int .i64 R] A w A'/\A'=A/\w=.int .i64 (cE R):=by
 refine Aa4 rfl Tryz.func98 (by unfold Tryz.f98;rfl) Tryz.ntmps98 (by unfold Tryz.f98;rfl) (by simp) ?_
 unfold cE
 by_cases q1:R<0
 . simp only[RT,Q0,Q1,Q2,Q3,Q4,Q5,Q6,Q7,Q8,DT q1,DF (show ¬(0:Int)>1000 by omega),A91,Ac6 (n:=2*0) (by omega) (by omega),Ac6 (n:=3+2*0) (by omega) (by omega)]
   rw[show 3+2*max 0 (min R 1000)=3 by omega];rfl
 by_cases q2:R>1000
 . simp only[RT,Q0,Q1,Q2,Q3,Q4,Q5,Q6,Q7,Q8,DF q1,DT q2,A91,Ac6 (n:=2*1000) (by omega) (by omega),Ac6 (n:=3+2*1000) (by omega) (by omega)]
   rw[show 3+2*max 0 (min R 1000)=2003 by omega];rfl
 . simp only[RT,Q0,Q1,Q2,Q3,Q4,Q5,Q6,Q7,Q8,DF q1,DF q2,A91,Ac6 (n:=2*R) (by omega) (by omega),Ac6 (n:=3+2*R) (by omega) (by omega)]
   rw[show max 0 (min R 1000)=R by omega]
theorem Cm6(a b c:Int):au TP 116 [(0,.int .i64 a),(1,.int .i64 b),(2,.int .i64 c)]=some (.agg (de (a,b,c))):=by kernel_rfl
theorem B44:bsl TP 37 0 (some [])=some (.aB [] 0 3):=by kernel_rfl
theorem BK6(x:bj):bsl TP 37 1 (some [(0,.agg (de x))])=some (.aB (de x) 1 3):=by kernel_rfl
set_option maxHeartbeats 8000000 in
theorem CB0{v:V}{l:List bj}{R S:Int}{m:Hp}(hw:WF A)(hm:m.on A)(h:Slc dQ m v l)(hl:l.length<=1000):
 ∃u A',EvF TP HH 74 [v,.int .i64 R,.int .i64 S] A u A'/\Fr S0 A A'/\∃v' ok,u=.tup [v',.bool ok]/\(l.length>=40/\v'=v∨l.length<40/\eM dQ A.blk.length A' v' (l++[(cE R,R,S)])):=by
 refine Aa4 rfl Tryz.func74 (by unfold Tryz.f74;rfl) Tryz.ntmps74 (by unfold Tryz.f74;rfl) (by simp) ?_
 have hln:=fun B=>h.len (P:=TP) Tryz.underlying37 B
 by_cases q:l.length>=40
 . simp only[RT,Q0,Q1,Q2,Q3,Q4,Q5,Q6,Q7,Q8,hln,DT (show(l.length:Int)>=40 by omega)]
   exact⟨.refl _ _,v,false,rfl,.inl ⟨q,rfl⟩⟩
 obtain⟨v1,B1,v2,B2,p1,p2,p3,p4,hS2⟩:=Aq9 (P:=TP) (t:=37) (e:=116) (n:=3) (y:=(cE R,R,S)) (cs':=de (cE R,R,S)) rfl (fun _ _ _ _ h=>h) Ct7 hw hm h rfl (by omega) (by omega)
 obtain⟨_,_,k1,hk,rfl⟩:=B43 R B1
 rw[hk]at k1
 simp only[RT,Q0,Q1,Q2,Q3,Q4,Q5,Q6,Q7,Q8,hln,DF (show ¬(l.length:Int)>=40 by omega),B44,p1]
 refine Aa0 k1 ?_
 simp only[RT,Q0,Q1,Q2,Q3,Q4,Q5,Q6,Q7,Q8,Cm6,BK6,p2]
 exact⟨p4,v2,true,rfl,.inr ⟨by omega,hS2⟩⟩
theorem Bu8{c:Co}{R S:Int}:({ c with tim:=cV c.now c.tim R S }:Co).tim.map (fun x=>(x.1-c.now,x.2.1,x.2.2))=if (jl c).length>=40 then jl c else jl c++[(cE R,R,S)]:=by
 have e:(jl c).length=c.tim.length:=by unfold jl;rw[List.length_map]
 rw[e]
 show(cV c.now c.tim R S).map _=_
 unfold cV
 by_cases q:c.tim.length>=40
 . rw[if_pos q,if_pos q];rfl
 . rw[if_neg q,if_neg q,List.map_append]
   show jl c++[(c.now+cE R-c.now,R,S)]=_
   rw[show c.now+cE R-c.now=cE R by omega]
theorem B45{c:Co}{R S:Int}(h:∀x∈c.tim,c.now<x.1/\x.1<=c.now+2003):∀x∈cV c.now c.tim R S,c.now<x.1/\x.1<=c.now+2003:=by
 intro x hx
 unfold cV at hx
 split at hx
 . exact h x hx
 . rcases List.mem_append.1 hx with hx |hx
   . exact h x hx
   . rw[List.mem_singleton.1 hx]
     have:=A69 R
     show c.now<c.now+cE R/\c.now+cE R<=c.now+2003
     omega
theorem B46{t:Bts}(A:AS):cnv TP 9 45 (some (.str t)) A=some (.aB (bc t) t.length 1):=AI2 (P:=TP) (A:=A) (l:=t) (s:=9) (d:=45) (by decide) Tryz.underlying9 Tryz.underlying45 Tryz.underlying5
theorem CB1:(aC TP 152).bind V.cells=some (roC (0,0,z32)):=by kernel_rfl
theorem Cm7{A:AS}{p:ROf}(h:p.2.2.length=32):∃A',ag TP 152 (.ptr A.blk.length 0) (.agg (roC p)) (A.push ⟨roC (0,0,z32),.var⟩)=some A'/\Fr S0 A A'/\A'.blk[A.blk.length]?=some ⟨roC p,.var⟩:=by
 obtain⟨A2,s1,s2,s3,s4⟩:=Ag5 (P:=TP) A (z:=roC (0,0,z32)) (t:=152) (x:=.agg (roC p)) (cs:=roC p) rfl (by rw[Ay6 h];exact A54) (by rw[Ay6 h];rfl) (Bh3 p)
 exact⟨A2,s1,s2,s3⟩
theorem OLn.eZ{r:Rd}{l:List ROf}(h:OLn r.offers l)(R:Int):((eZ r R).there=false/\plO (fw l R) = -1)∨((eZ r R).there=true/\0<=R/\R<12/\∃(j:Nat) (p:ROf),plO (fw l R)=j/\l[j]?=some p/\eZ r R=⟨true,p.2.1,p.2.2⟩):=by
 have hno:(∀p∈l,p.1≠R)->plO (fw l R) = -1:=fun hq=>by
  have:fw l R=none:=by unfold fw;rw[List.findIdx?_eq_none_iff];intro p hp;exact DF (hq p hp)
  rw[this];rfl
 unfold Go.Sv.eZ
 by_cases q:R<0∨R>=12
 . rw[if_pos q]
   exact .inl ⟨rfl,hno fun p hp z=>by obtain⟨a,b,_⟩:=h.ol.mem p hp;omega⟩
 . rw[if_neg q]
   rcases h.find (show 0<=R by omega)with⟨a,b⟩ |⟨a,j,p,b,c,d,_⟩
   . exact .inl ⟨a,b⟩
   . exact .inr ⟨a,by omega,by omega,j,p,b,c,d⟩
structure nI(X:Nat->Prop)(A:AS)(m:M)(dv iv:V):Prop where
 id:m.id.length=32
 data:Slc eU8 (qHp X A) dv m.data
 ids:Slc eId (qHp X A) iv m.ids
 list:m.list=[]
theorem nI.in_{m:M}{dv iv:V}(h:nI X A m dv iv):cw (qHp X A) m dv iv .ah:=⟨h.id,h.data,h.ids,.inl ⟨rfl,h.list⟩⟩
set_option maxRecDepth 10000 in
set_option maxHeartbeats 16000000 in
theorem Bj1{R:Int}(hw:WF A)(h:RCs X A c w)(hr:Rng c.rd)(hl:c.bat.length<=1000000):∃u A',EvF TP HH 52 [w,.int .i64 R] A u A'/\Fr S0 A A'/\∃dv,u=.tup [.agg (mc (c.offer R).1 dv .ah .ah),.bool (c.offer R).2]/\nI X A' (c.offer R).1 dv .ah:=by
 refine Aa4 rfl Tryz.func52 (by unfold Tryz.f52;rfl) Tryz.ntmps52 (by unfold Tryz.f52;rfl) (by simp) ?_
 obtain⟨cs,rfl,A1,e1,f1,hB1⟩:=h.new
 obtain⟨b2,hb2⟩:∃b,b=A.blk.length:=⟨_,rfl⟩
 rw[<- hb2]at hB1
 obtain⟨A2,e2,f2,r4,n2⟩:=Aa3 A1 mcZ
 obtain⟨b4,hb4⟩:∃b,b=A1.blk.length:=⟨_,rfl⟩
 rw[<- hb4]at r4
 have hmZ:mcZ=mc (eU 0) .ah .ah .ah:=rfl
 have l2:b2<b4:=by have:=hB1.lt;omega
 have f12:=f1.ab f2
 have w2:=f12.wf hw
 obtain⟨s,hb,hI⟩:=hB1.fr0 f2
 have fa:=Bf4 b2
 have fr:=AJ1 b2
 have ld:=At4 hb hI
 obtain⟨lo,hSo,hO⟩:=hI.rr.ov
 have hol:=hO.len
 obtain⟨_,_,m1,hE,rfl⟩:=Ak3 (R:=R) (Ab5 X A2) hSo (by omega)
 rw[hE]at m1
 have hn:(c.rd.n:Int)<=7/\(0:Int)<=c.rd.n:=by have:=hI.rr.n;unfold okN at this;omega
 obtain⟨C,u1,u2,u3⟩:=An3 (y:=eU 0) (dv':=.ah) (iv':=.ah) (lv':=.ah) (hmZ ▸ r4) rfl rfl rfl
 have lC:=ldM u3 (rfl:(eU 0).id.length=32)
 have bz:au TP 48 []=some (.agg (mc (eU 0) .ah .ah .ah)):=by kernel_rfl
 have no:Fr S0 A C/\∃dv,(V.tup [.agg (mc (eU 0) .ah .ah .ah),.bool false])=.tup [.agg (mc (eU 0) dv .ah .ah),.bool false]/\nI X C (eU 0) dv .ah:=⟨f12.ar u2 (by omega),.ah,rfl,rfl,.inl ⟨rfl,rfl⟩,.inl ⟨rfl,rfl⟩,rfl⟩
 unfold Co.offer
 simp only[RT,Q0,Q1,Q2,Q3,Q4,Q5,Q6,Q7,Q8,<- e1,<- hb2]
 simp only[RT,Q0,Q1,Q2,Q3,Q4,Q5,Q6,Q7,Q8,zcM,<- hb4,<- e2,fa,fr,ld]
 refine Aa0 m1 ?_
 rcases OLn.eZ hO R with⟨hth,hpl⟩ |⟨hth,h0,h12,j,p,hpl,hjp,hfp⟩
 . simp only[RT,Q0,Q1,Q2,Q3,Q4,Q5,Q6,Q7,Q8,hpl,Bp5,DT (show(-1:Int)<0 by omega),Aa1]
   refine⟨Ad0 rfl rfl rfl rfl Aa1,?_⟩
   simp only[RT,Q0,Q1,Q2,Q3,Q4,Q5,Q6,Q7,Q8,bz,u1,lC,Aa1]
   rw[if_neg (fun z=>by rw[hth]at z;cases z.1)]
   exact no
 obtain⟨_,_,p1,hA,rfl⟩:=Am6 A2 (n:=c.rd.n) (h:=c.rd.ai) (k:=R) hn.1 hn.2
 rw[hA]at p1
 simp only[RT,Q0,Q1,Q2,Q3,Q4,Q5,Q6,Q7,Q8,hpl,Bp5,DF (show ¬(j:Int)<0 by omega),fa,fr,ld,Aa1]
 refine Aa0 p1 ?_
 by_cases hp:aP c.rd.n c.rd.ai R=c.rd.me
 rotate_left
 . simp only[RT,Q0,Q1,Q2,Q3,Q4,Q5,Q6,Q7,Q8,DT (show ¬(aP (c.rd.n:Int) c.rd.ai R=(c.rd.me:Int))from hp)]
   refine⟨Ac4 rfl rfl rfl rfl rfl ld.2.1 rfl Aa1,?_⟩
   simp only[RT,Q0,Q1,Q2,Q3,Q4,Q5,Q6,Q7,Q8,bz,u1,lC,Aa1]
   rw[if_neg (fun z=>hp z.2)]
   exact no
 rw[if_pos ⟨hth,hp⟩]
 have ra:(eZ c.rd R).valid=p.2.1/\(eZ c.rd R).id=p.2.2:=by rw[hfp];exact⟨rfl,rfl⟩
 rw[ra.1,ra.2]
 obtain⟨bo,oo,i1,i2,i3⟩:=Cf6 (Ab5 X A2) hSo hjp
 have lw:=B20 i2 i3
 obtain⟨A3,e3,f3,r7⟩:=Cm7 (A:=A2) i3
 obtain⟨b7,hb7⟩:∃b,b=A2.blk.length:=⟨_,rfl⟩
 rw[<- hb7]at e3 r7
 have l4:b4<b7:=by have:=Ab3 r4;omega
 have fo:=Cf5 b7 0
 simp only[Nat.zero_add]at fo
 have ld3:=At4 (f3.af hb) (hI.fr0 f3)
 have lo3:=Bt1 r7 i3
 obtain⟨_,A4,k4,f4,rfl⟩:=A76 (id:=p.2.2) (Ab5 X A3) (hI.fr0 f3).bs hl i3
 have f34:=f3.ab f4
 have ld4:=At4 (f34.af hb) (hI.fr0 f34)
 have lo4:=Bt1 (f4.af r7) i3
 have f14:=f12.ab f34
 have w4:=f14.wf hw
 obtain⟨t,ht⟩:∃t,t=(aQ c.bat p.2.2).getD []:=⟨_,rfl⟩
 obtain⟨A5,e5⟩:∃B,B=A4.push ⟨bc t,.arr A4.blk.length 0⟩:=⟨_,rfl⟩
 have f5:Fr S0 A4 A5:=by rw[e5];exact Fr.aF A4 _
 have r5:A5.blk[A4.blk.length]?=some ⟨bc t,.arr A4.blk.length 0⟩:=by rw[e5];exact Ab9 A4 _
 obtain⟨x,hx⟩:∃x:M,x=⟨3,c.rd.me,c.rd.ai,R,p.2.1,0,p.2.2,t,[],[]⟩:=⟨_,rfl⟩
 have hxl:x.id.length=32:=by rw[hx];exact i3
 have bm:=BG6 hxl (by rw[hx]) (by rw[hx]) A4.blk.length 0 t.length 1
 rw[show x.who=(c.rd.me:Int) by rw[hx],show x.ai=c.rd.ai by rw[hx],show x.round=R by rw[hx],show x.valid=p.2.1 by rw[hx],show x.id=p.2.2 by rw[hx]]at bm
 have hnX:¬X A4.blk.length:=fun q=>by have:=hI.rr.xlt _ q;have:=f34.len;omega
 have r45:=f5.af (f34.af r4)
 obtain⟨A6,v1,v2,v3⟩:=An3 (y:=x) (dv':=.sl A4.blk.length 0 t.length 1) (iv':=.ah) (lv':=.ah) (hmZ ▸ r45) rfl hxl (by simp only[mc,List.all_cons,List.all_append,Ac9,List.all_nil];rfl)
 have l6:=ldM v3 hxl
 have w5:=f5.wf w4
 rw[<- ht]at k4
 simp only[RT,Q0,Q1,Q2,Q3,Q4,Q5,Q6,Q7,Q8,DF (show ¬ ¬(aP (c.rd.n:Int) c.rd.ai R=(c.rd.me:Int))from fun z=>z hp)]
 refine⟨Ac4 rfl rfl rfl rfl rfl ld.2.1 rfl Aa1,?_⟩
 simp only[RT,Q0,Q1,Q2,Q3,Q4,Q5,Q6,Q7,Q8,Aa1,fa,fr,ld,hpl,i1,lw,CB1]
 simp only[RT,Q0,Q1,Q2,Q3,Q4,Q5,Q6,Q7,Q8,<- hb7,e3,fa,ld3,fo,lo3]
 refine Aa0 k4 ?_
 simp only[RT,Q0,Q1,Q2,Q3,Q4,Q5,Q6,Q7,Q8,fa,fr,ld4,fo,lo4,B46]
 simp only[RT,Q0,Q1,Q2,Q3,Q4,Q5,Q6,Q7,Q8,<- e5,bm,v1,l6]
 rw[<- ht,<- hx]
 refine⟨(f14.ab f5).ar v2 (by omega),_,rfl,hxl,?_,by rw[hx];exact .inl ⟨rfl,rfl⟩,by rw[hx]⟩
 rw[hx]
 exact(Br3 (Aj1 r5 hnX) rfl).mono (Ae4 v2 (.box r45) w5 fun f q=>.inl q)
end
end Go.Sv.Tryz
namespace Go.Sv.Tryz
open Go Go.Proofs
section
variable {X:Nat->Prop} {A B C:AS} {c c':Co} {s:RcV} {w:V} {b:Nat} {r:Rd}
theorem BK7(r:Rd){i:Nat}(h:i<24):(cy r)[i]?=some (dN r.n r.v ((i/2:Nat):Int) ((i%2:Nat):Int) r.me):=by
 unfold cy;rw[List.getElem?_map,List.getElem?_range h];rfl
set_option maxRecDepth 10000 in
set_option maxHeartbeats 16000000 in
theorem AP0(hw:WF A)(h:RCs X A c w):∃u A',EvF TP HH 21 [w] A u A'/\Fr S0 A A'/\∃iv,u=.tup [.agg (mc (dC c.rd) .ah iv .ah),.bool (decide (0<(cW c.rd).length))]/\nI X A' (dC c.rd) .ah iv:=by
 refine Aa4 rfl Tryz.func21 (by unfold Tryz.f21;rfl) Tryz.ntmps21 (by unfold Tryz.f21;rfl) (by simp) ?_
 obtain⟨s,rfl,hI⟩:=h
 obtain⟨A1,e1,f1,r1,n1⟩:=Aa3 A (rcC c s)
 obtain⟨b1,hb1⟩:∃b,b=A.blk.length:=⟨_,rfl⟩
 rw[<- hb1]at r1
 obtain⟨A2,e2,f2,r2,n2⟩:=Aa3 A1 mcZ
 obtain⟨b2,hb2⟩:∃b,b=A1.blk.length:=⟨_,rfl⟩
 rw[<- hb2]at r2
 obtain⟨A3,e3,f3,r3,n3⟩:=Aa3 A2 mcZ
 obtain⟨b4,hb4⟩:∃b,b=A2.blk.length:=⟨_,rfl⟩
 rw[<- hb4]at r3
 have hmZ:mcZ=mc (eU 0) .ah .ah .ah:=rfl
 have l1:b1<b2/\b2<b4:=by have:=Ab3 r1;have:=Ab3 r2;omega
 have f12:=f1.ab f2
 have f13:=f12.ab f3
 rw[hmZ]at r3
 obtain⟨A4,s1,s2,s3⟩:=An3 (y:=fc c.rd.me c.rd.ai []) (dv':=.ah) (iv':=.ah) (lv':=.ah) r3 rfl rfl (At3 (m:=Hp.emp) ⟨rfl,.inl ⟨rfl,rfl⟩,.inl ⟨rfl,rfl⟩,.inl ⟨rfl,rfl⟩⟩)
 have f14:Fr S0 A A4:=f13.ar s2 (by omega)
 have fa:=Bf4 b1
 have fr:=AJ1 b1
 have ld:=At4 (f2.af r1) (hI.fr0 f12)
 have r14:=s2.aq (f3.af (f2.af r1)) (by omega)
 have r24:=s2.aq (f3.af r2) (by omega)
 obtain⟨l,hS,hV⟩:=hI.rr.vv
 have hn7:c.rd.n<=7:=by have:=hI.rr.n;unfold okN at this;omega
 have hll:=hV.len hn7
 have hlS:=AF3 c.rd
 have fa8:ae TP 48 (.ptr b4 0) 8=some (.ptr b4 39):=by kernel_rfl
 simp only[RT,Q0,Q1,Q2,Q3,Q4,Q5,Q6,Q7,Q8,<- e1,<- hb1]
 simp only[RT,Q0,Q1,Q2,Q3,Q4,Q5,Q6,Q7,Q8,zcM,<- hb2,<- e2,fa,fr,ld,B37]
 simp only[RT,Q0,Q1,Q2,Q3,Q4,Q5,Q6,Q7,Q8,<- hb4,<- e3,s1]
 refine Aa6 (fun z e B=>∃(i:Nat) (w:V) (fo:Option Nat),z=24-i/\i<=24/\e.get 6=.int .i64 i/\e.get 1=.ptr b1 0/\e.get 2=.ptr b2 0/\e.get 4=.ptr b4 0/\e.get 5=.int .i64 (dL (cy c.rd) i:Int)/\Fr S0 A B/\B.blk[b1]?=some ⟨rcC c s,.var⟩/\B.blk[b2]?=some ⟨mcZ,.var⟩/\B.blk[b4]?=some ⟨mc (fc c.rd.me c.rd.ai []) .ah w .ah,.var⟩/\Lst eId Hp.emp B w ((cy c.rd).take i) fo/\∀f,fo=some f->A.blk.length<=f)
  (fun z e B=>Is z (.exit 0)/\∃(w:V) (fo:Option Nat),e.get 2=.ptr b2 0/\e.get 4=.ptr b4 0/\e.get 5=.int .i64 (dL (cy c.rd) 24:Int)/\Fr S0 A B/\B.blk[b2]?=some ⟨mcZ,.var⟩/\B.blk[b4]?=some ⟨mc (fc c.rd.me c.rd.ai []) .ah w .ah,.var⟩/\Lst eId Hp.emp B w (cy c.rd) fo/\∀f,fo=some f->A.blk.length<=f)
  ⟨_,0,.ah,none,rfl,by omega,rfl,rfl,rfl,rfl,rfl,f14,r14,r24,s3,.nil,fun f q=>by cases q⟩ ?_ ?_
 . rintro z e B ⟨i,w,fo,rfl,hi,h6,h1,h2,h4,h5,hf,rb1,rb2,rb4,hL,hfo⟩
   simp only[RT,Q0,Q1,Q2,Q3,Q4,Q5,Q6,Q7,Q8,h6]
   by_cases q1:i<24
   rotate_left
   . have:i=24:=by omega
     subst this
     rw[List.take_of_length_le (by omega)]at hL
     simp only[RT,Q0,Q1,Q2,Q3,Q4,Q5,Q6,Q7,Q8,DF (show ¬(((24:Nat):Int)<24) by omega)]
     refine⟨rfl,w,fo,?_⟩
     and_intros<;>first |rfl |assumption
   have ldB:=At4 rb1 (hI.fr0 hf)
   obtain⟨_,B1,k1,g1,rfl⟩:=Aq8 (r:=((i/2:Nat):Int)) (k:=((i%2:Nat):Int)) (w0:=(c.rd.me:Int)) (Ab5 X B) (hS.mono (Ac8 hf)) (by omega)
   have hgl:=Aw0 (Ab5 X A) hS ((i/2:Nat):Int) ((i%2:Nat):Int) (c.rd.me:Int)
   rw[hV.vl.get]at k1 hgl
   obtain⟨x,hx⟩:∃x,x=dN c.rd.n c.rd.v ((i/2:Nat):Int) ((i%2:Nat):Int) c.rd.me:=⟨_,rfl⟩
   have hat:=BK7 c.rd q1
   rw[<- hx]at k1 hgl hat
   have hls:=AK8 hat
   have d1:aw TP .quo 3 (.int .i64 (i:Int)) (.int .i64 2)=some (.int .i64 ((i/2:Nat):Int)):=AA0 _ 2 (by decide) (by omega)
   have d2:aw TP .rem 3 (.int .i64 (i:Int)) (.int .i64 2)=some (.int .i64 ((i%2:Nat):Int)):=Av1 _ 2 (by decide)
   obtain⟨D0,e7,f7,r7,n7⟩:=Aa3 B1 (bc bF)
   obtain⟨b7,hb7⟩:∃b,b=B1.blk.length:=⟨_,rfl⟩
   rw[<- hb7]at r7
   obtain⟨D,t1,t2,t3⟩:=AA5 r7 (by simp[bF]) hgl
   have fBD:Fr S0 B D:=(g1.ab f7).ar t2 (by have:=g1.len;omega)
   have hfD:=hf.ab fBD
   have lbB:b4<b7:=by have:=Ab3 rb4;have:=g1.len;omega
   obtain⟨v4,E,fo2,p1,p2,p3,p4⟩:=(hL.fr0 fBD).push (P:=TP) (t:=32) (tx:=32) (n:=32) rfl Cg5 Tryz.underlying32 (hfD.wf hw) (y:=x) (cs':=bc x) ⟨rfl,hgl⟩ (by rw[List.length_take];omega) (by rw[List.length_take];omega)
   rw[<- Ab6 hat]at p2
   have rd4:=fBD.af rb4
   have hfE:Fr S0 A E:=hfD.eh hw p3 hfo
   have re4:=p3.row _ _ rd4 (Ab0 rd4)
   have re2:=p3.row _ _ (fBD.af rb2) (Ab0 (fBD.af rb2))
   have re1:=p3.row _ _ (fBD.af rb1) (Ab0 (fBD.af rb1))
   have re7:=p3.row _ _ t3 (Ab0 t3)
   obtain⟨F,u1,u2,u3⟩:=A71 re4 rfl p2.one
   have hfF:Fr S0 A F:=hfE.ar u2 (by omega)
   have rf1:=u2.aq re1 (by omega)
   have rf2:=u2.aq re2 (by omega)
   have rf7:=u2.aq re7 (by omega)
   have pF:=p2.fr u2 (.box re4)
   have jM:∀f,fo2=some f->A.blk.length<=f:=fun f q=>by
    rcases p4.or q with y |y
    . exact hfo f y
    . have:=hfD.len;omega
   have wj:IntKind.i64.wrap ((i:Int)+1)=((i+1:Nat):Int):=by rw[Ac2 (by omega)]
   have ld4:=ldM rd4 (rfl:(fc c.rd.me c.rd.ai []).id.length=32)
   simp only[RT,Q0,Q1,Q2,Q3,Q4,Q5,Q6,Q7,Q8,DT (show((i:Nat):Int)<24 by omega),h1,fa,fr,ldB,h6,d1,d2]
   refine Aa0 k1 ?_
   simp only[RT,Q0,Q1,Q2,Q3,Q4,Q5,Q6,Q7,Q8,Av8]
   simp only[RT,Q0,Q1,Q2,Q3,Q4,Q5,Q6,Q7,Q8,<- hb7,<- e7,t1,h4,fa8,ld4,ldI t3 hgl,Bt4 hgl,p1,u1,ldI rf7 hgl,Ad8,eqI hgl Aa9]
   by_cases hz0:x=z32
   . rw[if_pos hz0]at hls
     rw[<- hls]at h5
     simp only[RT,Q0,Q1,Q2,Q3,Q4,Q5,Q6,Q7,Q8,DT hz0,Bool.not_true,h6,wj]
     refine⟨24-(i+1),by omega,i+1,v4,fo2,rfl,by omega,?_⟩
     and_intros<;>first |rfl |assumption
   . rw[if_neg hz0]at hls
     simp only[RT,Q0,Q1,Q2,Q3,Q4,Q5,Q6,Q7,Q8,DF hz0,Bool.not_false,h6,wj]
     refine⟨24-(i+1),by omega,i+1,v4,fo2,rfl,by omega,?_⟩
     rw[hls]
     and_intros<;>first |rfl |assumption
 . rintro z e B hz ⟨rfl,w,fo,h2,h4,h5,hf,rb2,rb4,hL,hfo⟩
   have sL:=AC7 (cy c.rd) 24
   obtain⟨iv,t1,t2⟩:=hL.toN (P:=TP) (t:=32) Tryz.underlying32 Ap3 (hi:=dL (cy c.rd) 24) (by omega) (kh:=.i64) B
   have ld4:=ldM rb4 (rfl:(fc c.rd.me c.rd.ai []).id.length=32)
   obtain⟨C,u1,u2,u3⟩:=A71 rb4 rfl t2.one
   have ldC4:=ldM u3 (rfl:(fc c.rd.me c.rd.ai []).id.length=32)
   have rc2:=u2.aq rb2 (by omega)
   have t3:=t2.fr u2 (.box rb4)
   have hlen:(cW c.rd).length=dL (cy c.rd) 24:=by unfold cW;rw[List.length_take];omega
   obtain⟨D,x1,x2,x3⟩:=An3 (y:=fc c.rd.me c.rd.ai []) (dv':=.ah) (iv':=iv) (lv':=.ah) (x:=eU 0) (dv:=.ah) (iv:=.ah) (lv:=.ah) rc2 rfl rfl (by simp only[mc,List.all_cons,List.all_append,Ac9,t2.one,List.all_nil];rfl)
   simp only[RT,Q0,Q1,Q2,Q3,Q4,Q5,Q6,Q7,Q8,h4,fa8,ld4,h5,t1,u1,ldC4,h2,x1,(ldM x3 (rfl:(fc c.rd.me c.rd.ai []).id.length=32))]
   have fD:Fr S0 A D:=(hf.ar u2 (by omega)).ar x2 (by omega)
   rw[hlen]
   have pD:decide ((dL (cy c.rd) 24:Int)>0)=decide (0<dL (cy c.rd) 24):=by simp
   rw[pD]
   refine⟨fD,iv,rfl,rfl,.inl ⟨rfl,rfl⟩,(t3.fr x2 (.box rc2)).mO (fun b cs q=>by cases q) fun f q z=>?_,rfl⟩
   have:=hI.rr.xlt f z
   have:=hfo f q
   omega
end
end Go.Sv.Tryz
namespace Go.Sv.Tryz
open Go Go.Proofs
section
variable {X Y Z:Nat->Prop} {A B C:AS} {c c':Co} {s:RcV} {w:V} {b:Nat} {r:Rd} {S:Loc->Prop} {fo fo2:Option Nat}
def MOu(X:Nat->Prop)(N:Nat)(A:AS)(x:Co×List M)(u:V):Prop:=∃u1 v fo,u=.tup [u1,v]/\RCs (xo X fo) A x.1 u1/\Lst eMsg (qHp (xo X fo) A) A v x.2 fo/\∀f,fo=some f->N<=f
theorem Aq6{l:List M}(h:Lst eMsg (qHp X A) A w l fo)(hf:Fr S0 A B):Lst eMsg (qHp X B) B w l fo:=(h.fr0 hf).mono (Ac8 hf)
theorem An5{l:List M}{cs:List V}(h:Lst eMsg (qHp X A) A w l fo)(hw:WF A)(hb:A.blk[b]?=some ⟨cs,.var⟩)(hf:Fr (·=.row b) A B):Lst eMsg (qHp X B) B w l fo:=(h.fr hf (.box hb)).mono (Ae4 hf (.box hb) hw fun f q=>.inl q)
theorem AF7{x:M}{dv iv lv:V}{l:List M}(hw:WF A)(hX:∀f,X f->f<A.blk.length)(h:Lst eMsg (qHp (xo X fo) A) A w l fo)(hx:cw (qHp (xo X fo) A) x dv iv lv)(hl:l.length<=10000000):
 ∃v' B fo2,aR TP 51 51 w (.sl A.blk.length 0 1 41) (A.push ⟨mc x dv iv lv,.arr A.blk.length 0⟩)=some (v',B)/\Lst eMsg (qHp (xo X fo2) B) B v' (l++[x]) fo2/\Fr (aI A fo) A B/\Gr A fo fo2/\Tch (xo X fo) A (aI A fo)/\(∀f,xo X fo2 f->xo X fo f∨A.blk.length<=f)/\∀f,xo X fo2 f->f<B.blk.length:=by
 obtain⟨v',B,fo2,p1,p2,p3,p4⟩:=h.push (P:=TP) (t:=51) (tx:=51) (n:=41) rfl Cx5 Tryz.underlying51 hw (y:=x) (cs':=mc x dv iv lv) ⟨dv,iv,lv,rfl,hx⟩ (by omega) (by omega)
 have hT:Tch (xo X fo) A (aI A fo):=Tch.lX fun f q=>.inr q
 have hY:∀f,xo X fo2 f->xo X fo f∨A.blk.length<=f:=fun f z=>z.elim (fun z=>.inl (.inl z)) fun z=>(p4.or z).imp .inr id
 exact⟨v',B,fo2,p1,p2.mono (Ae4 p3 hT hw hY),p3,p4,hT,hY,fun f z=>z.elim (fun z=>Nat.lt_of_lt_of_le (hX f z) p3.len) (p2.bO f)⟩
theorem AU9{x:M}{dv iv lv:V}(h:x.id.length=32):bsl TP 51 1 (some [(0,.agg (mc x dv iv lv))])=some (.aB (mc x dv iv lv) 1 41):=A13 h
theorem Bu9(l:List Act):∀s:Co×List M×Bool,eI s.1->eI (l.foldl Co.bp s).1:=by
 induction l with
 |nil=>exact fun s h=>h
 |cons a l ih=>exact fun s h=>ih _ (BK3 h)
theorem AV0(l:List Act)(s:Co×List M×Bool):(l.foldl Co.bp s).2.1.length<=s.2.1.length+l.length:=by
 induction l generalizing s with
 |nil=>simp
 |cons a l ih =>
  have h1:=ih (Co.bp s a)
  have h2:=A74 s a
  show(l.foldl Co.bp (Co.bp s a)).2.1.length<=_
  simp only[List.length_cons];omega
set_option maxRecDepth 10000 in
set_option maxHeartbeats 32000000 in
theorem B47{m:Hp}{lv:V}{L:List Act}(hw:WF A)(hX:∀f,X f->f<A.blk.length)(h:RCs X A c w)(hr:Rng c.rd)(hk:eI c)(hl:c.bat.length<=100000)(hm:m.on A)(hL:Slc dp m lv L)(hLn:L.length<=1000000):
 ∃u A',EvF TP HH 34 [w,lv] A u A'/\Fr S0 A A'/\MOu X A.blk.length A' (c.act L) u:=by
 refine Aa4 rfl Tryz.func34 (by unfold Tryz.f34;rfl) Tryz.ntmps34 (by unfold Tryz.f34;rfl) (by simp) ?_
 obtain⟨cs,rfl,A1,e1,f1,hB1⟩:=h.new
 obtain⟨b2,hb2⟩:∃b,b=A.blk.length:=⟨_,rfl⟩
 rw[<- hb2]at hB1
 obtain⟨A2,e2,f2,r4,n2⟩:=Aa3 A1 rcZ
 obtain⟨b4,hb4⟩:∃b,b=A1.blk.length:=⟨_,rfl⟩
 rw[<- hb4]at r4
 have l2:b2<b4:=by have:=hB1.lt;omega
 have f12:=f1.ab f2
 have fa:=Bf4 b2
 have hln:=fun B=>hL.len (P:=TP) Tryz.underlying34 B
 simp only[RT,Q0,Q1,Q2,Q3,Q4,Q5,Q6,Q7,Q8,<- e1,<- hb2]
 simp only[RT,Q0,Q1,Q2,Q3,Q4,Q5,Q6,Q7,Q8,Bc5,<- hb4,<- e2]
 refine Aa6 (fun z e B=>∃(j:Nat) (w:V) (fo:Option Nat),z=L.length-j/\j<=L.length/\e.get 8=.int .i64 j/\e.get 1=lv/\e.get 2=.ptr b2 0/\e.get 4=.ptr b4 0/\e.get 6=w/\e.get 7=.bool ((L.take j).foldl Co.bp (c,[],false)).2.2/\Fr S0 A B/\B.blk[b4]?=some ⟨rcZ,.var⟩/\Cx (xo X fo) B b2 ((L.take j).foldl Co.bp (c,[],false)).1/\Lst eMsg (qHp (xo X fo) B) B w ((L.take j).foldl Co.bp (c,[],false)).2.1 fo/\∀f,fo=some f->A.blk.length<=f)
  (fun z e B=>Is z (.exit 0)/\∃(w:V) (fo:Option Nat),e.get 2=.ptr b2 0/\e.get 4=.ptr b4 0/\e.get 6=w/\e.get 7=.bool (c.al L).2.2/\Fr S0 A B/\B.blk[b4]?=some ⟨rcZ,.var⟩/\Cx (xo X fo) B b2 (c.al L).1/\Lst eMsg (qHp (xo X fo) B) B w (c.al L).2.1 fo/\∀f,fo=some f->A.blk.length<=f)
  ⟨_,0,.ah,none,rfl,by omega,rfl,rfl,rfl,rfl,rfl,rfl,f12,r4,(hB1.fr0 f2).sub fun f q=>q.elim id fun q=>(by cases q),.nil,fun f q=>by cases q⟩ ?_ ?_
 . rintro z e B ⟨j,w,fo,rfl,hj,h8,h1,h2,h4,h6,h7,hf,rb4,hC,hM,hfo⟩
   simp only[RT,Q0,Q1,Q2,Q3,Q4,Q5,Q6,Q7,Q8,h8,h1,hln]
   refine Aa8 (fun g1=>?_) (fun g1=>?_)
   rotate_left
   . have:j=L.length:=by omega
     subst this
     rw[List.take_length]at h7 hC hM
     simp only[RT,Q0,Q1,Q2,Q3,Q4,Q5,Q6,Q7,Q8]
     refine⟨rfl,w,fo,?_⟩
     and_intros<;>first |rfl |assumption
   obtain⟨a,hax⟩:=Ac7 (l:=L) (i:=j) (by omega)
   have wB:=hf.wf hw
   obtain⟨bo,oo,g3,g4,hal⟩:=Cu7 (hm.fr0 hf) hL hax
   have hh:=(AD8 BE2 Bf2 g4).1
   have fA:=Cu6 bo oo
   have ldA:∀{D:AS},Fr S0 B D->aa TP 3 (.ptr bo oo) D=some (.int .i64 a.kind)/\aa TP 3 (.ptr bo (oo+1)) D=some (.int .i64 a.round)/\aa TP 3 (.ptr bo (oo+2)) D=some (.int .i64 a.num)/\aa TP 30 (.ptr bo (oo+4)) D=some (.agg (bc a.id)):=fun {D} hD=>by
    obtain⟨k,hk,hat⟩:=hh
    obtain⟨kc,kk⟩:=k
    have h':jh D bo oo (aX a):=⟨_,hD.af hk,hat⟩
    exact⟨h'.cC (j:=0) rfl ag3,h'.cC (j:=1) rfl ag3,h'.cC (j:=2) rfl ag3,h'.kS (j:=4) ⟨[.int .i64 a.kind,.int .i64 a.round,.int .i64 a.num,.int .i64 a.valid],[],by simp[aX],rfl⟩ Av4 Ap3 (by rw[Aa7,hal])⟩
   have la:=ldA (.refl _ _)
   have hwr:IntKind.i64.wrap ((j:Int)+1)=((j+1:Nat):Int):=by rw[Ac2 (by omega)]
   have em:(L.take (j+1)).foldl Co.bp (c,[],false)=Co.bp ((L.take j).foldl Co.bp (c,[],false)) a:=As6 hax
   have hrd:=A12 (L.take j) (c,[],false)
   have hol:=AV0 (L.take j) (c,[],false)
   rw[List.length_take]at hol
   obtain⟨s,hs⟩:∃s,s=(L.take j).foldl Co.bp (c,[],false):=⟨_,rfl⟩
   rw[<- hs]at hC hM h7 em hrd hol
   have hol:s.2.1.length<=1000000:=by simp at hol;omega
   have hrs:Rng s.1.rd:=by rw[hrd.1];exact hr
   have hbs:s.1.bat.length<=100000:=by rw[hrd.2.1];exact hl
   have htl:s.1.tim.length<=40:=by rw[hs];exact(Bu9 (L.take j) (c,[],false) hk).tim
   simp only[RT,Q0,Q1,Q2,Q3,Q4,Q5,Q6,Q7,Q8,h1,h8,g3,fA,la]
   by_cases k1:a.kind=1
   . have e1:Co.bp s a=(s.1,s.2.1++[(s.1.offer a.round).1],s.2.2):=by unfold Co.bp;rw[if_pos k1]
     rw[e1]at em
     obtain⟨u,o1,o2⟩:=hC.out
     obtain⟨D0,e9,f9,r9,n9⟩:=Aa3 B mcZ
     obtain⟨b9,hb9⟩:∃b,b=B.blk.length:=⟨_,rfl⟩
     rw[<- hb9]at r9
     obtain⟨_,D1,k3,g1',dv,rfl,hq⟩:=Bj1 (R:=a.round) (f9.wf wB) (o2.fr0 f9) hrs (by omega)
     have r9':=g1'.af r9
     have hmZ:mcZ=mc (eU 0) .ah .ah .ah:=rfl
     obtain⟨D2,n1,n2',n3⟩:=An3 (y:=(s.1.offer a.round).1) (dv':=dv) (iv':=.ah) (lv':=.ah) (hmZ ▸ r9') rfl hq.id (At3 hq.in_)
     have lm:=ldM n3 hq.id
     have fBD:Fr S0 B D2:=(f9.ab g1').ar n2' (by omega)
     have wD1:=(f9.ab g1').wf wB
     have hin:cw (qHp (xo X fo) D2) (s.1.offer a.round).1 dv .ah .ah:=hq.in_.mono (Ae4 n2' (.box r9') wD1 fun f q=>.inl q)
     have hfD:=hf.ab fBD
     obtain⟨v',G,fo2,p1,p2,p3,p4,p5,p6,p7⟩:=AF7 (hfD.wf hw) (fun f q=>Nat.lt_of_lt_of_le (hX f q) hfD.len) (Aq6 hM fBD) hin (by omega)
     have rd4:=fBD.af rb4
     have hlb:b4<b9:=by have:=Ab3 rb4;omega
     have hCG:Cx (xo X fo2) G b2 s.1:=(hC.fr0 fBD).go (hfD.wf hw) p3 p5 (by obtain⟨cs,q,_⟩:=(hC.fr0 fBD).box;exact Ab0 q) p6 p7
     simp only[RT,Q0,Q1,Q2,Q3,Q4,Q5,Q6,Q7,Q8,DT k1,BT4,h2,o1,h1,h8,g3,fA,la,zcM,Aa1]
     simp only[RT,Q0,Q1,Q2,Q3,Q4,Q5,Q6,Q7,Q8,<- hb9,<- e9]
     refine Aa0 k3 ?_
     simp only[RT,Q0,Q1,Q2,Q3,Q4,Q5,Q6,Q7,Q8,n1,Aa1,h6,lm,AU9 hq.id,p1,h8,hwr]
     refine⟨L.length-(j+1),by omega,j+1,v',fo2,rfl,by omega,rfl,?_⟩
     rw[em]
     refine⟨h1,h2,h4,rfl,h7,hfD.eh hw p3 hfo,p3.row _ _ rd4 (Ab0 rd4),hCG,p2,fun f q=>?_⟩
     rcases p4.or q with z |z
     . exact hfo f z
     . have:=hfD.len;omega
   by_cases k2:a.kind=2
   . have e1:Co.bp s a=(s.1,s.2.1,true):=by unfold Co.bp;rw[if_neg k1,if_pos k2]
     rw[e1]at em
     simp only[RT,Q0,Q1,Q2,Q3,Q4,Q5,Q6,Q7,Q8,DF k1,DT k2,h8,hwr]
     refine⟨L.length-(j+1),by omega,j+1,w,fo,rfl,by omega,rfl,?_⟩
     rw[em]
     and_intros<;>first |rfl |assumption
   obtain⟨sc,hbc,hIc⟩:=hC
   have hC:Cx (xo X fo) B b2 s.1:=⟨sc,hbc,hIc⟩
   have ldB:=At4 hbc hIc
   by_cases k3:a.kind=3
   . have e1:Co.bp s a=({ s.1 with tim:=cV s.1.now s.1.tim a.round a.num },s.2.1,s.2.2):=by unfold Co.bp;rw[if_neg k1,if_neg k2,if_pos k3]
     rw[e1]at em
     have htr:(jl s.1).length=s.1.tim.length:=by unfold jl;rw[List.length_map]
     obtain⟨_,D,k4,g4',v',ok,rfl,hv⟩:=CB0 (R:=a.round) (S:=a.num) wB (Ab5 _ B) hIc.ds (by omega)
     have hfD:=hf.ab g4'
     have wD:=g4'.wf wB
     have lQ:∃E,ag TP 37 (.ptr b2 108) v' D=some E/\Fr (·=.row b2) D E/\Cx (xo X fo) E b2 { s.1 with tim:=cV s.1.now s.1.tim a.round a.num }:=by
      rcases hv with⟨q,rfl⟩ |⟨q,hn⟩
      . have e:cV s.1.now s.1.tim a.round a.num=s.1.tim:=by unfold cV;rw[if_pos (by omega)]
        rw[e]
        exact Cm3 (g4'.af hbc) (hIc.fr0 g4') wD
      . refine hC.lO wB g4' ?_ (B45 hIc.dl)
        have e:=Bu8 (c:=s.1) (R:=a.round) (S:=a.num)
        rw[if_neg (by omega)]at e
        rw[show(cV s.1.now s.1.tim a.round a.num).map (fun x=>(x.1-s.1.now,x.2.1,x.2.2))=_ from e]
        exact hn
     obtain⟨E,t1,t2,t3⟩:=lQ
     have rb2:=g4'.af hbc
     have ldB':=ldB
     simp only[RT,Q0,Q1,Q2,Q3,Q4,Q5,Q6,Q7,Q8,DF k1,DF k2,DT k3]
     rw[BA8,Aa2 (by rfl)]
     simp only[RT,Q0,Q1,Q2,Q3,Q4,Q5,Q6,Q7,Q8,h2,fa,ldB,h1,h8,g3,fA,la]
     refine Aa0 k4 ?_
     simp only[RT,Q0,Q1,Q2,Q3,Q4,Q5,Q6,Q7,Q8,h2,fa,t1,h8,hwr]
     refine⟨L.length-(j+1),by omega,j+1,w,fo,rfl,by omega,rfl,?_⟩
     rw[em]
     exact⟨h1,h4,h6,h7,hfD.ar t2 (by omega),t2.aq (g4'.af rb4) (by omega),t3,An5 (Aq6 hM g4') wD rb2 t2,hfo⟩
   by_cases k4:a.kind=4
   rotate_left
   . have e1:Co.bp s a=s:=by unfold Co.bp;rw[if_neg k1,if_neg k2,if_neg k3,if_neg k4]
     rw[e1]at em
     simp only[RT,Q0,Q1,Q2,Q3,Q4,Q5,Q6,Q7,Q8,DF k1,DF k2,DF k3,DF k4,h8,hwr]
     refine⟨L.length-(j+1),by omega,j+1,w,fo,rfl,by omega,rfl,?_⟩
     rw[em]
     and_intros<;>first |rfl |assumption
   have e1:Co.bp s a=({ s.1 with done:=(aQ s.1.bat a.id).getD [],bL:=true,tim:=[] },s.2.1,s.2.2):=by unfold Co.bp;rw[if_neg k1,if_neg k2,if_neg k3,if_pos k4]
   rw[e1]at em
   obtain⟨_,D,k5,g5,rfl⟩:=A76 (id:=a.id) (Ab5 _ B) hIc.bs (by omega) hal
   have wD:=g5.wf wB
   obtain⟨E1,t1,t2,t3⟩:=(hC.fr0 g5).sO wD ((aQ s.1.bat a.id).getD [])
   have wE1:=t2.wf wD
   obtain⟨E2,t4,t5,t6⟩:=t3.nA wE1 true
   have wE2:=t5.wf wE1
   obtain⟨E3,t7,t8,t9⟩:=t6.qZ wE2
   obtain⟨x1,y1,_⟩:=(hC.fr0 g5).box
   obtain⟨x2,y2,_⟩:=t3.box
   obtain⟨x3,y3,_⟩:=t6.box
   simp only[RT,Q0,Q1,Q2,Q3,Q4,Q5,Q6,Q7,Q8,DF k1,DF k2,DF k3,DT k4]
   rw[BA9,Aa2 (by rfl)]
   simp only[RT,Q0,Q1,Q2,Q3,Q4,Q5,Q6,Q7,Q8,h2,fa,ldB,h1,h8,g3,fA,la]
   refine Aa0 k5 ?_
   simp only[RT,Q0,Q1,Q2,Q3,Q4,Q5,Q6,Q7,Q8,h2,fa,t1,t4,t7,h8,hwr]
   refine⟨L.length-(j+1),by omega,j+1,w,fo,rfl,by omega,rfl,?_⟩
   rw[em]
   exact⟨h1,h4,h6,h7,(((hf.ab g5).ar t2 (by omega)).ar t5 (by omega)).ar t8 (by omega),t8.aq (t5.aq (t2.aq (g5.af rb4) (by omega)) (by omega)) (by omega),t9,An5 (An5 (An5 (Aq6 hM g5) wD y1 t2) wE1 y2 t5) wE2 y3 t8,hfo⟩
 rintro z e B hz ⟨rfl,w,fo,h2,h4,h6,h7,hf,rb4,hC,hM,hfo⟩
 have wB:=hf.wf hw
 have hol:=AV0 L (c,[],false)
 have hol:(c.al L).2.1.length<=1000000:=by unfold Co.al;simp at hol;omega
 obtain⟨u,o1,o2⟩:=hC.out
 obtain⟨_,D,k3,g3,iv,rfl,hq⟩:=AP0 wB o2
 obtain⟨D0,e9,f9,r9,n9⟩:=Aa3 D mcZ
 obtain⟨b11,ka⟩:∃b,b=D.blk.length:=⟨_,rfl⟩
 rw[<- ka]at r9
 have hmZ:mcZ=mc (eU 0) .ah .ah .ah:=rfl
 have lst:(V.tup [.agg (mc (dC (c.al L).1.rd) .ah iv .ah),.bool (decide (0<(cW (c.al L).1.rd).length))])=.tup [.agg (mc (dC (c.al L).1.rd) .ah iv .ah),.bool (decide (0<(cW (c.al L).1.rd).length))]:=rfl
 have wD:=g3.wf wB
 obtain⟨D2,n1,n2',n3⟩:=An3 (y:=dC (c.al L).1.rd) (dv':=.ah) (iv':=iv) (lv':=.ah) (hmZ ▸ r9) rfl hq.id (At3 hq.in_)
 have lm:=ldM n3 hq.id
 have w9:=f9.wf wD
 have fBD:Fr S0 B D2:=(g3.ab f9).ar n2' (by have:=g3.len;omega)
 have hfD:=hf.ab fBD
 have hin:cw (qHp (xo X fo) D2) (dC (c.al L).1.rd) .ah iv .ah:=(hq.in_.mono (Ac8 f9)).mono (Ae4 n2' (.box r9) w9 fun f q=>.inl q)
 have rd4:=fBD.af rb4
 simp only[RT,Q0,Q1,Q2,Q3,Q4,Q5,Q6,Q7,Q8,h2,o1]
 refine Aa0 k3 ?_
 simp only[RT,Q0,Q1,Q2,Q3,Q4,Q5,Q6,Q7,Q8,zcM]
 simp only[RT,Q0,Q1,Q2,Q3,Q4,Q5,Q6,Q7,Q8,<- ka,<- e9,n1]
 unfold Co.act
 by_cases q:(c.al L).2.2=true/\0<(cW (c.al L).1.rd).length
 . rw[if_pos q]
   rw[q.1]at h7
   obtain⟨v',G,fo2,p1,p2,p3,p4,p5,p6,p7⟩:=AF7 (hfD.wf hw) (fun f q=>Nat.lt_of_lt_of_le (hX f q) hfD.len) (Aq6 hM fBD) hin (by omega)
   have hCG:Cx (xo X fo2) G b2 (c.al L).1:=(hC.fr0 fBD).go (hfD.wf hw) p3 p5 (by obtain⟨cs,q,_⟩:=(hC.fr0 fBD).box;exact Ab0 q) p6 p7
   have hfG:=hfD.eh hw p3 hfo
   have rG:=p3.row _ _ rd4 (Ab0 rd4)
   obtain⟨u9,H,y1,y2,y3,y4,y5⟩:=hCG.fin (hfG.wf hw) rG Ad9
   simp only[RT,Q0,Q1,Q2,Q3,Q4,Q5,Q6,Q7,Q8,h7,DT q.2,h6,lm,AU9 hq.id,p1,h2,y1,h4,y2,y3]
   refine⟨hfG.ar y4 (by omega),u9,v',fo2,rfl,y5,An5 p2 (hfG.wf hw) rG y4,fun f q=>?_⟩
   rcases p4.or q with z |z
   . rw[hb2];exact hfo f z
   . have:=hfD.len;omega
 . rw[if_neg q]
   obtain⟨u9,H,y1,y2,y3,y4,y5⟩:=(hC.fr0 fBD).fin (hfD.wf hw) rd4 Ad9
   cases hv:(c.al L).2.2 with
   |false =>
    rw[hv]at h7
    simp only[RT,Q0,Q1,Q2,Q3,Q4,Q5,Q6,Q7,Q8,h7,h2,y1,h4,y2,h6,y3]
    exact⟨hfD.ar y4 (by omega),u9,w,fo,rfl,y5,An5 (Aq6 hM fBD) (hfD.wf hw) rd4 y4,fun f q=>by rw[hb2];exact hfo f q⟩
   |true =>
    rw[hv]at h7
    have hd:=DF (fun y=>q ⟨hv,y⟩)
    simp only[RT,Q0,Q1,Q2,Q3,Q4,Q5,Q6,Q7,Q8,h7,hd,h2,y1,h4,y2,h6,y3]
    exact⟨hfD.ar y4 (by omega),u9,w,fo,rfl,y5,An5 (Aq6 hM fBD) (hfD.wf hw) rd4 y4,fun f q=>by rw[hb2];exact hfo f q⟩
end
end Go.Sv.Tryz
namespace Go.Sv
theorem Bc6{c:Co}(t:Bts):(c.eu t).rd=c.rd/\(c.eu t).bat.length<=c.bat.length+1/\(c.eu t).tim=c.tim/\(c.eu t).now=c.now:=by
 refine⟨rfl,?_,rfl,rfl⟩
 show(fU c.bat t).length<=_
 unfold fU;split
 . omega
 . rw[List.length_append];simp
end Go.Sv
namespace Go.Sv.Tryz
open Go Go.Proofs
section
variable {X Y Z:Nat->Prop} {A B C:AS} {c c':Co} {s:RcV} {w:V} {b:Nat} {r:Rd} {S:Loc->Prop} {fo fo2:Option Nat} {N N':Nat}
theorem AC8{t:Bts}(hr:Rng c.rd)(ha:c.rd.al=[])(hk:eI c)(ht:t.length<=1000000):Rng (c.a6 t).1.rd/\(c.a6 t).2.length<=2000/\(c.a6 t).1.rd.al=[]/\eI (c.a6 t).1/\(c.a6 t).1.bat.length<=c.bat.length+1:=by
 obtain⟨h1,h2,h3⟩:=hr.fX (az t)
 rw[ha]at h2
 exact⟨h1,by simpa[Co.a6] using h2,h3,{ hk with bat:=A72 hk.bat ht },(Bc6 t).2.1⟩
theorem Bj2{v v':V}{l l':List Act}{fo fo':Option Nat}(hw:WF A)(h:Lst dp Hp.emp A v l fo)(h':Lst dp Hp.emp A v' l' fo')(hl:l.length+l'.length<=10000000):
 ∃v3 B fo3,aR TP 34 34 v v' A=some (v3,B)/\Lst dp Hp.emp B v3 (l++l') fo3/\Fr (aI A fo) A B/\Gr A fo fo3:=by
 obtain⟨cs,q1,q2⟩:=h'.src (P:=TP) (tx:=34) Tryz.underlying34
 exact h.app (P:=TP) (t:=34) (tx:=34) (e:=127) Ct6 hw q1 q2 (by omega) (by omega)
theorem MOu.fin{x:Co×List M}{u:V}{b4:Nat}{cs:List V}(h:MOu X N A x u)(hw:WF A)(hz:A.blk[b4]?=some ⟨cs,.var⟩)(hl:cs.length=113):∃u1 v A',u=.tup [u1,v]/\ag TP 41 (.ptr b4 0) u1 A=some A'/\aa TP 41 (.ptr b4 0) A'=some u1/\Fr (·=.row b4) A A'/\MOu X N A' x (.tup [u1,v]):=by
 obtain⟨u1,v,fo,rfl,h1,h2,h3⟩:=h
 obtain⟨A',s1,s2,s3,_,s4⟩:=h1.put hw hz hl
 exact⟨u1,v,A',rfl,s1,s2,s3,u1,v,fo,rfl,s4,An5 h2 hw hz s3,h3⟩
theorem MOu.sub{x:Co×List M}{u:V}(h:MOu X N A x u)(hY:∀f,Y f->X f)(hN:N'<=N):MOu Y N' A x u:=by
 obtain⟨u1,v,fo,rfl,h1,h2,h3⟩:=h
 exact⟨u1,v,fo,rfl,h1.sub fun f q=>q.imp (hY f) id,h2.mono (Ae8 fun f q=>q.imp (hY f) id),fun f q=>Nat.le_trans hN (h3 f q)⟩
theorem RCs.none(h:RCs X A c w):MOu X N A (c,[]) (.tup [w,.ah]):=⟨w,.ah,Option.none,rfl,h.sub fun f q=>q.elim id fun q=>(by cases q),.nil,fun f q=>by cases q⟩
theorem Cm8{u:V}(hw:WF A)(h:Cx X A b c)(hu:aa TP 41 (.ptr b 0) A=some u)(k:RCs X A c u)(hf:Fr (aI A fo) A B)(ht:Tch X A (aI A fo)):aa TP 41 (.ptr b 0) B=some u/\RCs X B c u:=by
 obtain⟨s,e,h⟩:=h
 have e':=hf.row _ _ e (Ab0 e)
 have l1:=At.load e (.all _) Ce3 BI0 h.len
 have l2:=At.load e' (.all _) Ce3 BI0 h.len
 rw[hu]at l1
 exact⟨by rw[l2];exact l1.symm,k.mv hw hf ht⟩
set_option maxRecDepth 10000 in
set_option maxHeartbeats 32000000 in
theorem BK8{t:Bts}(hw:WF A)(hX:∀f,X f->f<A.blk.length)(h:RCs X A c w)(hr:Rng c.rd)(ha:c.rd.al=[])(hk:eI c)(hl:c.bat.length<=10000)(ht:t.length<=1000000):
 ∃u A',EvF TP HH 9 [w,.str t] A u A'/\Fr S0 A A'/\MOu X A.blk.length A' (c.bA t) u:=by
 refine Aa4 rfl Tryz.func9 (by unfold Tryz.f9;rfl) Tryz.ntmps9 (by unfold Tryz.f9;rfl) (by simp) ?_
 obtain⟨cs,rfl,A1,e1,f1,hB1⟩:=h.new
 obtain⟨b2,hb2⟩:∃b,b=A.blk.length:=⟨_,rfl⟩
 rw[<- hb2]at hB1
 obtain⟨A2,e2,f2,r4,n2⟩:=Aa3 A1 rcZ
 obtain⟨b4,hb4⟩:∃b,b=A1.blk.length:=⟨_,rfl⟩
 rw[<- hb4]at r4
 have l2:b2<b4:=by have:=hB1.lt;omega
 have f12:=f1.ab f2
 have w2:=f12.wf hw
 have hB2:=hB1.fr0 f2
 obtain⟨u,o1,o2⟩:=hB2.out
 have fa:=Bf4 b2
 have els:=As1 (P:=TP) Tryz.underlying9
 unfold Co.bA
 simp only[RT,Q0,Q1,Q2,Q3,Q4,Q5,Q6,Q7,Q8,<- e1,<- hb2]
 simp only[RT,Q0,Q1,Q2,Q3,Q4,Q5,Q6,Q7,Q8,Bc5,<- hb4,<- e2,els]
 by_cases q:t.length>4096
 . rw[if_pos q]
   obtain⟨u1,v1,D,hu,y1,y2,y3,y4⟩:=(o2.none (N:=A.blk.length)).fin w2 r4 Ad9
   cases hu
   simp only[RT,Q0,Q1,Q2,Q3,Q4,Q5,Q6,Q7,Q8,DT (show(t.length:Int)>4096 by omega),o1,y1,y2]
   rw[hb2]
   exact⟨f12.ar y3 (by omega),y4⟩
 rw[if_neg q]
 obtain⟨_,A3,k3,f3,u3,v3,fo,rfl,h3,hv3,hn3⟩:=A77 (t:=t) w2 o2 hr ha (by omega) (by omega)
 obtain⟨z1,z2,z3,z4,z5⟩:=AC8 hr ha hk ht
 have f13:=f12.ab f3
 have w3:=f13.wf hw
 have hB3:=hB2.fr0 f3
 have r43:=f3.af r4
 obtain⟨cB,qB,lB⟩:=hB3.box
 obtain⟨A4,s1,_,s2,s3,_⟩:=h3.put w3 qB lB
 have f14:=f13.ar s2 (by omega)
 have w4:=s2.wf w3
 have r44:=s2.aq r43 (by omega)
 have hv4:=hv3.fr s2 (.box qB)
 obtain⟨s,hb,Z,hZ⟩:=s3
 have s3:CxZ (xo X fo) Z A4 b2 (c.a6 t).1:=⟨s,hb,hZ⟩
 have ld:=At4 hb ⟨Z,hZ⟩
 obtain⟨A5,e5,f5,r7,n5⟩:=Aa3 A4 rrZ.cs
 obtain⟨b7,hb7⟩:∃b,b=A4.blk.length:=⟨_,rfl⟩
 rw[<- hb7]at r7
 have l4:b4<b7:=by have:=Ab3 r44;omega
 have w5:=f5.wf w4
 obtain⟨_,A6,k6,f6,rfl⟩:=rId (s:=t) w5 (by omega)
 have w6:=f6.wf w5
 have ld6:=At4 ((f5.ab f6).af hb) (bW.fr0 ⟨Z,hZ⟩ (f5.ab f6))
 obtain⟨_,A7,k7,f7,u7,v7,fo7,rfl,h7,hv7,hn7⟩:=Bi4 (id:=az t) w6 (⟨_,_,_,_,_,rfl,(hZ.fr0 (f5.ab f6)).rr.fresh z3 ((f14.ab f5).ab f6).len⟩:RRs (xz (xo X fo) Z) A.blk.length A6 (c.a6 t).1.rd (.agg (s.rr (c.a6 t).1.rd))) z1 (Ab4 t) (by rw[z3];simp)
 obtain⟨y1,y2,y3⟩:=z1.bA (az t)
 rw[z3]at y2
 have f47:=(f5.ab f6).ab f7
 have w7:=f47.wf w4
 have r77:=f7.af (f6.af r7)
 obtain⟨A8,t1,t2,t3,t4⟩:=h7.fin w7 r77
 have w8:=t3.wf w7
 have hb8:CxZ (xo X fo) Z A8 b2 (c.a6 t).1:=(s3.fr0 f47).row w7 r77 t3 (by omega)
 obtain⟨c8,q8,_⟩:=hb8.cx.box
 obtain⟨A9,p1,p2,p3⟩:=hb8.nG w8 t4 fun f q=>(hn7 f q).1
 have w9:=p2.wf w8
 have f49:Fr S0 A A9:=((f14.ab f47).ar t3 (by omega)).ar p2 (by omega)
 have r49:=p2.aq (t3.aq (f47.af r44) (by omega)) (by omega)
 have hv9:=((hv4.fr0 f47).fr t3 (.box r77)).fr p2 (.box q8)
 have oK:=(hv7.fr t3 (.box r77)).fr p2 (.box q8)
 obtain⟨u9,o9,o10⟩:=p3.cx.out
 obtain⟨v10,B1,fo10,x1,x2,x3,x4⟩:=Bj2 w9 hv9 oK (by simp at y2;omega)
 have hT:Tch (xo (xo X fo) fo7) A9 (aI A9 fo):=Tch.lX fun f q=>.inl (.inr q)
 have o11:=o10.mv w9 x3 hT
 have wB1:=x3.wf w9
 obtain⟨c9,q9,_⟩:=p3.cx.box
 obtain⟨lB1,o11⟩:=Cm8 w9 p3.cx o9 o10 x3 hT
 have hfB1:Fr S0 A B1:=f49.eh hw x3 fun f q=>by have:=(hn3 f q).2;have:=f12.len;omega
 have hX1:∀f,xo (xo X fo) fo7 f->f<B1.blk.length:=fun f q=>Nat.lt_of_lt_of_le (q.elim (fun q=>q.elim (fun q=>Nat.lt_of_lt_of_le (hX f q) f49.len) (hv9.bO f)) (oK.bO f)) x3.len
 obtain⟨_,B2,m1,m2,hM⟩:=B47 (m:=dq B1) wB1 hX1 o11 y1 z4.rd (by have:=z5;show(c.a6 t).1.bat.length<=_;omega) (Ai2 B1) (x2.gK (fun b cs q=>by cases q)) (by rw[List.length_append];simp at y2;omega)
 have hM:=hM.sub (Y:=X) (N':=A.blk.length) (fun f q=>.inl (.inl q)) hfB1.len
 have rB4:=m2.af (x3.row _ _ r49 (Ab0 r49))
 obtain⟨u10,v11,D,rfl,d1,d2,d3,d4⟩:=hM.fin (m2.wf wB1) rB4 Ad9
 simp only[RT,Q0,Q1,Q2,Q3,Q4,Q5,Q6,Q7,Q8,DF (show ¬(t.length:Int)>4096 by omega),o1]
 refine Aa0 k3 ?_
 simp only[RT,Q0,Q1,Q2,Q3,Q4,Q5,Q6,Q7,Q8,s1]
 simp only[RT,Q0,Q1,Q2,Q3,Q4,Q5,Q6,Q7,Q8,Ce0,fa,ld,AI9,Aa1]
 simp only[RT,Q0,Q1,Q2,Q3,Q4,Q5,Q6,Q7,Q8,<- hb7,<- e5]
 refine Aa0 k6 ?_
 simp only[RT,Q0,Q1,Q2,Q3,Q4,Q5,Q6,Q7,Q8]
 refine⟨Aa5 (ha:=rfl) rfl ld6.2.2.2.2.2.2.2.2.2.2.2.2.1 rfl Aa1,?_⟩
 refine Aa0 k7 ?_
 simp only[RT,Q0,Q1,Q2,Q3,Q4,Q5,Q6,Q7,Q8,t1,Aa1,t2,fa,p1]
 simp only[RT,Q0,Q1,Q2,Q3,Q4,Q5,Q6,Q7,Q8,Ce1,o9,x1,Aa1]
 refine⟨Aa5 (ha:=rfl) rfl lB1 rfl Aa1,?_⟩
 refine Aa0 m1 ?_
 simp only[RT,Q0,Q1,Q2,Q3,Q4,Q5,Q6,Q7,Q8,d1,d2,Aa1]
 rw[hb2]
 exact⟨((hfB1.ab m2).ar d3 (by omega)),d4⟩
end
end Go.Sv.Tryz
namespace Go.Sv
def Co.fe(c:Co)(b:Bts):Co×List M :=
 if b.length>4096 then(c,[])else Co.act { (c.a6 b).1 with rd:={ (c.a6 b).1.rd with fresh:=az b } } (c.a6 b).2
end Go.Sv
namespace Go.Sv.Tryz
open Go Go.Proofs
section
variable {X Y Z:Nat->Prop} {A B C:AS} {c c':Co} {s:RcV} {w:V} {b:Nat} {r:Rd} {S:Loc->Prop} {fo fo2:Option Nat} {N N':Nat}
set_option maxRecDepth 10000 in
set_option maxHeartbeats 32000000 in
theorem Cm9(hw:WF A)(hX:∀f,X f->f<A.blk.length)(h:RCs X A c w)(hr:Rng c.rd)(ha:c.rd.al=[])(hk:eI c)(hl:c.bat.length<=10000):
 ∃u A',EvF TP HH 17 [w] A u A'/\Fr S0 A A'/\MOu X A.blk.length A' c.lZ u:=by
 refine Aa4 rfl Tryz.func17 (by unfold Tryz.f17;rfl) Tryz.ntmps17 (by unfold Tryz.f17;rfl) (by simp) ?_
 obtain⟨cs,rfl,A1,e1,f1,hB1⟩:=h.new
 obtain⟨b1,hb1⟩:∃b,b=A.blk.length:=⟨_,rfl⟩
 rw[<- hb1]at hB1
 obtain⟨A2,e2,f2,r2,n2⟩:=Aa3 A1 rcZ
 obtain⟨b2,hb2⟩:∃b,b=A1.blk.length:=⟨_,rfl⟩
 rw[<- hb2]at r2
 have l2:b1<b2:=by have:=hB1.lt;omega
 have f12:=f1.ab f2
 have w2:=f12.wf hw
 obtain⟨s,hb,Z,hZ⟩:=hB1.fr0 f2
 have s3:CxZ X Z A2 b1 c:=⟨s,hb,hZ⟩
 have fa:=Bf4 b1
 have ld:=At4 hb ⟨Z,hZ⟩
 obtain⟨_,A3,k3,f3,u3,v3,fo,rfl,h3,hv3,hn3⟩:=Bi4 (id:=z32) w2 (⟨_,_,_,_,_,rfl,hZ.rr.fresh ha f12.len⟩:RRs (xz X Z) A.blk.length A2 c.rd (.agg (s.rr c.rd))) hr Aa9 (by rw[ha];simp)
 obtain⟨y1,y2,y3⟩:=hr.bA z32
 rw[ha]at y2
 have w3:=f3.wf w2
 obtain⟨A4,e4,f4,r4,n4⟩:=Aa3 A3 rrZ.cs
 obtain⟨b4,hb4⟩:∃b,b=A3.blk.length:=⟨_,rfl⟩
 rw[<- hb4]at r4
 have l4:b2<b4:=by have:=Ab3 (f3.af r2);omega
 have w4:=f4.wf w3
 obtain⟨A5,t1,t2,t3,t4⟩:=(h3.fr0 f4).fin w4 r4
 have w5:=t3.wf w4
 have f24:=f3.ab f4
 have hb5:CxZ X Z A5 b1 c:=(s3.fr0 f24).row w4 r4 t3 (by omega)
 obtain⟨c8,q8,_⟩:=hb5.cx.box
 obtain⟨A6,p1,p2,p3⟩:=hb5.nG w5 t4 fun f q=>(hn3 f q).1
 have w6:=p2.wf w5
 have f16:Fr S0 A A6:=((f12.ab f24).ar t3 (by omega)).ar p2 (by omega)
 have r26:=p2.aq (t3.aq (f24.af r2) (by omega)) (by omega)
 have hv6:=((hv3.fr0 f4).fr t3 (.box r4)).fr p2 (.box q8)
 obtain⟨u9,o9,o10⟩:=p3.cx.out
 have hX1:∀f,xo X fo f->f<A6.blk.length:=fun f q=>q.elim (fun q=>Nat.lt_of_lt_of_le (hX f q) f16.len) (hv6.bO f)
 obtain⟨_,B2,m1,m2,hM⟩:=B47 (m:=dq A6) w6 hX1 o10 y1 hk.rd (by show c.bat.length<=_;omega) (Ai2 A6) (hv6.gK (fun b cs q=>by cases q)) (by simp at y2;omega)
 have hM:=hM.sub (Y:=X) (N':=A.blk.length) (fun f q=>.inl q) f16.len
 obtain⟨u10,v11,D,rfl,d1,d2,d3,d4⟩:=hM.fin (m2.wf w6) (m2.af r26) Ad9
 simp only[RT,Q0,Q1,Q2,Q3,Q4,Q5,Q6,Q7,Q8,<- e1,<- hb1]
 simp only[RT,Q0,Q1,Q2,Q3,Q4,Q5,Q6,Q7,Q8,Bc5,<- hb2,<- e2,fa,ld,Ad8]
 refine Aa0 k3 ?_
 simp only[RT,Q0,Q1,Q2,Q3,Q4,Q5,Q6,Q7,Q8,AI9]
 simp only[RT,Q0,Q1,Q2,Q3,Q4,Q5,Q6,Q7,Q8,<- hb4,<- e4,t1,t2,fa,p1,o9]
 refine Aa0 m1 ?_
 simp only[RT,Q0,Q1,Q2,Q3,Q4,Q5,Q6,Q7,Q8,d1,d2]
 rw[hb1]
 exact⟨(f16.ab m2).ar d3 (by omega),d4⟩
set_option maxRecDepth 10000 in
set_option maxHeartbeats 32000000 in
theorem Bv0{t:Bts}(hw:WF A)(hX:∀f,X f->f<A.blk.length)(h:RCs X A c w)(hr:Rng c.rd)(ha:c.rd.al=[])(hk:eI c)(hl:c.bat.length<=10000)(ht:t.length<=1000000):
 ∃u A',EvF TP HH 19 [w,.str t] A u A'/\Fr S0 A A'/\MOu X A.blk.length A' (c.fe t) u:=by
 refine Aa4 rfl Tryz.func19 (by unfold Tryz.f19;rfl) Tryz.ntmps19 (by unfold Tryz.f19;rfl) (by simp) ?_
 obtain⟨cs,rfl,A1,e1,f1,hB1⟩:=h.new
 obtain⟨b2,hb2⟩:∃b,b=A.blk.length:=⟨_,rfl⟩
 rw[<- hb2]at hB1
 obtain⟨A2,e2,f2,r4,n2⟩:=Aa3 A1 rcZ
 obtain⟨b4,hb4⟩:∃b,b=A1.blk.length:=⟨_,rfl⟩
 rw[<- hb4]at r4
 have l2:b2<b4:=by have:=hB1.lt;omega
 have f12:=f1.ab f2
 have w2:=f12.wf hw
 have hB2:=hB1.fr0 f2
 obtain⟨u,o1,o2⟩:=hB2.out
 have fa:=Bf4 b2
 have fr:=AJ1 b2
 have els:=As1 (P:=TP) Tryz.underlying9
 unfold Co.fe
 simp only[RT,Q0,Q1,Q2,Q3,Q4,Q5,Q6,Q7,Q8,<- e1,<- hb2]
 simp only[RT,Q0,Q1,Q2,Q3,Q4,Q5,Q6,Q7,Q8,Bc5,<- hb4,<- e2,els]
 by_cases q:t.length>4096
 . rw[if_pos q]
   obtain⟨u1,v1,D,hu,y1,y2,y3,y4⟩:=(o2.none (N:=A.blk.length)).fin w2 r4 Ad9
   cases hu
   simp only[RT,Q0,Q1,Q2,Q3,Q4,Q5,Q6,Q7,Q8,DT (show(t.length:Int)>4096 by omega),o1,y1,y2]
   rw[hb2]
   exact⟨f12.ar y3 (by omega),y4⟩
 rw[if_neg q]
 obtain⟨_,A3,k3,f3,u3,v3,fo,rfl,h3,hv3,hn3⟩:=A77 (t:=t) w2 o2 hr ha (by omega) (by omega)
 obtain⟨z1,z2,z3,z4,z5⟩:=AC8 hr ha hk ht
 have f13:=f12.ab f3
 have w3:=f13.wf hw
 have hB3:=hB2.fr0 f3
 obtain⟨cB,qB,lB⟩:=hB3.box
 obtain⟨A4,s1,_,s2,s3,_⟩:=h3.put w3 qB lB
 have f14:=f13.ar s2 (by omega)
 have w4:=s2.wf w3
 have r44:=s2.aq (f3.af r4) (by omega)
 have hv4:=hv3.fr s2 (.box qB)
 obtain⟨Z,s3⟩:=s3.z
 obtain⟨_,A6,k6,f6,rfl⟩:=rId (s:=t) w4 (by omega)
 have w6:=f6.wf w4
 have c6:=s3.fr0 f6
 obtain⟨c8,q8,_⟩:=c6.cx.box
 obtain⟨A7,p1,p2,p3⟩:=c6.ny w6 (Ab4 t)
 have w7:=p2.wf w6
 have f17:Fr S0 A A7:=(f14.ab f6).ar p2 (by omega)
 have r47:=p2.aq (f6.af r44) (by omega)
 have hv7:=(hv4.fr0 f6).fr p2 (.box q8)
 obtain⟨u9,o9,o10⟩:=p3.cx.out
 have hX1:∀f,xo X fo f->f<A7.blk.length:=fun f q=>q.elim (fun q=>Nat.lt_of_lt_of_le (hX f q) f17.len) (hv7.bO f)
 obtain⟨_,B2,m1,m2,hM⟩:=B47 (m:=dq A7) w7 hX1 o10 ({ z1 with }:Rng { (c.a6 t).1.rd with fresh:=az t }) z4.rd (by have:=z5;show(c.a6 t).1.bat.length<=_;omega) (Ai2 A7) (hv7.gK (fun b cs q=>by cases q)) (by omega)
 have hM:=hM.sub (Y:=X) (N':=A.blk.length) (fun f q=>.inl q) f17.len
 obtain⟨u10,v11,D,rfl,d1,d2,d3,d4⟩:=hM.fin (m2.wf w7) (m2.af r47) Ad9
 simp only[RT,Q0,Q1,Q2,Q3,Q4,Q5,Q6,Q7,Q8,DF (show ¬(t.length:Int)>4096 by omega),o1]
 refine Aa0 k3 ?_
 simp only[RT,Q0,Q1,Q2,Q3,Q4,Q5,Q6,Q7,Q8,s1]
 refine Aa0 k6 ?_
 simp only[RT,Q0,Q1,Q2,Q3,Q4,Q5,Q6,Q7,Q8,fa,fr,p1,o9]
 refine Aa0 m1 ?_
 simp only[RT,Q0,Q1,Q2,Q3,Q4,Q5,Q6,Q7,Q8,d1,d2]
 rw[hb2]
 exact⟨(f17.ab m2).ar d3 (by omega),d4⟩
end
end Go.Sv.Tryz
namespace Go.Sv.Tryz
open Go Go.Proofs
section
variable {X Y Z:Nat->Prop} {A B C:AS} {c c':Co} {s:RcV} {w:V} {b:Nat} {r:Rd} {S:Loc->Prop} {fo fo2:Option Nat} {N N':Nat}
theorem BG9:au TP 41 []=some (.agg rcZ):=by kernel_rfl
theorem B48(g:Nat->V):au TP 41 [(0,.agg ((List.range 108).map g))]=some (.agg ((List.range 108).map g++[.ah,.ah,.ah,.str [],.bool false])):=by kernel_rfl
theorem Cn0{cs:List V}(h:cs.length=108):au TP 41 [(0,.agg cs)]=some (.agg (cs++[.ah,.ah,.ah,.str [],.bool false])):=by
 obtain⟨g,rfl⟩:=Ac3 h
 exact B48 g
theorem rc0{n me:Nat}{h:Int}{cs:List V}(hc:RRs X N A (rd0 n me h) (.agg cs)):RCs X A (co0 n me h) (.agg (cs++[.ah,.ah,.ah,.str [],.bool false]))/\cs.length=108:=by
 obtain⟨ov,kv,vv,tv,av,e,hI⟩:=hc
 cases e
 refine⟨⟨⟨ov,kv,vv,tv,av,.ah,.ah,.ah⟩,rfl,fun _=>False,(hI.lower (Nat.zero_le _)).sub fun f q=>q.elim id False.elim,.inl ⟨rfl,rfl⟩,(fun x q=>by cases q),.inl ⟨rfl,rfl⟩,.inl ⟨rfl,rfl⟩⟩,RrV.len hI.ok⟩
theorem Bj3:rcZ.all V.one=true:=by kernel_rfl
set_option maxRecDepth 10000 in
set_option maxHeartbeats 16000000 in
theorem B49{n me h:Int}(hw:WF A)(hX:∀f,X f->f<A.blk.length):∃u A',EvF TP HH 6 [.int .i64 n,.int .i64 me,.int .i64 h] A u A'/\Fr S0 A A'/\((¬(((n=1∨n=4∨n=7)/\0<=me/\me<n/\0<=h)/\h<=1099511627776)/\u=.tup [.agg rcZ,.int .i64 1])∨∃m i:Nat,n=m/\me=i/\okN m/\i<m/\0<=h/\h<=1099511627776/\∃u1,u=.tup [u1,.int .i64 0]/\RCs X A' (co0 m i h) u1):=by
 refine Aa4 rfl Tryz.func6 (by unfold Tryz.f6;rfl) Tryz.ntmps6 (by unfold Tryz.f6;rfl) (by simp) ?_
 obtain⟨A1,e1,f1,r6,n1⟩:=Aa3 A rcZ
 obtain⟨b6,hb6⟩:∃b,b=A.blk.length:=⟨_,rfl⟩
 rw[<- hb6]at r6
 have w1:=f1.wf hw
 have zst:∀{B:AS},B.blk[b6]?=some ⟨rcZ,.var⟩->∃C,ag TP 41 (.ptr b6 0) (.agg rcZ) B=some C/\aa TP 41 (.ptr b6 0) C=some (.agg rcZ)/\Fr (·=.row b6) B C:=fun {B} hb=>by
  obtain⟨C,s1,s2,s3,s4⟩:=Ab1 (P:=TP) (t:=41) (o:=0) (x:=.agg rcZ) (cs:=rcZ) hb rfl (by rw[Ad9];exact BI0) (by rw[Ad9];omega) Bj3
  have e:putAt rcZ 0 rcZ=rcZ:=by
   unfold putAt
   rw[Nat.zero_add,List.drop_eq_nil_of_le (Nat.le_refl _)];simp
  rw[e]at s3
  exact⟨C,s1,At.load s3 (.all _) Ce3 BI0 Ad9,s2⟩
 by_cases q:h>1099511627776
 . obtain⟨C,s1,s2,s3⟩:=zst r6
   simp only[RT,Q0,Q1,Q2,Q3,Q4,Q5,Q6,Q7,Q8,Bc5,<- hb6,<- e1,DT q,BG9,s1,s2]
   exact⟨f1.ar s3 (by omega),.inl fun z=>by omega⟩
 obtain⟨_,A2,k2,f2,hN⟩:=Cz4 (X:=X) (N:=0) (n:=n) (me:=me) (h:=h) w1 (fun f q=>Nat.lt_of_lt_of_le (hX f q) f1.len) (Nat.zero_le _)
 have w2:=f2.wf w1
 have r62:=f2.af r6
 obtain⟨A3,e3,f3,r8,n3⟩:=Aa3 A2 rrZ.cs
 obtain⟨b8,hb8⟩:∃b,b=A2.blk.length:=⟨_,rfl⟩
 rw[<- hb8]at r8
 have w3:=f3.wf w2
 have l8:b6<b8:=by have:=Ab3 r62;omega
 simp only[RT,Q0,Q1,Q2,Q3,Q4,Q5,Q6,Q7,Q8,Bc5,<- hb6,<- e1,DF q]
 refine Aa0 k2 ?_
 rcases hN with⟨sP,rfl⟩ |⟨m,i,rfl,rfl,hm,hi,h0,u1,rfl,hR⟩
 . obtain⟨A4,t1,t2,t3⟩:=AT8 r8 AA7 AA7
   obtain⟨C,s1,s2,s3⟩:=zst (t2.aq (f3.af r62) (by omega))
   simp only[RT,Q0,Q1,Q2,Q3,Q4,Q5,Q6,Q7,Q8,AI9]
   simp only[RT,Q0,Q1,Q2,Q3,Q4,Q5,Q6,Q7,Q8,<- hb8,<- e3,t1,BG9,s1,s2]
   exact⟨(((f1.ab f2).ab f3).ar t2 (by omega)).ar s3 (by omega),.inl fun z=>sP z.1⟩
 . obtain⟨A4,t1,t2,t3,t4⟩:=(hR.fr0 f3).fin w3 r8
   obtain⟨ov,kv,vv,tv,av,rfl,hI⟩:=t4
   obtain⟨c1,c2⟩:=rc0 (⟨ov,kv,vv,tv,av,rfl,hI⟩:RRs X 0 A4 (rd0 m i h) _)
   obtain⟨A5,v1,v2,v3,_,v4⟩:=c1.put (t3.wf w3) (t3.aq (f3.af r62) (by omega)) Ad9
   simp only[RT,Q0,Q1,Q2,Q3,Q4,Q5,Q6,Q7,Q8,AI9]
   simp only[RT,Q0,Q1,Q2,Q3,Q4,Q5,Q6,Q7,Q8,<- hb8,<- e3,t1,t2,Cn0 c2,v1,v2]
   exact⟨(((f1.ab f2).ab f3).ar t3 (by omega)).ar v3 (by omega),.inr ⟨m,i,rfl,rfl,hm,hi,h0,by omega,_,rfl,v4⟩⟩
end
end Go.Sv.Tryz
namespace Go.Sv
open Go
def Co.fy(w:Int)(ids:List Bts)(s:Co×List Act)(i:Nat):Co×List Act :=
 if (ids[i]?).getD z32=z32∨dN s.1.rd.n s.1.rd.v ((i/2:Nat):Int) ((i%2:Nat):Int) w≠z32 then s
 else({ s.1 with rd:=(s.1.rd.dm ((i/2:Nat):Int) ((i%2:Nat):Int) w ((ids[i]?).getD z32)).1 },s.2++(s.1.rd.dm ((i/2:Nat):Int) ((i%2:Nat):Int) w ((ids[i]?).getD z32)).2)
theorem CB2{P:Program}{kt:TypeId}(hs:bT P 50 kt=some [.int .i64])(ha:aH P kt=some false):lW P kt mU where
 ok:=fun k es h=>by
  unfold gj
  simp only[hs,ha,mU]
  rw[Bool.and_eq_true,Bool.and_eq_true]
  refine⟨⟨rfl,AA2 fun e he=>?_⟩,List.all_eq_true.2 fun e he=>?_⟩
  . obtain⟨a,q⟩:=h e he;rw[q];rfl
  . obtain⟨a,q⟩:=h e he;rw[q];rfl
 eq:=fun a b=>by
  show(IntKind.i64 == IntKind.i64 && a == b)=_
  by_cases h:a=b<;>simp[h]
def Co.cf(c:Co)(w:Int)(ids:List Bts)(i:Nat):Co×List Act:=(List.range i).foldl (Co.fy w ids) (c,[])
def Co.eK(c:Co)(w:Int)(ids:List Bts):Co×List Act:=c.cf w ids (min ids.length 24)
def Co.nK(c:Co)(x:M):Co×List Act :=
 ({ (c.a6 x.data).1 with rd:=((c.a6 x.data).1.rd.bZ x.round x.valid (az x.data)).1 },(c.a6 x.data).2++((c.a6 x.data).1.rd.bZ x.round x.valid (az x.data)).2)
def Co.ks(c:Co)(w:Int)(x:M):Co×List Act:=Co.a6 { c with cG:=c.cG++[w] } x.data
def Co.deaf(c:Co)(w:Int)(x:M):Prop:=x.ai≠c.rd.ai∨w<0∨w>=c.rd.n∨w=c.rd.me∨x.data.length>4096
instance (c:Co) (w:Int) (x:M):Decidable (c.deaf w x):=by unfold Co.deaf;infer_instance
def Co.nL(c:Co)(w:Int)(x:M):Prop:=x.round<0∨x.round>=12∨aP c.rd.n c.rd.ai x.round≠w∨(eZ c.rd x.round).there=true
instance (c:Co) (w:Int) (x:M):Decidable (c.nL w x):=by unfold Co.nL;infer_instance
def Co.kG(c:Co)(w:Int)(x:M):Co×List M :=
 if c.deaf w x then(c,[])
 else if x.kind=3 then(if c.nL w x then(c,[])else(c.nK x).1.act (c.nK x).2)
 else if x.kind=4 then(c.eK w x.ids).1.act (c.eK w x.ids).2
 else if x.kind=5 then(if w∈c.cG then(c,[])else(c.ks w x).1.act (c.ks w x).2)
 else c.act []
end Go.Sv
namespace Go.Sv.Tryz
open Go Go.Proofs
section
variable {r:Rd}
theorem Rng.bZ(h:Rng r)(R v:Int)(id:Bts):Rng (r.bZ R v id).1/\(r.bZ R v id).2.length<=r.al.length+2000/\(r.bZ R v id).1.al=[]:=by
 unfold Rd.bZ
 split
 . rename_i q
   have k:Rng { r with offers:=fM r.offers R.toNat ⟨true,v,id⟩ }:={ h with offers:=An2 h.offers ⟨q.2.2.1,by show v<=1000;have:=q.2.1;have:=q.2.2.2.1;omega⟩ }
   exact⟨k.settle,k.ib,rfl⟩
 . exact⟨h.settle,h.ib,rfl⟩
theorem Rng.dm(h:Rng r)(R K W:Int)(id:Bts):Rng (r.dm R K W id).1/\(r.dm R K W id).2.length<=r.al.length+2000/\(r.dm R K W id).1.al=[]:=by
 unfold Rd.dm
 split
 . have k:Rng { r with v:=dG r.n r.v R K W id }:={ h with }
   exact⟨k.settle,k.ib,rfl⟩
 . exact⟨h.settle,h.ib,rfl⟩
end
section
variable {X Y:Nat->Prop} {A B C:AS} {K:CoK} {c c1 c2:Co} {fk ft fk1 ft1 fk2 ft2 fo fo2:Option Nat}
theorem Cv4(i:Nat)(hi:i<=1000000):aw TP .quo 3 (.int .i64 (i:Int)) (.int .i64 2)=some (.int .i64 ((i/2:Nat):Int)):=by
 rw[As2,if_neg (by omega)]
 have:(i:Int).tdiv 2=((i/2:Nat):Int):=rfl
 rw[this,Ac6 (by omega) (by omega)]
theorem Cv5(i:Nat):aw TP .rem 3 (.int .i64 (i:Int)) (.int .i64 2)=some (.int .i64 ((i%2:Nat):Int)):=by
 rw[Al8,if_neg (by omega)];rfl
theorem B50:lW TP 3 mU:=CB2 (by kernel_rfl) ag3
theorem BH0:ia TP 73=some (3,4):=by kernel_rfl
theorem Cn1:aC TP 4=some (.bool false):=by kernel_rfl
theorem B51(g:Nat->V)(b:Bool)(v:Int):gM TP 94 (.agg (.bool b::.int .i64 v::(List.range 32).map g)) 0=some (.bool b):=by kernel_rfl
theorem B52{o:Ofr}(h:o.id.length=32):gM TP 94 (.agg (cR o)) 0=some (.bool o.there):=by
 obtain⟨g,hg⟩:=Ac3 (l:=bc o.id) (n:=32) (by rw[Aa7,h])
 unfold cR;rw[hg];exact B51 g _ _
theorem AF8(w:Int):∀l:List Int,aQ (l.map fun w=>(w,true)) w=if w∈l then some true else none
 |[]=>rfl
 |a::l=>by
  show(if w=a then some true else aQ (l.map fun w=>(w,true)) w)=_
  by_cases q:w=a
  . rw[if_pos q,if_pos (by simp[q])]
  . rw[if_neg q,AF8 w l];simp[q]
theorem bV.cG(hw:WF A)(h:bV X A K fk ft c){w:Int}(hn:¬w∈c.cG):∃A',aZ TP 73 (.map K.mg) (.int .i64 w) (.bool true) A=some A'/\aA X A K fk ft A' fk ft none { c with cG:=c.cG++[w] }:=by
 obtain⟨tv,dv,bl,x1,x2,x3,x4,x5,x6⟩:=h.cm.ex
 obtain⟨A',k1,k2,k3⟩:=h.cm.gv.put (P:=TP) B50 BH0 (k:=w) true (by rw[AF8,if_neg hn])
 refine⟨A',k1,h.mB (c1:={ c with cG:=c.cG++[w] }) hw k2 (fun x q=>by subst q;exact .inr rfl) .da rfl (fun Y hle=>⟨⟨tv,dv,bl,k2.row _ _ x1 (fun q=>by cases q),x2.fr k2 (fun b q=>by cases q),x3.fr k2 (fun q=>h.cm.mm (by injection q)),x4,fun p q=>⟨(x5 p q).1.mono hle,(x5 p q).2⟩,x6.mono hle⟩,?_,h.cm.mm⟩) { h.lim with } (fun f q=>Nat.lt_of_lt_of_le (x2.bO f q) k2.len)⟩
 show ee A' K.mg mU V.bool ((c.cG++[w]).map fun w=>(w,true))
 rw[List.map_append];exact k3
theorem Az0(c:Co)(w:Int)(ids:List Bts)(i:Nat):c.cf w ids (i+1)=Co.fy w ids (c.cf w ids i) i:=by
 unfold Co.cf;rw[List.range_succ,List.foldl_append];rfl
set_option maxRecDepth 10000 in
set_option maxHeartbeats 32000000 in
theorem Bj4{x:M}{dv iv lv:V}{w:Int}(hw:WF A)(h:bV X A K fk ft c)(hx:cw (qHp X A) x dv iv lv)(hil:x.ids.length<=1000000)(hdl:x.data.length<=1000000000):
 ∃u A',EvF TP HH 10 [.ptr K.cb 0,.int .i64 w,.agg (mc x dv iv lv)] A u A'/\iG X A K fk ft A' (c.kG w x) u:=by
 refine Aa4 rfl Tryz.func10 (by unfold Tryz.f10;rfl) Tryz.ntmps10 (by unfold Tryz.f10;rfl) (by simp) ?_
 obtain⟨A1,e1,f1,r1,n1⟩:=Aa3 A (mc x dv iv lv)
 obtain⟨b5,hb5⟩:∃b,b=A.blk.length:=⟨_,rfl⟩
 rw[<- hb5]at r1 n1
 have h1:=h.fr0 f1
 have w1:=f1.wf hw
 obtain⟨tv,dv0,bl,y1,_⟩:=h1.cm.ex
 have ld:=Ap2 y1
 have lm:=ldM r1 hx.id
 have fm:=faM b5
 have hln:=fun B=>hx.data.len (P:=TP) Tryz.underlying45 B
 have hx1:=hx.mono (Ac8 f1)
 unfold Co.kG
 simp only[RT,Q0,Q1,Q2,Q3,Q4,Q5,Q6,Q7,Q8,<- hb5,<- e1]
 rw[BR8,Aa2 (by rfl)]
 by_cases q1:x.ai=c.rd.ai
 rotate_left
 . simp only[RT,Q0,Q1,Q2,Q3,Q4,Q5,Q6,Q7,Q8,fm,lm,An0 K.cb,ld,DT (show ¬x.ai=c.rd.ai from q1)]
   rw[if_pos (.inl q1)]
   exact .nil h f1
 by_cases q2:w<0
 . simp only[RT,Q0,Q1,Q2,Q3,Q4,Q5,Q6,Q7,Q8,fm,lm,An0 K.cb,ld,DF (show ¬ ¬x.ai=c.rd.ai from fun z=>z q1),DT q2]
   rw[if_pos (.inr (.inl q2))]
   exact .nil h f1
 by_cases q3:w>=c.rd.n
 . simp only[RT,Q0,Q1,Q2,Q3,Q4,Q5,Q6,Q7,Q8,fm,lm,An0 K.cb,ld,DF (show ¬ ¬x.ai=c.rd.ai from fun z=>z q1),DF q2,DT q3]
   rw[if_pos (.inr (.inr (.inl q3)))]
   exact .nil h f1
 by_cases q4:w=c.rd.me
 . simp only[RT,Q0,Q1,Q2,Q3,Q4,Q5,Q6,Q7,Q8,fm,lm,An0 K.cb,ld,DF (show ¬ ¬x.ai=c.rd.ai from fun z=>z q1),DF q2,DF q3,DT q4]
   rw[if_pos (.inr (.inr (.inr (.inl q4))))]
   exact .nil h f1
 by_cases q5:x.data.length>4096
 . simp only[RT,Q0,Q1,Q2,Q3,Q4,Q5,Q6,Q7,Q8,fm,lm,An0 K.cb,ld,DF (show ¬ ¬x.ai=c.rd.ai from fun z=>z q1),DF q2,DF q3,DF q4,hln,DT (show(x.data.length:Int)>4096 by omega)]
   rw[if_pos (.inr (.inr (.inr (.inr q5))))]
   exact .nil h f1
 simp only[RT,Q0,Q1,Q2,Q3,Q4,Q5,Q6,Q7,Q8,fm,lm,An0 K.cb,ld,DF (show ¬ ¬x.ai=c.rd.ai from fun z=>z q1),DF q2,DF q3,DF q4,hln,DF (show ¬(x.data.length:Int)>4096 by omega)]
 rw[if_neg (show ¬c.deaf w x from fun z=>by
  rcases z with z |z |z |z |z
  . exact z q1
  . exact q2 z
  . exact q3 z
  . exact q4 z
  . exact q5 z)]
 by_cases k3:x.kind=3
 . rw[if_pos k3]
   have hn:(c.rd.n:Int)<=7/\(0:Int)<=c.rd.n:=by have:=h.rd.cnt.ok;unfold okN at this;omega
   simp only[RT,Q0,Q1,Q2,Q3,Q4,Q5,Q6,Q7,Q8,DT k3]
   by_cases p1:x.round<0
   . simp only[RT,Q0,Q1,Q2,Q3,Q4,Q5,Q6,Q7,Q8,A53,Aa1,fm,lm,DT p1]
     rw[if_pos (.inl p1)]
     exact .nil h f1
   by_cases p2:x.round>=12
   . simp only[RT,Q0,Q1,Q2,Q3,Q4,Q5,Q6,Q7,Q8,A53,Aa1,fm,lm,DF p1,DT p2]
     rw[if_pos (.inr (.inl p2))]
     exact .nil h f1
   obtain⟨_,A1',z1,z2,rfl⟩:=Ap6 (A:=A1) (n:=c.rd.n) (h:=c.rd.ai) (k:=x.round) hn.1 hn.2 (by have:=h.rng.ai;omega) h.rng.ai.2 (by omega) (by omega)
   rw[z2]at z1
   simp only[RT,Q0,Q1,Q2,Q3,Q4,Q5,Q6,Q7,Q8,A53,fm,lm,DF p1,DF p2,An0 K.cb,ld,Aa1]
   refine Aa0 z1 ?_
   by_cases p3:aP c.rd.n c.rd.ai x.round=w
   rotate_left
   . simp only[RT,Q0,Q1,Q2,Q3,Q4,Q5,Q6,Q7,Q8,DT (show ¬aP c.rd.n c.rd.ai x.round=w from p3),Aa1]
     rw[if_pos (.inr (.inr (.inl p3)))]
     exact .nil h f1
   obtain⟨_,A2,m1,m2,rfl⟩:=AF2 w1 h1.rd x.round
   have h2:=h1.fr0 m2
   have w2:=m2.wf w1
   have fA2:=f1.ab m2
   have lm2:=ldM (m2.af r1) hx.id
   have ld2:=Ap2 (m2.af y1)
   simp only[RT,Q0,Q1,Q2,Q3,Q4,Q5,Q6,Q7,Q8,DF (show ¬ ¬aP c.rd.n c.rd.ai x.round=w from fun z=>z p3),Aa1,An0 K.cb,ld,fm,lm]
   refine Aa0 m1 ?_
   cases p4:(eZ c.rd x.round).there with
   |true =>
    simp only[RT,Q0,Q1,Q2,Q3,Q4,Q5,Q6,Q7,Q8,B52 (AC6 h.rd.ok x.round),p4,Aa1]
    rw[if_pos (.inr (.inr (.inr p4)))]
    exact .nil h fA2
   |false =>
    rw[if_neg (show ¬c.nL w x from fun z=>by
     rcases z with z |z |z |z
     . exact p1 z
     . exact p2 z
     . exact z p3
     . rw[p4]at z;cases z)]
    have hx2:=hx1.mono (Ac8 m2)
    obtain⟨u3,A3,s1,fk3,fo3,s2,s3⟩:=As5 w2 h2 (Ab5 X A2) hx2.data (by omega)
    have w3:=s2.wf w2
    have r3:=s2.fr.row _ _ (m2.af r1) (TM.box (m2.af r1) (by have:=h.lt;omega))
    have lm3:=ldM r3 hx.id
    obtain⟨tv3,dv3,bl3,y3,_⟩:=s2.co.cm.ex
    have ld3:=Ap2 y3
    obtain⟨_,A4,t1,t2,rfl⟩:=AF1 w3 (Ab5 _ A3) (hx2.data.mono s2.le) (by omega)
    have s4:=s2.ab t2
    have w4:=s4.wf w2
    have lm4:=ldM (t2.af r3) hx.id
    have ld4:=Ap2 (t2.af y3)
    have hr:=s4.co.rng
    obtain⟨u5,A5,v1,v2⟩:=AU4 w4 s4.co.rd hr (by rw[s4.co.al];simp) (R:=x.round) (val:=x.valid) (Ab4 x.data)
    have hO:=hr.bZ x.round x.valid (az x.data)
    rw[s4.co.al]at hO
    obtain⟨fk5,fo5,o1,o2⟩:=s4.co.lK w4 v2 (Bc3 _ _ _ _) hO.1 hO.2.2
    have hll:(c.a6 x.data).2.length<=2000:=by
     have:=(h.rng.fX (az x.data)).2.1
     rw[h.al]at this;exact this
    have hl2:((c.a6 x.data).1.rd.bZ x.round x.valid (az x.data)).2.length<=2000:=hO.2.1
    obtain⟨u6,A6,fo6,j1,j2,j3⟩:=s4.more w2 (s3.fr0 t2) o1 o2 (by omega)
    obtain⟨u7,A7,j4,j5⟩:=j2.act w2 j3 (by rw[List.length_append];omega)
    simp only[RT,Q0,Q1,Q2,Q3,Q4,Q5,Q6,Q7,Q8,B52 (AC6 h.rd.ok x.round),p4,Aa1,BR9,fm,lm2,An0 K.cb,ld2]
    refine Aa0 s1 ?_
    simp only[RT,Q0,Q1,Q2,Q3,Q4,Q5,Q6,Q7,Q8,Aa1]
    refine⟨Aa5 (ha:=rfl) rfl ld3.1 rfl (Aa5 (ha:=rfl) rfl lm3.2.2.2.1 rfl (Aa5 (ha:=rfl) rfl lm3.2.2.2.2.1 rfl (Aa5 (ha:=rfl) rfl lm3.2.2.2.2.2.2.2.1 rfl Aa1))),?_⟩
    refine Aa0 t1 ?_
    simp only[RT,Q0,Q1,Q2,Q3,Q4,Q5,Q6,Q7,Q8,Aa1]
    refine⟨Aa5 (ha:=rfl) rfl ld4.1 rfl (Aa5 (ha:=rfl) rfl lm4.2.2.2.1 rfl (Aa5 (ha:=rfl) rfl lm4.2.2.2.2.1 rfl Aa1)),?_⟩
    refine Aa0 v1 ?_
    simp only[RT,Q0,Q1,Q2,Q3,Q4,Q5,Q6,Q7,Q8,Aa1,j1]
    refine Aa0 j4 ?_
    simp only[RT,Q0,Q1,Q2,Q3,Q4,Q5,Q6,Q7,Q8]
    exact j5.br hw fA2
 rw[if_neg k3]
 by_cases k4:x.kind=4
 . rw[if_pos k4]
   have sQ:=fun B=>hx.ids.len (P:=TP) Tryz.underlying32 B
   simp only[RT,Q0,Q1,Q2,Q3,Q4,Q5,Q6,Q7,Q8,DF k3,DT k4,fm,lm,sQ]
   have hS1:aA X A K fk ft A1 fk ft none c:=.of0 h f1
   refine Aa6 (fun z e B=>∃(i:Nat) (u:V) (fk' fo:Option Nat),z=x.ids.length-i/\i<=x.ids.length/\i<=24/\e.get 102=.int .i64 i/\aA X A K fk ft B fk' ft fo (c.cf w x.ids i).1/\Lst dp Hp.emp B u (c.cf w x.ids i).2 fo/\(c.cf w x.ids i).2.length<=2000*i/\e.get 0=.ptr K.cb 0/\e.get 1=.int .i64 w/\e.get 7=u/\e.get 100=iv/\e.get 101=.int .i64 x.ids.length)
    (fun z e B=>Is z (.exit 1)/\∃(u:V) (fk' fo:Option Nat),aA X A K fk ft B fk' ft fo (c.eK w x.ids).1/\Lst dp Hp.emp B u (c.eK w x.ids).2 fo/\(c.eK w x.ids).2.length<=48000/\e.get 0=.ptr K.cb 0/\e.get 7=u)
    ⟨_,0,.ah,fk,none,rfl,by omega,by omega,rfl,hS1,.nil,by simp[Co.cf],rfl,rfl,rfl,rfl,rfl⟩ ?_ ?_
   rotate_left
   . rintro z e B hz ⟨rfl,u,fk',fo,hS,hL,hl,h0,h7⟩
     obtain⟨u7,A7,j4,j5⟩:=hS.act hw hL (by omega)
     simp only[RT,Q0,Q1,Q2,Q3,Q4,Q5,Q6,Q7,Q8,h0,h7]
     refine Aa0 j4 ?_
     simp only[RT,Q0,Q1,Q2,Q3,Q4,Q5,Q6,Q7,Q8]
     exact j5
   rintro z e B ⟨i,u,fk',fo,rfl,hi,sR,nM,hS,hL,hl,h0,h1',h7,sS,sT⟩
   simp only[RT,Q0,Q1,Q2,Q3,Q4,Q5,Q6,Q7,Q8,sT,nM]
   refine Aa8 (fun g1=>?_) (fun g1=>?_)
   rotate_left
   . have:i=x.ids.length:=by omega
     subst this
     have e:c.eK w x.ids=c.cf w x.ids x.ids.length:=by unfold Co.eK;rw[Nat.min_eq_left (by omega)]
     rw[<- e]at hS hL hl
     have hl2:(c.eK w x.ids).2.length<=48000:=by omega
     simp only[RT,Q0,Q1,Q2,Q3,Q4,Q5,Q6,Q7,Q8]
     refine⟨rfl,u,fk',fo,?_⟩
     and_intros<;>first |rfl |assumption
   obtain⟨id,hid⟩:=Ac7 (l:=x.ids) (i:=i) (by omega)
   have hgd:(x.ids[i]?).getD z32=id:=by rw[hid];rfl
   have wB:=hS.wf hw
   have hxB:=hx.ids.mono hS.le
   obtain⟨b2,o2,c2,g3,g4,g5⟩:=hxB.at (P:=TP) (k:=.i64) (Ab5 _ B) Tryz.underlying32 Ap3 Av4 hid
   obtain⟨rfl,dt⟩:=Bf8.1 g5
   obtain⟨E,e1,e2,e3⟩:=BX9 (A:=B) id dt
   have hSE:=hS.ab e2
   have wE:=e2.wf wB
   have hLE:=hL.fr0 e2
   have hwr:IntKind.i64.wrap ((i:Int)+1)=((i+1:Nat):Int):=by rw[Ac2 (by omega)]
   have em:=Az0 c w x.ids i
   obtain⟨s,hs⟩:∃s,s=c.cf w x.ids i:=⟨_,rfl⟩
   have e24:i=24->c.eK w x.ids=s:=fun q=>by rw[hs];unfold Co.eK;rw[Nat.min_eq_right (by omega),q]
   rw[<- hs]at hSE hLE hl em
   clear hS hL
   simp only[RT,Q0,Q1,Q2,Q3,Q4,Q5,Q6,Q7,Q8,sS,nM,g3,g4,Av8,e1]
   by_cases c24:i>=24
   . simp only[RT,Q0,Q1,Q2,Q3,Q4,Q5,Q6,Q7,Q8,DT (show(i:Int)>=24 by omega)]
     have hl2:s.2.length<=48000:=by omega
     rw[e24 (by omega)]
     refine⟨rfl,u,fk',fo,?_⟩
     and_intros<;>first |rfl |assumption
   have l3:=ldI e3 dt
   by_cases cz:id=z32
   . simp only[RT,Q0,Q1,Q2,Q3,Q4,Q5,Q6,Q7,Q8,DF (show ¬(i:Int)>=24 by omega),l3,Ad8,eqZ dt Aa9,DT cz,nM,hwr]
     refine⟨x.ids.length-(i+1),by omega,i+1,u,fk',fo,rfl,by omega,by omega,?_⟩
     have e1:Co.fy w x.ids s i=s:=by unfold Co.fy;rw[if_pos (.inl (by rw[hgd,cz]))]
     rw[em,e1]
     have hl2:s.2.length<=2000*(i+1):=by omega
     and_intros<;>first |rfl |assumption
   obtain⟨tvE,dvE,blE,yE,_⟩:=hSE.co.cm.ex
   have ldE:=Ap2 yE
   obtain⟨_,F,m1,m2,rfl⟩:=Bc1 wE hSE.co.rd ((i/2:Nat):Int) ((i%2:Nat):Int) w
   have hSF:=hSE.ab m2
   have hLF:=hLE.fr0 m2
   have wF:=m2.wf wE
   have hgl:(dN s.1.rd.n s.1.rd.v ((i/2:Nat):Int) ((i%2:Nat):Int) w).length=32:=Ap5 hSE.co.rd.cnt.len _ _ _
   simp only[RT,Q0,Q1,Q2,Q3,Q4,Q5,Q6,Q7,Q8,DF (show ¬(i:Int)>=24 by omega),l3,Ad8,eqZ dt Aa9,DF cz,h0,h1',An0 K.cb,ldE,Cv4 i (by omega),Cv5 i]
   refine Aa0 m1 ?_
   by_cases cv:dN s.1.rd.n s.1.rd.v ((i/2:Nat):Int) ((i%2:Nat):Int) w=z32
   rotate_left
   . simp only[RT,Q0,Q1,Q2,Q3,Q4,Q5,Q6,Q7,Q8,Ad8,eqZ hgl Aa9,DF cv,nM,hwr]
     refine⟨x.ids.length-(i+1),by omega,i+1,u,fk',fo,rfl,by omega,by omega,?_⟩
     have e1:Co.fy w x.ids s i=s:=by unfold Co.fy;rw[if_pos (.inr cv)]
     rw[em,e1]
     have hl2:s.2.length<=2000*(i+1):=by omega
     and_intros<;>first |rfl |assumption
   have e1:Co.fy w x.ids s i=({ s.1 with rd:=(s.1.rd.dm ((i/2:Nat):Int) ((i%2:Nat):Int) w id).1 },s.2++(s.1.rd.dm ((i/2:Nat):Int) ((i%2:Nat):Int) w id).2):=by
    unfold Co.fy;rw[hgd,if_neg (fun z=>z.elim cz (fun z=>z cv))]
   have hr:=hSF.co.rng
   obtain⟨u5,G,v1,v2⟩:=Bb3 wF hSF.co.rd hr (by rw[hSF.co.al];simp) (R:=((i/2:Nat):Int)) (K:=((i%2:Nat):Int)) (W:=w) dt
   have hO:=hr.dm ((i/2:Nat):Int) ((i%2:Nat):Int) w id
   rw[hSF.co.al]at hO
   obtain⟨fk5,fo5,o1,o2⟩:=hSF.co.lK wF v2 (Bu4 _ _ _ _ _) hO.1 hO.2.2
   have hO2:(s.1.rd.dm ((i/2:Nat):Int) ((i%2:Nat):Int) w id).2.length<=2000:=hO.2.1
   obtain⟨u6,J,fo6,j1,j2,j3⟩:=hSF.more hw hLF o1 o2 (by omega)
   have ldF:=Ap2 (m2.af yE)
   have l3F:=ldI (m2.af e3) dt
   simp only[RT,Q0,Q1,Q2,Q3,Q4,Q5,Q6,Q7,Q8,Ad8,eqZ hgl Aa9,DT cv]
   rw[Bz9,Aa2 (by rfl)]
   simp only[RT,Q0,Q1,Q2,Q3,Q4,Q5,Q6,Q7,Q8,h7,h0,h1',An0 K.cb,ldF,Cv4 i (by omega),Cv5 i,l3F]
   refine Aa0 v1 ?_
   simp only[RT,Q0,Q1,Q2,Q3,Q4,Q5,Q6,Q7,Q8,j1,nM,hwr]
   refine⟨x.ids.length-(i+1),by omega,i+1,u6,fk5,fo6,rfl,by omega,by omega,?_⟩
   rw[em,e1]
   have hl2:(s.2++(s.1.rd.dm ((i/2:Nat):Int) ((i%2:Nat):Int) w id).2).length<=2000*(i+1):=by rw[List.length_append];omega
   and_intros<;>first |rfl |assumption
 rw[if_neg k4]
 by_cases k5:x.kind=5
 rotate_left
 . rw[if_neg k5]
   obtain⟨u7,A7,j4,j5⟩:=(aA.of0 h f1).act hw (.nil:Lst dp Hp.emp A1 .ah [] none) (by simp)
   simp only[RT,Q0,Q1,Q2,Q3,Q4,Q5,Q6,Q7,Q8,DF k3,DF k4,DF k5]
   refine Aa0 j4 ?_
   simp only[RT,Q0,Q1,Q2,Q3,Q4,Q5,Q6,Q7,Q8]
   exact j5
 rw[if_pos k5]
 have lk:=h1.cm.gv.look (P:=TP) B50 BH0 Cn1 w false
 rw[AF8]at lk
 have lk:cL TP 73 (.map K.mg) (.int .i64 w) false A1=some (.bool (decide (w∈c.cG))):=by
  refine Eq.trans lk ?_
  by_cases q:w∈c.cG
  . rw[if_pos q,DT q];rfl
  . rw[if_neg q,DF q];rfl
 by_cases k6:w∈c.cG
 . rw[DT k6]at lk
   simp only[RT,Q0,Q1,Q2,Q3,Q4,Q5,Q6,Q7,Q8,DF k3,DF k4,DT k5,An0 K.cb,ld,lk]
   rw[if_pos k6]
   exact .nil h f1
 rw[DF k6]at lk
 obtain⟨A2,m1,m2⟩:=h1.cG w1 k6
 have w2:=m2.wf w1
 have r2:=m2.fr.row _ _ r1 (TM.box r1 (by have:=h.lt;omega))
 have lm2:=ldM r2 hx.id
 have hx2:=hx1.mono m2.le
 obtain⟨u3,A3,s1,fk3,fo3,s2,s3⟩:=As5 w2 m2.co (Ab5 _ A2) hx2.data (by omega)
 have s4:=m2.next w1 s2 (fo:=fo3) (fun f q=>.inr q)
 have hll:(c.ks w x).2.length<=2000:=by
  have:=(h.rng.fX (az x.data)).2.1
  rw[h.al]at this;exact this
 obtain⟨u7,A7,j4,j5⟩:=s4.act w1 s3 (Nat.le_trans hll (by omega))
 simp only[RT,Q0,Q1,Q2,Q3,Q4,Q5,Q6,Q7,Q8,DF k3,DF k4,DT k5,An0 K.cb,ld,lk,m1,fm,lm2]
 refine Aa0 s1 ?_
 simp only[RT,Q0,Q1,Q2,Q3,Q4,Q5,Q6,Q7,Q8]
 refine Aa0 j4 ?_
 simp only[RT,Q0,Q1,Q2,Q3,Q4,Q5,Q6,Q7,Q8]
 rw[if_neg k6]
 exact j5.br hw f1
end
end Go.Sv.Tryz
