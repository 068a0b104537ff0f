/- Cores of agreement: what the law of recalling asks. -/
import Derived.Test.YtnikcplcdapjhaaGd
set_option linter.unusedSimpArgs false
set_option linter.unusedVariables false
open Nat renaming reduceLT → Q0, reduceBEq → Q1, reduceEqDiff → Q2, reduceAdd → Q3
open Int renaming reduceEq → Q4, reduceLT → Q5, reduceLE → Q6, reduceGT → Q7, reduceGE → Q8
namespace Go.Sv
open Go
end Go.Sv
namespace Go.Sv.Try
open Go Go.Proofs
section
variable {X Y:Nat->Prop} {A B C:AS} {K:CoK} {c c1 c2:Co} {fk ft fk1 ft1 fk2 ft2 fo fo2:Option Nat} {S:Loc->Prop} {m:Hp}
def mIn0:M:=⟨0,0,0,0,0,0,z32,[],[],[]⟩
theorem CStep.msgs {x:Co×List M} {w w2:V} {l:List M} (hw:WF A) (h:CStep X A K fk ft B fk1 ft1 fo c1) (hL:Lst eMsg (qHp (nz X fk1 ft1 fo) B) B w l fo) (k:MRes (nz X fk1 ft1 fo) B K fk1 ft1 C x w2) (hl:l.length+x.2.length<=100000000) :
 ∃ v' D fk2 ft2 fo',evAppend Try.prog 34 34 w w2 C=some (v',D)/\CStep X A K fk ft D fk2 ft2 fo' x.1/\Lst eMsg (qHp (nz X fk2 ft2 fo') D) D v' (l++x.2) fo':=by
 obtain ⟨fk2,ft2,fo2,k1,k2⟩:=k
 have hC:=h.next hw k1 (fo:=fo) (fun f q=>.inl q)
 have an:(qHp (nz (nz X fk1 ft1 fo) fk2 ft2 fo2) C).le (qHp (nz X fk2 ft2 fo) C):=Ah6 fun f q=>by
  rcases q with q | q | q | q
  . exact .inl (.inl q)
  . exact .inr (.inl q)
  . exact .inr (.inr (.inl q))
  . exact .inl (.inr (.inr (.inr q)))
 have hLC:Lst eMsg (qHp (nz X fk2 ft2 fo) C) C w l fo:=(hL.fr k1.fr (TM.off fun f q=>(h.new f q).2)).mono (Hp.le_trans k1.le an)
 obtain ⟨cs',q1,q2⟩:=k2.src (P:=Try.prog) (tx:=34) Try.underlying34
 obtain ⟨v',D,fo',p1,p2,p3,p4⟩:=hLC.app (P:=Try.prog) (t:=34) (tx:=34) (e:=28) B25 (hC.wf hw) q1 (q2.mono an) (by omega) (by omega)
 obtain ⟨g1,g2⟩:=hC.grow hw p3 p4 p2.famLt
 exact ⟨v',D,fk2,ft2,fo',p1,g1,p2.mono g2⟩
end
end Go.Sv.Try
namespace Go.Sv
open Go
inductive Tg where
 | co (i:Nat)
 | sl (k i:Nat)
 | rw (k:Nat)
 | al
 | hb
structure HC where
 hp:Nat
 rb:Nat->Nat
 K:Nat->CoK
 fk:Nat->Option Nat
 ft:Nat->Option Nat
 fa:Option Nat
 fl:Nat->Nat->Option Nat
 w:V
 al:List Nat
 vv:Nat->Nat->V
 c:Nat->Co
 ml:Nat->List (Int×M)
 lg:Nat->List M
 hd:Nat->List M
structure HX where
 f:Nat->Prop
 b:Nat->Prop
 r:Nat->Prop
def up1 {α:Type} (f:Nat->α) (i:Nat) (x:α):Nat->α:=fun j=>if j=i then x else f j
def up2 {α:Type} (f:Nat->Nat->α) (k i:Nat) (x:α):Nat->Nat->α:=fun a b=>if a=k/\b=i then x else f a b
theorem Ab5 {α:Type} {f:Nat->α} {i:Nat} {x:α}:up1 f i x i=x:=if_pos rfl
theorem Ab7 {α:Type} {f:Nat->α} {i j:Nat} {x:α} (h:j≠i):up1 f i x j=f j:=if_neg h
theorem At2 {α:Type} {f:Nat->Nat->α} {k i:Nat} {x:α}:up2 f k i x k i=x:=if_pos ⟨rfl,rfl⟩
theorem Af7 {α:Type} {f:Nat->Nat->α} {k i a b:Nat} {x:α} (h:¬ (a=k/\b=i)):up2 f k i x a b=f a b:=if_neg h
def HC.cor (Z:HC) (i:Nat) (fk ft:Option Nat) (c:Co):HC:={ Z with fk:=up1 Z.fk i fk,ft:=up1 Z.ft i ft,c:=up1 Z.c i c }
def HC.put (Z:HC) (k i:Nat) (v:V) (fo:Option Nat) (ml:Nat->List (Int×M)) (lg hd:Nat->List M):HC:={ Z with fl:=up2 Z.fl k i fo,vv:=up2 Z.vv k i v,ml:=ml,lg:=lg,hd:=hd }
def HC.add (Z:HC) (q:Nat) (K:CoK) (c:Co):HC:={ Z with K:=up1 Z.K q K,fk:=up1 Z.fk q none,ft:=up1 Z.ft q none,c:=up1 Z.c q c }
def HC.lst (Z:HC) (w:V) (l:List Nat) (fo:Option Nat):HC:={ Z with w:=w,al:=l,fa:=fo }
def HC.swp (Z:HC) (i q:Nat):HC:={ Z with K:=up1 Z.K i (Z.K q),fk:=up1 Z.fk i (Z.fk q),ft:=up1 Z.ft i (Z.ft q),c:=up1 Z.c i (Z.c q) }
def Dm (g q:Nat):Tg->Prop
 | .co i=>i < q
 | .sl k i=>k < 3/\i < g
 | .rw k=>k < 3
 | .al=>True
 | .hb=>True
def Bm (Z:HC):Tg->Nat->Prop
 | .co i=>fun b=>b=(Z.K i).cb∨b=(Z.K i).rp∨b=(Z.K i).cp
 | .hb=>fun b=>b=Z.hp
 | _=>fun _=>False
def Mm (Z:HC):Tg->Nat->Prop
 | .co i=>fun r=>r=(Z.K i).mb∨r=(Z.K i).mg
 | _=>fun _=>False
structure HStep (X:HX) (A:AS) (X':HX) (B:AS):Prop where
 fr:Fr (TM X.b X.f X.r A) A B
 f:∀ f,X'.f f->X.f f∨A.blk.length<=f
 b:∀ b,X'.b b->X.b b∨A.blk.length<=b
 r:∀ r,X'.r r->X.r r∨A.maps.length<=r
section
variable {X X' X2:HX} {A B C:AS}
theorem HStep.rfl':HStep X A X A:=⟨.refl _ _,fun _ q=>.inl q,fun _ q=>.inl q,fun _ q=>.inl q⟩
theorem HStep.then0 (h:HStep X A X' B) (hf:Fr S0 B C):HStep X A X' C:={ h with fr:=h.fr.then0 hf }
theorem HStep.of0 (hf:Fr S0 A B):HStep X A X B:=HStep.rfl'.then0 hf
theorem HStep.trans (hw:WF A) (h:HStep X A X' B) (k:HStep X' B X2 C):HStep X A X2 C :=
 ⟨h.fr.trans k.fr fun x q=>TM.back hw h.fr h.b h.f h.r q,fun f q=>(k.f f q).elim (h.f f) fun z=>.inr (Nat.le_trans h.fr.len z),fun b q=>(k.b b q).elim (h.b b) fun z=>.inr (Nat.le_trans h.fr.len z),fun r q=>(k.r r q).elim (h.r r) fun z=>.inr (Nat.le_trans h.fr.mlen z)⟩
theorem HStep.wf (h:HStep X A X' B) (hw:WF A):WF B:=h.fr.wf hw
theorem HStep.le (hw:WF A) (h:HStep X A X' B):(qHp X.f A).le (qHp X'.f B):=Al7 h.fr TM.tch hw h.f
theorem HStep.box {b:Nat} {cs:List V} (h:HStep X A X' B) (hb:A.blk[b]?=some ⟨cs,.var⟩) (hx:¬ X.b b):B.blk[b]?=some ⟨cs,.var⟩:=h.fr.row _ _ hb (TM.box hb hx)
theorem HStep.nb {b:Nat} {cs:List V} (h:HStep X A X' B) (hb:A.blk[b]?=some ⟨cs,.var⟩) (hx:¬ X.b b):¬ X'.b b:=fun q=>(h.b b q).elim hx fun z=>by have:=Ac3 hb;omega
end
end Go.Sv
namespace Go.Sv.Try
open Go Go.Proofs
def sentC (x:Int×M) (dv iv lv:V):List V:=.int .i64 x.1::mc x.2 dv iv lv
def eSent:Enc (Int×M):=⟨42,true,fun m cs x=>∃ dv iv lv,cs=sentC x dv iv lv/\MsgIn m x.2 dv iv lv,fun ⟨_,_,_,h,q⟩=>by rw [h];show (mc _ _ _ _).length+1=42;rw [Ai6 q.id],fun h=>by simp at h,fun ⟨_,_,_,h,q⟩=>by rw [h];simp only [sentC,List.all_cons,AI6 q,AM6,Bool.and_self],fun hm ⟨a,b,c,h,q⟩=>⟨a,b,c,h,q.mono hm⟩⟩
theorem BC5 {m:Hp} {w:V} {x:Int×M} (h:eSent.W m w x):∃ dv iv lv,w=.agg (sentC x dv iv lv)/\MsgIn m x.2 dv iv lv:=by
 unfold Enc.W at h
 rw [if_pos (by rfl)]at h
 obtain ⟨cs,rfl,dv,iv,lv,rfl,g⟩:=h
 exact ⟨dv,iv,lv,rfl,g⟩
def Fm (Z:HC):Tg->Nat->Prop
 | .co i=>XCo (Z.K i) (Z.fk i) (Z.ft i)
 | .sl k i=>fun f=>Z.fl k i=some f
 | .rw k=>fun f=>f=Z.rb k
 | .al=>fun f=>Z.fa=some f
 | .hb=>fun _=>False
def SlP (k:Nat) (m:Hp) (A:AS) (Z:HC) (i:Nat):Prop:=match k with
 | 0=>Lst eSent m A (Z.vv 0 i) (Z.ml i) (Z.fl 0 i)
 | 1=>Lst eMsg m A (Z.vv 1 i) (Z.lg i) (Z.fl 1 i)
 | k+2=>Lst eMsg m A (Z.vv (k+2) i) (Z.hd i) (Z.fl (k+2) i)
def Pt (n g:Nat) (Z:HC) (Y:Nat->Prop) (A:AS):Tg->Prop
 | .co i=>IsCo Y A (Z.K i) (Z.fk i) (Z.ft i) (Z.c i)
 | .sl k i=>SlP k (qHp Y A) A Z i
 | .rw k=>A.blk[Z.rb k]?=some ⟨(List.range g).map (Z.vv k),.arr (Z.rb k) 0⟩/\Sole A (Z.rb k) (Z.rb k)
 | .al=>Lst ePt Hp.emp A Z.w Z.al Z.fa
 | .hb=>A.blk[Z.hp]?=some ⟨[.int .i64 n,.int .i64 g,Z.w,.sl (Z.rb 0) 0 g 1,.sl (Z.rb 1) 0 g 1,.sl (Z.rb 2) 0 g 1],.var⟩
structure IsHl (X:HX) (A:AS) (n g q:Nat) (Z:HC):Prop where
 pt:∀ t,Dm g q t->Pt n g Z X.f A t
 ap:∀ t t',Dm g q t->Dm g q t'->t≠t'->(∀ f,Fm Z t f->¬ Fm Z t' f)/\(∀ b,Bm Z t b->¬ Bm Z t' b)/\(∀ r,Mm Z t r->¬ Mm Z t' r)
 sub:∀ t,Dm g q t->(∀ f,Fm Z t f->X.f f)/\(∀ b,Bm Z t b->X.b b)/\(∀ r,Mm Z t r->X.r r)
 lt:(∀ f,X.f f->f < A.blk.length)/\(∀ b,X.b b->b < A.blk.length)/\(∀ r,X.r r->r < A.maps.length)
section
variable {X X' X2:HX} {Y:Nat->Prop} {A B C:AS} {n g q i k:Nat} {Z Z':HC} {S:Loc->Prop} {m m':Hp} {T:Tg->Prop} {t:Tg}
theorem SlP.fr (h:SlP k m A Z i) (hm:m.le m') (hf:Fr S A B) (hs:Off (Z.fl k i) A S):SlP k m' B Z i:=by
 match k,h,hs with
 | 0,h,hs=>exact (Lst.fr h hf hs).mono hm
 | 1,h,hs=>exact (Lst.fr h hf hs).mono hm
 | k+2,h,hs=>exact (Lst.fr h hf hs).mono hm
theorem SlP.one (h:SlP k m A Z i):(Z.vv k i).one=true:=by
 match k,h with
 | 0,h=>exact Lst.one h
 | 1,h=>exact Lst.one h
 | k+2,h=>exact Lst.one h
theorem SlP.famLt (h:SlP k m A Z i):∀ f,Z.fl k i=some f->f < A.blk.length:=by
 match k,h with
 | 0,h=>exact Lst.famLt h
 | 1,h=>exact Lst.famLt h
 | k+2,h=>exact Lst.famLt h
theorem IsHl.oth {Bx Zf Mp:Nat->Prop} (hw:WF A) (h:IsHl X A n g q Z) (hd:Dm g q t) (hf:Fr (TM Bx Zf Mp A) A B) (h0:∀ f,Zf f->X.f f) (h1:∀ f,Fm Z t f->¬ Zf f) (h2:∀ b,Bm Z t b->¬ Bx b) (h3:∀ r,Mm Z t r->¬ Mp r)
 (hY:∀ f,Y f->X.f f∨A.blk.length<=f) (hs:∀ f,Fm Z t f->Y f) (hl:∀ f,Y f->f < B.blk.length):Pt n g Z Y B t:=by
 have k:=h.pt t hd
 cases t with
 | co i=>exact IsCo.ts hw k hf ⟨h2 _ (.inl rfl),h2 _ (.inr (.inl rfl)),h2 _ (.inr (.inr rfl))⟩ (fun f q=>⟨h0 f q,fun w=>h1 f w q⟩) ⟨h3 _ (.inl rfl),h3 _ (.inr rfl)⟩ hY hs hl
 | sl k' i=>exact SlP.fr k (Al7 hf (TM.tch.mono h0) hw hY) hf (TM.off fun f q w=>h1 f q w)
 | rw k'=>exact ⟨hf.row _ _ k.1 (TS.arr k.1 (h1 _ rfl)),k.2.fr hf (h1 _ rfl)⟩
 | al=>exact Lst.fr k hf (TM.off fun f q w=>h1 f q w)
 | hb=>exact hf.row _ _ k (TM.box k (h2 _ rfl))
theorem IsHl.s0 (hw:WF A) (h:IsHl X A n g q Z) (hf:Fr S0 A B):IsHl X B n g q Z :=
 { h with pt := fun t hd => h.oth (Bx := fun _ => False) (Zf := fun _ => False) (Mp := fun _ => False) hw hd (hf.mono fun _ z => z.elim) (fun _ z => z.elim) (fun _ _ z => z) (fun _ _ z => z) (fun _ _ z => z) (fun f z => .inl z) (h.sub t hd).1 fun f z => Nat.lt_of_lt_of_le (h.lt.1 f z) hf.len
          lt:=⟨fun f z=>Nat.lt_of_lt_of_le (h.lt.1 f z) hf.len,fun f z=>Nat.lt_of_lt_of_le (h.lt.2.1 f z) hf.len,fun f z=>Nat.lt_of_lt_of_le (h.lt.2.2 f z) hf.mlen⟩ }
theorem IsHl.upd {Xf:Nat->Prop} (hw:WF A) (h:IsHl X A n g q Z) (T:Tg->Prop) (hT:∀ t,T t->Dm g q t) (hf:Fr S A B) (hS:∀ x,S x->TM (fun b=>∃ t,T t/\Bm Z t b) (fun f=>∃ t,T t/\Fm Z t f) (fun r=>∃ t,T t/\Mm Z t r) A x)
 (hsame:∀ t,Dm g q t->¬ T t->Fm Z' t=Fm Z t/\(∀ Y B,Pt n g Z Y B t->Pt n g Z' Y B t)) (hbm:Bm Z'=Bm Z) (hmm:Mm Z'=Mm Z)
 (hnew:∀ t,T t->∀ f,Fm Z' t f->Fm Z t f∨A.blk.length<=f) (hap:∀ t t',T t->T t'->t≠t'->∀ f,Fm Z' t f->¬ Fm Z' t' f)
 (hX:∀ f,Xf f->X.f f∨A.blk.length<=f) (hsub:∀ t,Dm g q t->∀ f,Fm Z' t f->Xf f) (hlt:∀ f,Xf f->f < B.blk.length)
 (hpt:∀ t,T t->Pt n g Z' Xf B t):IsHl ⟨Xf,X.b,X.r⟩ B n g q Z'/\HStep X A ⟨Xf,X.b,X.r⟩ B:=by
 have hts:=hf.mono hS
 have hold:∀ t,Dm g q t->∀ f,Fm Z t f->f < A.blk.length:=fun t hd f z=>h.lt.1 f ((h.sub t hd).1 f z)
 refine ⟨⟨fun t hd=>?_,fun t t' hd hd' ne=>⟨fun f z w=>?_,?_,?_⟩,fun t hd=>⟨hsub t hd,?_,?_⟩,hlt,fun b z=>Nat.lt_of_lt_of_le (h.lt.2.1 b z) hf.len,fun r z=>Nat.lt_of_lt_of_le (h.lt.2.2 r z) hf.mlen⟩,⟨hts.mono fun x z=>TM.mono (fun b ⟨t,y1,y2⟩=>(h.sub t (hT t y1)).2.1 b y2) (fun f ⟨t,y1,y2⟩=>(h.sub t (hT t y1)).1 f y2) (fun r ⟨t,y1,y2⟩=>(h.sub t (hT t y1)).2.2 r y2) z,hX,fun b z=>.inl z,fun r z=>.inl z⟩⟩
 . by_cases ht : T t
   . exact hpt t ht
   . refine (hsame t hd ht).2 _ _ (h.oth hw hd hts (fun f ⟨t', y1, y2⟩ => (h.sub t' (hT t' y1)).1 f y2) ?_ ?_ ?_ hX (fun f z => hsub t hd f (by rw [(hsame t hd ht).1]; exact z)) hlt)
     . rintro f z ⟨t', y1, y2⟩
       exact (h.ap t t' hd (hT t' y1) (fun e=>ht (e ▸ y1))).1 f z y2
     . rintro f z ⟨t', y1, y2⟩
       exact (h.ap t t' hd (hT t' y1) (fun e=>ht (e ▸ y1))).2.1 f z y2
     . rintro f z ⟨t', y1, y2⟩
       exact (h.ap t t' hd (hT t' y1) (fun e=>ht (e ▸ y1))).2.2 f z y2
 . by_cases ht : T t
   . by_cases ht' : T t'
     . exact hap t t' ht ht' ne f z w
     . rw [(hsame t' hd' ht').1] at w
       rcases hnew t ht f z with y | y
       . exact (h.ap t t' hd hd' ne).1 f y w
       . have:=hold t' hd' f w;omega
   . rw [(hsame t hd ht).1] at z
     by_cases ht':T t'
     . rcases hnew t' ht' f w with y | y
       . exact (h.ap t t' hd hd' ne).1 f z y
       . have:=hold t hd f z;omega
     . rw [(hsame t' hd' ht').1] at w
       exact (h.ap t t' hd hd' ne).1 f z w
 . rw [hbm];exact (h.ap t t' hd hd' ne).2.1
 . rw [hmm];exact (h.ap t t' hd hd' ne).2.2
 . rw [hbm];exact (h.sub t hd).2.1
 . rw [hmm];exact (h.sub t hd).2.2
theorem IsHl.core {fk ft fo:Option Nat} {c:Co} (hw:WF A) (h:IsHl X A n g q Z) (hi:i < q) (k:CStep X.f A (Z.K i) (Z.fk i) (Z.ft i) B fk ft fo c) :
 IsHl ⟨nz X.f fk ft fo,X.b,X.r⟩ B n g q (Z.cor i fk ft c)/\HStep X A ⟨nz X.f fk ft fo,X.b,X.r⟩ B/\∀ f,fo=some f->A.blk.length<=f/\∀ t,Dm g q t->¬ Fm (Z.cor i fk ft c) t f:=by
 have e1:∀ t,t≠.co i->Fm (Z.cor i fk ft c) t=Fm Z t:=fun t ht=>by
  cases t with
  | co j =>
   have:j≠i:=fun z=>ht (by rw [z])
   show XCo (Z.K j) (up1 Z.fk i fk j) (up1 Z.ft i ft j)=_
   rw [Ab7 this,Ab7 this];rfl
  | _=>rfl
 have e2:Fm (Z.cor i fk ft c) (.co i)=XCo (Z.K i) fk ft:=by
  show XCo (Z.K i) (up1 Z.fk i fk i) (up1 Z.ft i ft i)=_
  rw [Ab5,Ab5]
 have hx:∀ f,XCo (Z.K i) fk ft f->XCo (Z.K i) (Z.fk i) (Z.ft i) f∨A.blk.length<=f:=fun f w=>by
  rcases w with (w | w) | w
  . exact .inl (.inl (.inl w))
  . exact (k.g1.or w).imp (fun z=>.inl (.inr z)) id
  . exact (k.g2.or w).imp (fun z=>.inr z) id
 have hsubX:∀ t,Dm g q t->∀ f,Fm Z t f->nz X.f fk ft fo f:=fun t hd f z=>.inl ((h.sub t hd).1 f z)
 obtain ⟨a1,a2⟩:=h.upd (Z':=Z.cor i fk ft c) (Xf:=nz X.f fk ft fo) hw (·=.co i) (fun t ht=>by rw [ht];exact hi) k.fr (fun x z=>TM.mono (fun b w=>⟨_,rfl,w.elim .inl fun w=>.inr (.inl w)⟩) (fun f w=>⟨_,rfl,w⟩) (fun r w=>⟨_,rfl,w⟩) z)
  (fun t hd ht=>⟨e1 t ht,fun Y B w=>by
   cases t with
   | co j =>
    have:j≠i:=fun z=>ht (by rw [z])
    show IsCo Y B (Z.K j) (up1 Z.fk i fk j) (up1 Z.ft i ft j) (up1 Z.c i c j)
    rw [Ab7 this,Ab7 this,Ab7 this];exact w
   | sl k' j =>
    have w:SlP k' (qHp Y B) B Z j:=w
    show SlP k' (qHp Y B) B (Z.cor i fk ft c) j
    match k',w with
    | 0,w=>exact w
    | 1,w=>exact w
    | k'+2,w=>exact w
   | _=>exact w⟩) (by funext t;cases t <;> rfl) (by funext t;cases t <;> rfl)
  (fun t ht f w=>by subst ht;rw [e2]at w;exact hx f w) (fun t t' ht ht' ne=>absurd (ht.trans ht'.symm) ne) (fun f w=>by
   rcases w with w | w | w | w
   . exact .inl w
   . exact (k.g1.or w).imp (fun z=>(h.sub (.co i) hi).1 f (.inl (.inr z))) id
   . exact (k.g2.or w).imp (fun z=>(h.sub (.co i) hi).1 f (.inr z)) id
   . exact .inr (k.new f w).1)
  (fun t hd f w=>by
   by_cases ht:t=.co i
   . subst ht; rw [e2] at w
     rcases w with (w | w) | w
     . exact hsubX (.co i) hi f (.inl (.inl w))
     . exact .inr (.inl w)
     . exact .inr (.inr (.inl w))
   . rw [e1 t ht]at w;exact hsubX t hd f w) k.co.xlt (fun t ht=>by
   subst ht
   show IsCo (nz X.f fk ft fo) B (Z.K i) (up1 Z.fk i fk i) (up1 Z.ft i ft i) (up1 Z.c i c i)
   rw [Ab5,Ab5,Ab5];exact k.co)
 refine ⟨a1,a2,fun f w=>⟨(k.new f w).1,fun t hd z=>?_⟩⟩
 by_cases ht:t=.co i
 . subst ht;rw [e2]at z;exact (k.new f w).2 z
 . rw [e1 t ht] at z
   have:=h.lt.1 f ((h.sub t hd).1 f z)
   have:=(k.new f w).1
   omega
end
end Go.Sv.Try
namespace Go.Sv
open Go
theorem Bf9 {f:Nat->V} {g i:Nat} {x:V} (hi:i < g):putAt ((List.range g).map f) i [x]=(List.range g).map (up1 f i x):=by
 have e1:putAt ((List.range g).map f) i [x]=((List.range g).map f).set i x:=by
  unfold putAt
  rw [List.set_eq_take_append_cons_drop,if_pos (by simpa using hi)]
  simp
 rw [e1]
 apply List.ext_getElem?
 intro j
 rw [List.getElem?_set]
 by_cases e:i=j
 . subst e
   rw [if_pos rfl,if_pos (by simpa using hi),List.getElem?_map,List.getElem?_range hi]
   show some x=some (up1 f i x i)
   rw [Ab5]
 . rw [if_neg e, List.getElem?_map, List.getElem?_map]
   rcases Nat.lt_or_ge j g with q | q
   . rw [List.getElem?_range q]
     show some (f j)=some (up1 f i x j)
     rw [Ab7 (fun z=>e z.symm)]
   . rw [List.getElem?_eq_none (by simpa using q)];rfl
def sgT (i q:Nat):Tg->Tg
 | .co j=>.co (if j=i then q else j)
 | .sl a b=>.sl a b
 | .rw k=>.rw k
 | .al=>.al
 | .hb=>.hb
theorem BC6 {f:Nat->Nat->V} {k i:Nat} {x:V}:(fun a=>up2 f k i x k a)=up1 (f k) i x:=by
 funext a;unfold up2 up1
 by_cases q:a=i <;> simp [q]
end Go.Sv
namespace Go.Sv.Try
open Go Go.Proofs
section
variable {X X' X2:HX} {Y:Nat->Prop} {A B C:AS} {n g q i k:Nat} {Z Z':HC} {S:Loc->Prop} {m m':Hp} {t:Tg} {v:V} {fo:Option Nat} {ml:Nat->List (Int×M)} {lg hd:Nat->List M}
def PutRes (X:HX) (A:AS) (n g q:Nat) (Z:HC) (C:AS) (Xn:Nat->Prop) (Z':HC):Prop :=
 IsHl ⟨Xn,X.b,X.r⟩ C n g q Z'/\HStep X A ⟨Xn,X.b,X.r⟩ C/\∀ (τ:Type) (E:Enc τ) (w:V) (l:List τ) (fo2:Option Nat),Lst E (qHp X.f A) A w l fo2->(∀ f,fo2=some f->∀ t,Dm g q t->¬ Fm Z t f)->Lst E (qHp Xn C) C w l fo2/\∀ f,fo2=some f->∀ t,Dm g q t->¬ Fm Z' t f
theorem IsHl.put {ty:TypeId} (hw:WF A) (h:IsHl X A n g q Z) (hk:k < 3) (hi:i < g) (hf:Fr (inFamO A (Z.fl k i)) A B) (hg:Gr A (Z.fl k i) fo) (hm:∀ k' i',k' < 3->¬ (k'=k/\i'=i)->∀ m A,SlP k' m A Z i'->SlP k' m A (Z.put k i v fo ml lg hd) i') (hp:SlP k (qHp X.f A) B (Z.put k i v fo ml lg hd) i) (hty:szT Try.prog ty=some 1) :
 ∃ C,evStore Try.prog ty (.ptr (Z.rb k) i) v B=some C/\PutRes X A n g q Z C (fun f=>X.f f∨fo=some f) (Z.put k i v fo ml lg hd):=by
 have hdS:Dm g q (.sl k i):=⟨hk,hi⟩
 have hdR:Dm g q (.rw k):=hk
 have r0:=h.pt (.rw k) hk
 have hne:Z.fl k i≠some (Z.rb k):=fun e=>(h.ap (.sl k i) (.rw k) hdS hdR (by simp)).1 _ e rfl
 have htsA:∀ x,inFamO A (Z.fl k i) x->TM (fun _=>False) (fun f=>Z.fl k i=some f) (fun _=>False) A x:=fun x z=>TM.ts (TS.famO (fun f q=>q) z)
 have rB:B.blk[Z.rb k]?=some ⟨(List.range g).map (Z.vv k),.arr (Z.rb k) 0⟩:=(hf.mono htsA).row _ _ r0.1 fun z=>TS.arr (Bx:=fun _=>False) (X:=fun f=>Z.fl k i=some f) r0.1 hne z
 have sB:Sole B (Z.rb k) (Z.rb k):=r0.2.fr (hf.mono htsA) hne
 have hv1:v.one=true:=by
  have:=hp.one
  have e:(Z.put k i v fo ml lg hd).vv k i=v:=At2
  rw [e]at this;exact this
 obtain ⟨C,s1,s2,s3,s4,s5⟩:=As9 (P:=Try.prog) (t:=ty) (o:=i) (x:=v) (cs:=[v]) sB rB (one_cells hv1) hty (by simp;omega) (by simp [hv1])
 rw [Bf9 hi,<- BC6]at s3
 have hrl:Z.rb k < A.blk.length:=Ac3 r0.1
 have fC:Fr (fun x=>inFamO A (Z.fl k i) x∨x=.row (Z.rb k)) A C:=(hf.mono fun x z=>.inl z).trans s2 fun x z=>.inl (.inr z)
 have hfo:∀ f,fo=some f->Z.fl k i=some f∨A.blk.length<=f:=fun f z=>hg.or z
 have hX:∀ f,(X.f f∨fo=some f)->X.f f∨A.blk.length<=f:=fun f z=>z.elim .inl fun z=>(hfo f z).imp (fun y=>(h.sub _ hdS).1 f y) id
 have hS:∀ x,(inFamO A (Z.fl k i) x∨x=.row (Z.rb k))->TM (fun b=>∃ t,(t=.sl k i∨t=.rw k)/\Bm Z t b) (fun f=>∃ t,(t=.sl k i∨t=.rw k)/\Fm Z t f) (fun r=>∃ t,(t=.sl k i∨t=.rw k)/\Mm Z t r) A x:=fun x z=>by
  rcases z with z | z
  . exact TM.mono (fun b y=>y.elim) (fun f y=>⟨_,.inl rfl,y⟩) (fun r y=>y.elim) (htsA x z)
  . exact TM.ts (TS.arow r0.1 ⟨_,.inr rfl,rfl⟩ z)
 have hle:(qHp X.f A).le (qHp (fun f=>X.f f∨fo=some f) C):=Al7 (fC.mono hS) (TM.tch.mono fun f ⟨t,y1,y2⟩=>(h.sub t (by rcases y1 with rfl | rfl;exact hdS;exact hdR)).1 f y2) hw hX
 have e1:∀ t,¬ (t=.sl k i)->Fm (Z.put k i v fo ml lg hd) t=Fm Z t:=fun t ht=>by
  cases t with
  | sl a b =>
   have:¬ (a=k/\b=i):=fun z=>ht (by rw [z.1,z.2])
   show (fun f=>up2 Z.fl k i fo a b=some f)=_
   rw [Af7 this];rfl
  | _=>rfl
 have e2:Fm (Z.put k i v fo ml lg hd) (.sl k i)=fun f=>fo=some f:=by
  show (fun f=>up2 Z.fl k i fo k i=some f)=_
  rw [At2]
 have hout:∀ (τ:Type) (E:Enc τ) (w:V) (l:List τ) (fo2:Option Nat),Lst E (qHp X.f A) A w l fo2->(∀ f,fo2=some f->∀ t,Dm g q t->¬ Fm Z t f)->Lst E (qHp (fun f=>X.f f∨fo=some f) C) C w l fo2/\∀ f,fo2=some f->∀ t,Dm g q t->¬ Fm (Z.put k i v fo ml lg hd) t f:=by
  intro τ E w l fo2 hl ho
  refine ⟨(hl.fr (fC.mono hS) (TM.off fun f z ⟨t,y1,y2⟩=>ho f z t (by rcases y1 with rfl | rfl;exact hdS;exact hdR) y2)).mono hle,fun f z t hd' y=>?_⟩
  by_cases ht:t=.sl k i
  . subst ht; rw [e2] at y
    rcases hfo f y with y | y
    . exact ho f z _ hdS y
    . have:=hl.famLt f z;omega
  . rw [e1 t ht]at y;exact ho f z t hd' y
 refine ⟨C,s1,(fun (x:_/\_)=>⟨x.1,x.2,hout⟩) <| h.upd (Z':=Z.put k i v fo ml lg hd) hw (fun t=>t=.sl k i∨t=.rw k) (fun t z=>by rcases z with rfl | rfl;exact hdS;exact hdR) fC hS (fun t hd' ht=>⟨e1 t fun z=>ht (.inl z),fun Y B w=>?_⟩) (by funext t;cases t <;> rfl) (by funext t;cases t <;> rfl) (fun t z f w=>?_) (fun t t' z z' ne f w w'=>?_) hX (fun t hd' f w=>?_) (fun f z=>?_) fun t z=>?_⟩
 . cases t with
   | sl a b=>exact hm a b hd'.1 (fun z=>ht (.inl (by rw [z.1,z.2]))) _ _ w
   | rw a =>
    have:¬ a=k:=fun z=>ht (.inr (by rw [z]))
    refine ⟨?_,w.2⟩
    show B.blk[Z.rb a]?=some ⟨(List.range g).map (up2 Z.vv k i v a),.arr (Z.rb a) 0⟩
    have e:up2 Z.vv k i v a=Z.vv a:=by funext b;exact Af7 fun z=>this z.1
    rw [e];exact w.1
   | _=>exact w
 . rcases z with rfl | rfl
   . rw [e2]at w;exact hfo f w
   . exact .inl w
 . have fin : ∀ f, fo = some f -> f = Z.rb k -> False := fun f y1 y2 => by
    subst y2
    rcases hfo _ y1 with y | y
    . exact hne y
    . omega
   rcases z with rfl | rfl
   . rcases z' with rfl | rfl
     . exact ne rfl
     . rw [e2]at w;exact fin f w w'
   . rcases z' with rfl | rfl
     . rw [e2]at w';exact fin f w' w
     . exact ne rfl
 . by_cases ht : t = .sl k i
   . subst ht;rw [e2]at w;exact .inr w
   . rw [e1 t ht]at w;exact .inl ((h.sub t hd').1 f w)
 . rcases z with z | z
   . exact Nat.lt_of_lt_of_le (h.lt.1 f z) fC.len
   . have e : (Z.put k i v fo ml lg hd).fl k i = fo := At2
     have:=hp.famLt f (by rw [e];exact z)
     exact Nat.lt_of_lt_of_le this s2.len
 . rcases z with rfl | rfl
   . refine SlP.fr hp hle s2 ?_
     intro b y f kk base hfo' hkk hkd
     cases y
     rw [rB]at hkk;cases hkk
     have e:(Z.put k i v fo ml lg hd).fl k i=fo:=At2
     rw [e]at hfo'
     injection hkd with hkd
     rcases hfo f hfo' with y | y
     . exact hne (by rw [y,hkd])
     . omega
   . exact ⟨s3,s5⟩
theorem IsHl.putLg {ty:TypeId} {l:List M} (hw:WF A) (h:IsHl X A n g q Z) (hi:i < g) (hf:Fr (inFamO A (Z.fl 1 i)) A B) (hg:Gr A (Z.fl 1 i) fo) (hp:Lst eMsg (qHp X.f A) B v l fo) (hty:szT Try.prog ty=some 1) :
 ∃ C,evStore Try.prog ty (.ptr (Z.rb 1) i) v B=some C/\PutRes X A n g q Z C (fun f=>X.f f∨fo=some f) (Z.put 1 i v fo Z.ml (up1 Z.lg i l) Z.hd) :=
 h.put hw (by omega) hi hf hg (fun k' i' h3 ne m A w=>by
  match k',h3,w,ne with
  | 0,_,w,ne=>show Lst eSent m A (up2 Z.vv 1 i v 0 i') (Z.ml i') (up2 Z.fl 1 i fo 0 i');rw [Af7 ne,Af7 ne];exact w
  | 1,_,w,ne=>show Lst eMsg m A (up2 Z.vv 1 i v 1 i') (up1 Z.lg i l i') (up2 Z.fl 1 i fo 1 i');rw [Af7 ne,Af7 ne,Ab7 (fun z=>ne ⟨rfl,z⟩)];exact w
  | k'+2,_,w,ne=>show Lst eMsg m A (up2 Z.vv 1 i v (k'+2) i') (Z.hd i') (up2 Z.fl 1 i fo (k'+2) i');rw [Af7 ne,Af7 ne];exact w) (by
  show Lst eMsg (qHp X.f A) B (up2 Z.vv 1 i v 1 i) (up1 Z.lg i l i) (up2 Z.fl 1 i fo 1 i)
  rw [At2,At2,Ab5];exact hp) hty
theorem IsHl.putMl {ty:TypeId} {l:List (Int×M)} (hw:WF A) (h:IsHl X A n g q Z) (hi:i < g) (hf:Fr (inFamO A (Z.fl 0 i)) A B) (hg:Gr A (Z.fl 0 i) fo) (hp:Lst eSent (qHp X.f A) B v l fo) (hty:szT Try.prog ty=some 1) :
 ∃ C,evStore Try.prog ty (.ptr (Z.rb 0) i) v B=some C/\PutRes X A n g q Z C (fun f=>X.f f∨fo=some f) (Z.put 0 i v fo (up1 Z.ml i l) Z.lg Z.hd) :=
 h.put hw (by omega) hi hf hg (fun k' i' h3 ne m A w=>by
  match k',h3,w,ne with
  | 0,_,w,ne=>show Lst eSent m A (up2 Z.vv 0 i v 0 i') (up1 Z.ml i l i') (up2 Z.fl 0 i fo 0 i');rw [Af7 ne,Af7 ne,Ab7 (fun z=>ne ⟨rfl,z⟩)];exact w
  | 1,_,w,ne=>show Lst eMsg m A (up2 Z.vv 0 i v 1 i') (Z.lg i') (up2 Z.fl 0 i fo 1 i');rw [Af7 ne,Af7 ne];exact w
  | k'+2,_,w,ne=>show Lst eMsg m A (up2 Z.vv 0 i v (k'+2) i') (Z.hd i') (up2 Z.fl 0 i fo (k'+2) i');rw [Af7 ne,Af7 ne];exact w) (by
  show Lst eSent (qHp X.f A) B (up2 Z.vv 0 i v 0 i) (up1 Z.ml i l i) (up2 Z.fl 0 i fo 0 i)
  rw [At2,At2,Ab5];exact hp) hty
theorem IsHl.putHd {ty:TypeId} {l:List M} (hw:WF A) (h:IsHl X A n g q Z) (hi:i < g) (hf:Fr (inFamO A (Z.fl 2 i)) A B) (hg:Gr A (Z.fl 2 i) fo) (hp:Lst eMsg (qHp X.f A) B v l fo) (hty:szT Try.prog ty=some 1) :
 ∃ C,evStore Try.prog ty (.ptr (Z.rb 2) i) v B=some C/\PutRes X A n g q Z C (fun f=>X.f f∨fo=some f) (Z.put 2 i v fo Z.ml Z.lg (up1 Z.hd i l)) :=
 h.put hw (by omega) hi hf hg (fun k' i' h3 ne m A w=>by
  match k',h3,w,ne with
  | 0,_,w,ne=>show Lst eSent m A (up2 Z.vv 2 i v 0 i') (Z.ml i') (up2 Z.fl 2 i fo 0 i');rw [Af7 ne,Af7 ne];exact w
  | 1,_,w,ne=>show Lst eMsg m A (up2 Z.vv 2 i v 1 i') (Z.lg i') (up2 Z.fl 2 i fo 1 i');rw [Af7 ne,Af7 ne];exact w
  | 2,_,w,ne=>show Lst eMsg m A (up2 Z.vv 2 i v 2 i') (up1 Z.hd i l i') (up2 Z.fl 2 i fo 2 i');rw [Af7 ne,Af7 ne,Ab7 (fun z=>ne ⟨rfl,z⟩)];exact w
  | k'+3,h3,w,ne=>omega) (by
  show Lst eMsg (qHp X.f A) B (up2 Z.vv 2 i v 2 i) (up1 Z.hd i l i) (up2 Z.fl 2 i fo 2 i)
  rw [At2,At2,Ab5];exact hp) hty
theorem IsHl.setAl {l:List Nat} (hw:WF A) (h:IsHl X A n g q Z) (hf:Fr (inFamO A Z.fa) A B) (hp:Lst ePt Hp.emp B Z.w l Z.fa):IsHl X B n g q (Z.lst Z.w l Z.fa)/\HStep X A X B :=
 h.upd (Z':=Z.lst Z.w l Z.fa) (Xf:=X.f) hw (·=.al) (fun t z=>by subst z;exact trivial) hf (fun x z=>TM.mono (fun b (y:False)=>y.elim) (fun f y=>⟨_,rfl,y⟩) (fun r (y:False)=>y.elim) (TM.ts (TS.famO (fun f q=>q) z)))
  (fun t hd' ht=>⟨by cases t <;> rfl,fun Y B w=>by
   cases t with
   | al=>exact absurd rfl ht
   | sl a b =>
    have w:SlP a (qHp Y B) B Z b:=w
    show SlP a (qHp Y B) B (Z.lst Z.w l Z.fa) b
    match a,w with
    | 0,w=>exact w
    | 1,w=>exact w
    | a+2,w=>exact w
   | _=>exact w⟩) (by funext t;cases t <;> rfl) (by funext t;cases t <;> rfl) (fun t z f w=>by subst z;exact .inl w) (fun t t' z z' ne=>absurd (z.trans z'.symm) ne) (fun f z=>.inl z) (fun t hd' f w=>by
   refine (h.sub t hd').1 f ?_
   cases t <;> exact w) (fun f z=>Nat.lt_of_lt_of_le (h.lt.1 f z) hf.len) fun t z=>by subst z;exact hp
theorem IsHl.addAl {l:List Nat} {ty:TypeId} (hw:WF A) (h:IsHl X A n g q Z) (hf:Fr (inFamO A Z.fa) A B) (hg:Gr A Z.fa fo) (hp:Lst ePt Hp.emp B v l fo) (hty:szT Try.prog ty=some 1) :
 ∃ C,evStore Try.prog ty (.ptr Z.hp 2) v B=some C/\IsHl ⟨fun f=>X.f f∨fo=some f,X.b,X.r⟩ C n g q (Z.lst v l fo)/\HStep X A ⟨fun f=>X.f f∨fo=some f,X.b,X.r⟩ C:=by
 have b0:=h.pt .hb trivial
 have bB:B.blk[Z.hp]?=_:=hf.row _ _ b0 (Aa8 b0)
 obtain ⟨C,s1,s2,s3,s4⟩:=Ac0 (P:=Try.prog) (t:=ty) (o:=2) (x:=v) (cs:=[v]) bB (one_cells hp.one) hty (by simp) (by simp [hp.one])
 have s3:C.blk[Z.hp]?=some ⟨[.int .i64 n,.int .i64 g,v,.sl (Z.rb 0) 0 g 1,.sl (Z.rb 1) 0 g 1,.sl (Z.rb 2) 0 g 1],.var⟩:=s3
 have fC:Fr (fun x=>inFamO A Z.fa x∨x=.row Z.hp) A C:=(hf.mono fun x z=>.inl z).trans s2 fun x z=>.inl (.inr z)
 have hfo:∀ f,fo=some f->Z.fa=some f∨A.blk.length<=f:=fun f z=>hg.or z
 refine ⟨C,s1,h.upd (Z':=Z.lst v l fo) hw (fun t=>t=.al∨t=.hb) (fun t z=>by rcases z with rfl | rfl <;> exact trivial) fC (fun x z=>?_) (fun t hd' ht=>⟨?_,fun Y B w=>?_⟩) (by funext t;cases t <;> rfl) (by funext t;cases t <;> rfl) (fun t z f w=>?_) (fun t t' z z' ne f w w'=>?_) (fun f z=>?_) (fun t hd' f w=>?_) (fun f z=>?_) fun t z=>?_⟩
 . rcases z with z | z
   . exact TM.mono (fun b (y:False)=>y.elim) (fun f y=>⟨_,.inl rfl,y⟩) (fun r (y:False)=>y.elim) (TM.ts (TS.famO (fun f q=>q) z))
   . exact TM.ts (TS.row b0 ⟨_,.inr rfl,rfl⟩ z)
 . cases t <;> first | rfl | exact absurd (.inl rfl) ht
 . cases t with
   | al=>exact absurd (.inl rfl) ht
   | hb=>exact absurd (.inr rfl) ht
   | sl a b =>
    have w:SlP a (qHp Y B) B Z b:=w
    show SlP a (qHp Y B) B (Z.lst v l fo) b
    match a,w with
    | 0,w=>exact w
    | 1,w=>exact w
    | a+2,w=>exact w
   | _=>exact w
 . rcases z with rfl | rfl
   . exact hfo f w
   . exact w.elim
 . rcases z with rfl | rfl
   . rcases z' with rfl | rfl
     . exact ne rfl
     . exact w'
   . exact w
 . exact z.elim .inl fun z=>(hfo f z).imp (fun y=>(h.sub .al trivial).1 f y) id
 . cases t with
   | al=>exact .inr w
   | co j=>exact .inl ((h.sub (.co j) hd').1 f w)
   | sl a b=>exact .inl ((h.sub (.sl a b) hd').1 f w)
   | rw a=>exact .inl ((h.sub (.rw a) hd').1 f w)
   | hb=>exact w.elim
 . rcases z with z | z
   . exact Nat.lt_of_lt_of_le (h.lt.1 f z) fC.len
   . exact Nat.lt_of_lt_of_le (hp.famLt f z) s2.len
 . rcases z with rfl | rfl
   . exact Lst.fr hp s2 (.box bB)
   . exact s3
theorem IsHl.addC {K:CoK} {c:Co} (hw:WF A) (h:IsHl X A n g q Z) (hf:Fr S0 A B) (hN:NewC A K) (hC:∀ X:Nat->Prop,(∀ f,X f->f < A.blk.length)->IsCo (fun f=>X f∨XCo K none none f) B K none none c) (hKl:K.cb < B.blk.length/\K.rp < B.blk.length/\K.cp < B.blk.length/\K.mb < B.maps.length/\K.mg < B.maps.length) :
 ∃ X',IsHl X' B n g (q+1) (Z.add q K c)/\HStep X A X' B/\X'.b=fun b=>X.b b∨b=K.cb∨b=K.rp∨b=K.cp:=by
 have hnf:∀ f,XCo K none none f->A.blk.length<=f:=fun f z=>by
  rcases z with (⟨j,hj,rfl⟩ | z) | z
  . exact hN.nr.2 j hj
  . cases z
  . cases z
 have hc:=hC X.f h.lt.1
 have hs:=h.s0 hw hf
 obtain ⟨Z1,hZ1⟩:∃ Z1,Z1=Z.add q K c:=⟨_,rfl⟩
 have e1:∀ t,t≠.co q->Fm Z1 t=Fm Z t/\Bm Z1 t=Bm Z t/\Mm Z1 t=Mm Z t:=fun t ht=>by
  rw [hZ1]
  cases t with
  | co j =>
   have:j≠q:=fun z=>ht (by rw [z])
   refine ⟨?_,?_,?_⟩
   . show XCo (up1 Z.K q K j) (up1 Z.fk q none j) (up1 Z.ft q none j) = _
     rw [Ab7 this,Ab7 this,Ab7 this];rfl
   . show (fun b => b = (up1 Z.K q K j).cb ∨ b = (up1 Z.K q K j).rp ∨ b = (up1 Z.K q K j).cp) = _
     rw [Ab7 this];rfl
   . show (fun b => b = (up1 Z.K q K j).mb ∨ b = (up1 Z.K q K j).mg) = _
     rw [Ab7 this];rfl
  | _=>exact ⟨rfl,rfl,rfl⟩
 have e2:Fm Z1 (.co q)=XCo K none none/\Bm Z1 (.co q)=(fun b=>b=K.cb∨b=K.rp∨b=K.cp)/\Mm Z1 (.co q)=fun r=>r=K.mb∨r=K.mg:=by
  rw [hZ1]
  refine ⟨?_,?_,?_⟩
  . show XCo (up1 Z.K q K q) (up1 Z.fk q none q) (up1 Z.ft q none q) = _
    rw [Ab5,Ab5,Ab5]
  . show (fun b => b = (up1 Z.K q K q).cb ∨ b = (up1 Z.K q K q).rp ∨ b = (up1 Z.K q K q).cp) = _
    rw [Ab5]
  . show (fun b => b = (up1 Z.K q K q).mb ∨ b = (up1 Z.K q K q).mg) = _
    rw [Ab5]
 have hD:∀ t,Dm g (q+1) t->t≠.co q->Dm g q t:=fun t hd ht=>by
  cases t with
  | co j =>
   have:j≠q:=fun z=>ht (by rw [z])
   have hd:j < q+1:=hd
   show j < q;omega
  | _=>exact hd
 have nb:∀ b,(b=K.cb∨b=K.rp∨b=K.cp)->A.blk.length<=b:=fun b z=>by
  rcases z with rfl | rfl | rfl
  . exact hN.cb
  . exact hN.nr.1
  . exact hN.cp
 have nm:∀ r,(r=K.mb∨r=K.mg)->A.maps.length<=r:=fun b z=>by
  rcases z with rfl | rfl
  . exact hN.mb
  . exact hN.mg
 refine ⟨⟨fun f=>X.f f∨XCo K none none f,fun b=>X.b b∨b=K.cb∨b=K.rp∨b=K.cp,fun r=>X.r r∨r=K.mb∨r=K.mg⟩,?_,⟨hf.mono fun _ z=>z.elim,fun f z=>z.imp id (hnf f),fun b z=>z.imp id (nb b),fun r z=>z.imp id (nm r)⟩,rfl⟩
 rw [<- hZ1]
 refine ⟨fun t hd=>?_,fun t t' hd hd' ne=>?_,fun t hd=>?_,?_,?_,?_⟩
 . by_cases ht : t = .co q
   . subst ht
     rw [hZ1]
     show IsCo _ B (up1 Z.K q K q) (up1 Z.fk q none q) (up1 Z.ft q none q) (up1 Z.c q c q)
     rw [Ab5,Ab5,Ab5,Ab5];exact hc
   . have hd := hD t hd ht
     have k:=h.oth (Y:=fun f=>X.f f∨XCo K none none f) (Bx:=fun _=>False) (Zf:=fun _=>False) (Mp:=fun _=>False) hw hd (hf.mono fun _ z=>z.elim) (fun _ z=>z.elim) (fun _ _ z=>z) (fun _ _ z=>z) (fun _ _ z=>z) (fun f z=>z.imp id (hnf f)) (fun f z=>.inl ((h.sub t hd).1 f z)) hc.xlt
     rw [hZ1]
     cases t with
     | co j =>
      have:j≠q:=fun z=>ht (by rw [z])
      show IsCo _ B (up1 Z.K q K j) (up1 Z.fk q none j) (up1 Z.ft q none j) (up1 Z.c q c j)
      rw [Ab7 this,Ab7 this,Ab7 this,Ab7 this];exact k
     | sl a b =>
      have w:SlP a (qHp _ B) B Z b:=k
      show SlP a (qHp _ B) B (Z.add q K c) b
      match a,w with
      | 0,w=>exact w
      | 1,w=>exact w
      | a+2,w=>exact w
     | _=>exact k
 . by_cases ht : t = .co q
   . have ht' : t' ≠ .co q := fun z => ne (ht.trans z.symm)
     subst ht
     have hd':=hD t' hd' ht'
     rw [e2.1,e2.2.1,e2.2.2,(e1 t' ht').1,(e1 t' ht').2.1,(e1 t' ht').2.2]
     obtain ⟨s1,s2,s3⟩:=h.sub t' hd'
     exact ⟨fun f z w=>by have:=hnf f z;have:=h.lt.1 f (s1 f w);omega,fun f z w=>by have:=nb f z;have:=h.lt.2.1 f (s2 f w);omega,fun f z w=>by have:=nm f z;have:=h.lt.2.2 f (s3 f w);omega⟩
   . have hd := hD t hd ht
     rw [(e1 t ht).1,(e1 t ht).2.1,(e1 t ht).2.2]
     obtain ⟨s1,s2,s3⟩:=h.sub t hd
     by_cases ht':t'=.co q
     . subst ht'
       rw [e2.1,e2.2.1,e2.2.2]
       exact ⟨fun f w z=>by have:=hnf f z;have:=h.lt.1 f (s1 f w);omega,fun f w z=>by have:=nb f z;have:=h.lt.2.1 f (s2 f w);omega,fun f w z=>by have:=nm f z;have:=h.lt.2.2 f (s3 f w);omega⟩
     . rw [(e1 t' ht').1, (e1 t' ht').2.1, (e1 t' ht').2.2]
       exact h.ap t t' hd (hD t' hd' ht') ne
 . by_cases ht : t = .co q
   . subst ht
     rw [e2.1,e2.2.1,e2.2.2]
     exact ⟨fun f z=>.inr z,fun f z=>.inr z,fun f z=>.inr z⟩
   . have hd := hD t hd ht
     rw [(e1 t ht).1,(e1 t ht).2.1,(e1 t ht).2.2]
     obtain ⟨s1,s2,s3⟩:=h.sub t hd
     exact ⟨fun f z=>.inl (s1 f z),fun f z=>.inl (s2 f z),fun f z=>.inl (s3 f z)⟩
 . exact hc.xlt
 . intro b z
   rcases z with z | rfl | rfl | rfl
   . exact Nat.lt_of_lt_of_le (h.lt.2.1 b z) hf.len
   . exact hKl.1
   . exact hKl.2.1
   . exact hKl.2.2.1
 . intro r z
   rcases z with z | rfl | rfl
   . exact Nat.lt_of_lt_of_le (h.lt.2.2 r z) hf.mlen
   . exact hKl.2.2.2.1
   . exact hKl.2.2.2.2
theorem IsHl.swp (h:IsHl X A n g (q+1) Z) (hi:i < q):IsHl X A n g q (Z.swp i q):=by
 obtain ⟨sg,hsg⟩:∃ sg,sg=sgT i q:=⟨_,rfl⟩
 have hF:∀ t,Fm (Z.swp i q) t=Fm Z (sg t)/\Bm (Z.swp i q) t=Bm Z (sg t)/\Mm (Z.swp i q) t=Mm Z (sg t)/\∀ Y A,Pt n g Z Y A (sg t)->Pt n g (Z.swp i q) Y A t:=by
  intro t
  rw [hsg]
  cases t with
  | co j =>
   obtain ⟨j',hj'⟩:∃ j',j'=(if j=i then q else j):=⟨_,rfl⟩
   have es:sgT i q (.co j)=.co j':=by rw [hj'];rfl
   have e1:(Z.swp i q).K j=Z.K j'/\(Z.swp i q).fk j=Z.fk j'/\(Z.swp i q).ft j=Z.ft j'/\(Z.swp i q).c j=Z.c j':=by
    by_cases e:j=i
    . rw [if_pos e]at hj';subst hj' e;exact ⟨Ab5,Ab5,Ab5,Ab5⟩
    . rw [if_neg e]at hj';subst hj';exact ⟨Ab7 e,Ab7 e,Ab7 e,Ab7 e⟩
   obtain ⟨a1,a2,a3,a4⟩:=e1
   rw [es]
   refine ⟨?_,?_,?_,fun Y A w=>?_⟩
   . show XCo ((Z.swp i q).K j) ((Z.swp i q).fk j) ((Z.swp i q).ft j) = _
     rw [a1,a2,a3];rfl
   . show (fun b => b = ((Z.swp i q).K j).cb ∨ b = ((Z.swp i q).K j).rp ∨ b = ((Z.swp i q).K j).cp) = _
     rw [a1];rfl
   . show (fun b => b = ((Z.swp i q).K j).mb ∨ b = ((Z.swp i q).K j).mg) = _
     rw [a1];rfl
   . show IsCo Y A ((Z.swp i q).K j) ((Z.swp i q).fk j) ((Z.swp i q).ft j) ((Z.swp i q).c j)
     rw [a1,a2,a3,a4];exact w
  | sl a b =>
   refine ⟨rfl,rfl,rfl,fun Y A w=>?_⟩
   have w:SlP a (qHp Y A) A Z b:=w
   show SlP a (qHp Y A) A (Z.swp i q) b
   match a,w with
   | 0,w=>exact w
   | 1,w=>exact w
   | a+2,w=>exact w
  | _=>exact ⟨rfl,rfl,rfl,fun Y A w=>w⟩
 have hd:∀ t,Dm g q t->Dm g (q+1) (sg t):=fun t hd=>by
  rw [hsg]
  cases t with
  | co j =>
   have hd:j < q:=hd
   show (if j=i then q else j) < q+1
   split <;> omega
  | _=>exact hd
 have hj:∀ t t',Dm g q t->Dm g q t'->t≠t'->sg t≠sg t':=fun t t' hd hd' ne z=>by
  rw [hsg]at z
  cases t with
  | co j =>
   cases t' with
   | co j' =>
    have hd:j < q:=hd
    have hd':j' < q:=hd'
    have z:Tg.co (if j=i then q else j)=Tg.co (if j'=i then q else j'):=z
    injection z with z
    refine ne ?_
    have:j=j':=by
     by_cases e:j=i
     . rw [if_pos e] at z
       by_cases e':j'=i
       . omega
       . rw [if_neg e']at z;omega
     . rw [if_neg e] at z
       by_cases e':j'=i
       . rw [if_pos e']at z;omega
       . rw [if_neg e']at z;omega
    rw [this]
   | _=>cases z
  | _=>cases t' <;> first | exact ne z | cases z
 refine ⟨fun t h'=>(hF t).2.2.2 _ _ (h.pt _ (hd t h')),fun t t' h1 h2 ne=>?_,fun t h1=>?_,h.lt⟩
 . rw [(hF t).1, (hF t).2.1, (hF t).2.2.1, (hF t').1, (hF t').2.1, (hF t').2.2.1]
   exact h.ap _ _ (hd t h1) (hd t' h2) (hj t t' h1 h2 ne)
 . rw [(hF t).1, (hF t).2.1, (hF t).2.2.1]
   exact h.sub _ (hd t h1)
end
end Go.Sv.Try
namespace Go.Sv
open Go
theorem CoOk.sz {c:Co} (h:CoOk c):SzB c:=fun p q=>(h.bat p q).2
theorem Az0 (c:Co) (l:List Act):(c.act l).1.now=c.now:=(Ay5 l (c,[],false)).2.2
theorem AS8 (c:Co) (b:Bts):(c.Begin b).1.now=c.now:=by
 unfold Co.Begin;split
 . rfl
 . exact Az0 _ _
theorem AS9 (c:Co) (w:Int) (ids:List Bts):∀ k,(c.hearI w ids k).1.now=c.now
 | 0=>rfl
 | k+1=>by
  have em:c.hearI w ids (k+1)=Co.hear1 w ids (c.hearI w ids k) k:=by unfold Co.hearI;rw [List.range_succ,List.foldl_append];rfl
  rw [em]
  refine Eq.trans ?_ (AS9 c w ids k)
  unfold Co.hear1;split <;> rfl
theorem AN4 (c:Co) (w:Int) (x:M):(c.Hear w x).1.now=c.now:=by
 unfold Co.Hear
 split
 . rfl
 split
 . split
   . rfl
   . exact Az0 _ _
 split
 . exact (Az0 _ _).trans (AS9 _ _ _ _)
 split
 . split
   . rfl
   . exact Az0 _ _
 . exact Az0 _ _
theorem Bq6 (c:Co):c.Tick.1.now=c.now+1:=by
 have:∀ (l:List DueP) (y:Co×List Act),(l.foldl Co.tick1 y).1.now=y.1.now:=by
  intro l
  induction l with
  | nil=>exact fun y=>rfl
  | cons x l ih=>exact fun y=>ih (Co.tick1 y x)
 exact (Az0 _ _).trans (this _ (c.tick0,[]))
theorem AJ7 (l:List M):∀ c:Co,(c.Recall l).now=c.now:=by
 induction l with
 | nil=>exact fun c=>rfl
 | cons m l ih =>
  intro c
  refine (ih (Co.recall1 c m)).trans ?_
  unfold Co.recall1
  repeat' split
  all_goals rfl
end Go.Sv
namespace Go.Sv.Try
open Go Go.Proofs
section
variable {c:Co}
theorem AT0 (hr:Rng c.rd) (ha:c.rd.acts=[]) (b:Bts):(c.Begin b).2.length<=100000:=by
 unfold Co.Begin
 split
 . simp
 have k:=hr.Know (batchI b)
 rw [ha]at k
 have k2:=k.1.Begin (batchI b)
 rw [k.2.2]at k2
 have h1:(c.learn b).2.length<=2000:=by have:=k.2.1;rw [List.length_nil,Nat.zero_add]at this;exact this
 have h2:((c.learn b).1.rd.Begin (batchI b)).2.length<=2001:=by have:=k2.2.1;rw [List.length_nil,Nat.zero_add]at this;exact this
 refine Nat.le_trans (Au1 _ _) ?_
 rw [List.length_append];omega
theorem AT1 (hr:Rng c.rd) (ha:c.rd.acts=[]) (w:Int) (ids:List Bts):∀ k,Rng (c.hearI w ids k).1.rd/\(c.hearI w ids k).1.rd.acts=[]/\(c.hearI w ids k).2.length<=2000 * k
 | 0=>⟨hr,ha,by show ([]:List Act).length<=_;simp⟩
 | k+1=>by
  have em:c.hearI w ids (k+1)=Co.hear1 w ids (c.hearI w ids k) k:=by unfold Co.hearI;rw [List.range_succ,List.foldl_append];rfl
  rw [em]
  obtain ⟨h1,h2,h3⟩:=AT1 hr ha w ids k
  generalize c.hearI w ids k=y at *
  unfold Co.hear1
  split
  . exact ⟨h1,h2,by omega⟩
  . have q := h1.Voted ((k / 2 : Nat) : Int) ((k % 2 : Nat) : Int) w ((ids[k]?).getD z32)
    rw [h2]at q
    refine ⟨q.1,q.2.2,?_⟩
    show (y.2++_).length<=_
    rw [List.length_append]
    have:=q.2.1;rw [List.length_nil,Nat.zero_add]at this;omega
theorem AN5 (hr:Rng c.rd) (ha:c.rd.acts=[]) (w:Int) (x:M):(c.Hear w x).2.length<=100000:=by
 have hl:∀ b,(c.learn b).2.length<=2000:=fun b=>by
  have k:=hr.Know (batchI b)
  rw [ha]at k
  have:=k.2.1;rw [List.length_nil,Nat.zero_add]at this;exact this
 unfold Co.Hear
 split
 . simp
 split
 . split
   . simp
   have k:=hr.Know (batchI x.data)
   rw [ha]at k
   have k2:=k.1.Offered x.round x.valid (batchI x.data)
   rw [k.2.2]at k2
   have h2:((c.learn x.data).1.rd.Offered x.round x.valid (batchI x.data)).2.length<=2000:=by have:=k2.2.1;rw [List.length_nil,Nat.zero_add]at this;exact this
   refine Nat.le_trans (Au1 _ _) ?_
   show ((c.learn x.data).2++_).length+1<=_
   rw [List.length_append]
   have:=hl x.data;omega
 split
 . refine Nat.le_trans (Au1 _ _) ?_
   have:=(AT1 hr ha w x.ids (min x.ids.length 24)).2.2
   have e:c.hearS w x.ids=c.hearI w x.ids (min x.ids.length 24):=rfl
   rw [e]
   have:=Nat.min_le_right x.ids.length 24
   omega
 split
 . split
   . simp
   refine Nat.le_trans (Au1 _ _) ?_
   have:(c.hearV w x).2.length<=2000:=hl x.data
   omega
 . exact Nat.le_trans (Au1 _ _) (by simp)
theorem Bq7 (hr:Rng c.rd) (ha:c.rd.acts=[]) (ht:c.tim.length<=40):c.Tick.2.length<=100000:=by
 have e:c.tickI (overL (c.now+1) c.tim).length=c.tickS:=by unfold Co.tickI Co.tickS;rw [List.take_length]
 have h:=(Av6 hr ha (overL (c.now+1) c.tim).length).2.2
 rw [e]at h
 have hl:(overL (c.now+1) c.tim).length<=40:=Nat.le_trans (List.length_filter_le _ _) ht
 have ha2:c.tickA.2.length<=c.tickS.2.length+1:=Au1 _ _
 have hg:∀ (c:Co) (l:List M),(again c l).length<=l.length+3:=by
  intro c l
  have h1:(o1 c l).length<=l.length+1:=by unfold o1;split <;> simp
  have h2:(o2 c (o1 c l)).length<=(o1 c l).length+1:=by
   generalize o1 c l=y
   unfold o2;split <;> simp
  have h3:(o3 c (o2 c (o1 c l))).length<=(o2 c (o1 c l)).length+1:=by
   generalize o2 c (o1 c l)=y
   unfold o3;split <;> simp
  show (o3 c (o2 c (o1 c l))).length<=_
  omega
 have:=hg c.tickA.1 c.tickA.2
 show (again c.tickA.1 c.tickA.2).length<=_
 omega
end
section
variable {X Y:Nat->Prop} {A B C:AS} {K:CoK} {c c1 c2:Co} {fk ft fk1 ft1 fk2 ft2 fo fo2:Option Nat} {S:Loc->Prop} {m:Hp}
structure RunM (X:Nat->Prop) (A:AS) (K:CoK) (fk ft:Option Nat) (c:Co) (k:Nat) (l:List M) (B:AS) (w:V) (fk' ft' fo:Option Nat):Prop where
 st:CStep X A K fk ft B fk' ft' fo c
 lst:Lst eMsg (qHp (nz X fk' ft' fo) B) B w l fo
 len:l.length<=100000 * (k+1)
 now:c.now<=k
theorem RunM.hear {k:Nat} {l:List M} {w dv iv lv:V} {x:M} {who:Int} (hw:WF A) (h:RunM X A K fk ft c k l B w fk1 ft1 fo) (hf:Fr S0 B C) (hx:MsgIn (qHp (nz X fk1 ft1 fo) C) x dv iv lv) (hi:x.ids.length<=1000000) (hd:x.data.length<=1000000000) (hk:k<=500) :
 ∃ u D v' E fk2 ft2 fo2,EvF Try.prog HH 10 [.ptr K.cb 0,.int .i64 who,.agg (mc x dv iv lv)] C u D/\evAppend Try.prog 34 34 w u D=some (v',E)/\RunM X A K fk ft (c.Hear who x).1 (k+1) (l++(c.Hear who x).2) E v' fk2 ft2 fo2:=by
 have h1:=h.st.then0 hf
 have hl:=AN5 h1.co.rng h1.co.acts who x
 obtain ⟨u,D,k1,k2⟩:=AE5 (h1.wf hw) h1.co hx hi hd (w:=who)
 obtain ⟨v',E,fk2,ft2,fo2,p1,p2,p3⟩:=h1.msgs hw (CStep.lst0 h.lst hf) k2 (by have:=h.len;omega)
 exact ⟨u,D,v',E,fk2,ft2,fo2,k1,p1,p2,p3,by rw [List.length_append];have:=h.len;omega,by rw [AN4];have:=h.now;omega⟩
end
end Go.Sv.Try
namespace Go.Sv
open Go
def sendTo1 (fr:Nat) (x:M) (ml:Nat->List (Int×M)) (j:Nat):Nat->List (Int×M):=if j≠fr/\(ml j).length < 200 then up1 ml j (ml j++[((fr:Int),x)]) else ml
def sendM (g fr:Nat) (ml:Nat->List (Int×M)) (x:M):Nat->List (Int×M):=(List.range g).foldl (sendTo1 fr x) ml
def sendL (g fr:Nat) (ml:Nat->List (Int×M)) (l:List M):Nat->List (Int×M):=l.foldl (sendM g fr) ml
def HC.inn (Z:HC) (fl:Nat->Nat->Option Nat) (vv:Nat->Nat->V) (ml:Nat->List (Int×M)) (lg:Nat->List M) (hd:Nat->List M):HC:={ Z with fl:=fl,vv:=vv,ml:=ml,lg:=lg,hd:=hd }
def ML (ml:Nat->List (Int×M)):Prop:=∀ j,(ml j).length<=200
theorem ML.to1 {fr:Nat} {x:M} {ml:Nat->List (Int×M)} (h:ML ml) (j:Nat):ML (sendTo1 fr x ml j):=by
 intro i
 unfold sendTo1
 split
 . rename_i q
   by_cases e:i=j
   . subst e;rw [Ab5,List.length_append];have:=q.2;simp;omega
   . rw [Ab7 e];exact h i
 . exact h i
theorem ML.fold {fr:Nat} {x:M} {ml:Nat->List (Int×M)} (h:ML ml):∀ l:List Nat,ML (l.foldl (sendTo1 fr x) ml):=by
 intro l
 induction l generalizing ml with
 | nil=>exact h
 | cons j l ih=>exact ih (h.to1 j)
theorem ML.all {g fr:Nat} {ml:Nat->List (Int×M)} (h:ML ml):∀ l:List M,ML (sendL g fr ml l):=by
 intro l
 induction l generalizing ml with
 | nil=>exact h
 | cons x l ih=>exact ih (h.fold _)
end Go.Sv
namespace Go.Sv.Try
open Go Go.Proofs
section
variable {X X' X2:HX} {Y:Nat->Prop} {A B C:AS} {n g q i k:Nat} {Z Z':HC} {S:Loc->Prop} {m m':Hp} {t:Tg} {v:V} {fo:Option Nat} {ml:Nat->List (Int×M)} {lg hd:Nat->List M}
theorem B14 (b:Nat):evFieldAddr Try.prog 55 (.ptr b 0) 0=some (.ptr b 0)/\evFieldAddr Try.prog 55 (.ptr b 0) 1=some (.ptr b 1)/\evFieldAddr Try.prog 55 (.ptr b 0) 2=some (.ptr b 2)/\evFieldAddr Try.prog 55 (.ptr b 0) 3=some (.ptr b 3)/\evFieldAddr Try.prog 55 (.ptr b 0) 4=some (.ptr b 4)/\evFieldAddr Try.prog 55 (.ptr b 0) 5=some (.ptr b 5):=⟨by kernel_rfl,by kernel_rfl,by kernel_rfl,by kernel_rfl,by kernel_rfl,by kernel_rfl⟩
theorem AZ6 {hp:Nat} {kk:BK} {v0 v1 v2 v3 v4 v5:V} (h:A.blk[hp]?=some ⟨[v0,v1,v2,v3,v4,v5],kk⟩):evLoad Try.prog 3 (.ptr hp 0) A=some v0/\evLoad Try.prog 3 (.ptr hp 1) A=some v1/\evLoad Try.prog 51 (.ptr hp 2) A=some v2/\evLoad Try.prog 52 (.ptr hp 3) A=some v3/\evLoad Try.prog 53 (.ptr hp 4) A=some v4/\evLoad Try.prog 53 (.ptr hp 5) A=some v5 :=
 ⟨by rw [Ab3 ag3 h];rfl,by rw [Ab3 ag3 h];rfl,by rw [Ab3 Ci8 h];rfl,by rw [Ab3 Ci9 h];rfl,by rw [Ab3 Cd5 h];rfl,by rw [Ab3 Cd5 h];rfl⟩
theorem Cc9 {b n i:Nat} (hi:i < n):evIndexAddr Try.prog 52 (.sl b 0 n 1) (.int .i64 (i:Int))=some (.ptr b i):=by
 have:=AQ3 (P:=Try.prog) (b:=b) (o:=0) (k:=.i64) (n:=n) Try.underlying52 B23 hi
 rw [Nat.zero_add,Nat.mul_one]at this;exact this
theorem B15 {b n i:Nat} (hi:i < n):evIndexAddr Try.prog 53 (.sl b 0 n 1) (.int .i64 (i:Int))=some (.ptr b i):=by
 have:=AQ3 (P:=Try.prog) (b:=b) (o:=0) (k:=.i64) (n:=n) Try.underlying53 B20 hi
 rw [Nat.zero_add,Nat.mul_one]at this;exact this
theorem BT5 {f:Nat->V} (hi:i < g):((List.range g).map f)[i]?=some (f i):=by rw [List.getElem?_map,List.getElem?_range hi];rfl
theorem B69 {b:Nat} {kk:BK} {f:Nat->V} (h:A.blk[b]?=some ⟨(List.range g).map f,kk⟩) (hi:i < g):evLoad Try.prog 93 (.ptr b i) A=some (f i):=by rw [Ab3 Cj7 h];exact BT5 hi
theorem B16 {b:Nat} {kk:BK} {f:Nat->V} (h:A.blk[b]?=some ⟨(List.range g).map f,kk⟩) (hi:i < g):evLoad Try.prog 34 (.ptr b i) A=some (f i):=by rw [Ab3 Ci4 h];exact BT5 hi
theorem AE8 {x:Int×M} {dv iv lv:V} (h:x.2.id.length=32):(sentC x dv iv lv).length=42:=by show (mc _ _ _ _).length+1=42;rw [Ai6 h]
theorem B70 {x:Int×M} {dv iv lv:V} (h:x.2.id.length=32):bsl Try.prog 93 1 (some [(0,.agg (sentC x dv iv lv))])=some (.newSl (sentC x dv iv lv) 1 42):=AQ4 Try.underlying93 B06 Ca5 rfl (AE8 h) (by decide)
theorem BT6 (k:Nat->V) (a:Int):evBuild Try.prog 95 [(0,.int .i64 a),(1,.agg ((List.range 41).map k))]=some (.agg (.int .i64 a::(List.range 41).map k)):=by kernel_rfl
theorem B71 {x:M} {dv iv lv:V} (h:x.id.length=32) (a:Int):evBuild Try.prog 95 [(0,.int .i64 a),(1,.agg (mc x dv iv lv))]=some (.agg (sentC (a,x) dv iv lv)):=by
 obtain ⟨k,hk⟩:=Ac9 (l:=mc x dv iv lv) (n:=41) (Ai6 h)
 unfold sentC;rw [hk];exact BT6 k a
theorem PutRes.apart {Xn:Nat->Prop} (h:PutRes X A n g q Z C Xn Z') {τ:Type} {E:Enc τ} {w:V} {l:List τ} {fo2:Option Nat} (hl:Lst E (qHp X.f A) A w l fo2) (ho:∀ f,fo2=some f->∀ t,Dm g q t->¬ Fm Z t f):Lst E (qHp Xn C) C w l fo2/\∀ f,fo2=some f->∀ t,Dm g q t->¬ Fm Z' t f:=h.2.2 τ E w l fo2 hl ho
set_option maxRecDepth 10000 in
set_option maxHeartbeats 32000000 in
theorem Bg0 {fr:Nat} {w:V} {l:List M} {fo:Option Nat} (hw:WF A) (h:IsHl X A n g q Z) (hal:Z.al.length=g) (hfr:fr < g) (hg:g<=7) (hL:Lst eMsg (qHp X.f A) A w l fo) (hfo:∀ f,fo=some f->∀ t,Dm g q t->¬ Fm Z t f) (hll:l.length<=100000) (hgl:(Z.lg fr).length<=100000000) (hml:ML Z.ml) :
 ∃ u B,EvF Try.prog HH 33 [.ptr Z.hp 0,.int .i64 (fr:Int),w] A u B/\∃ X' fl vv,IsHl X' B n g q (Z.inn fl vv (sendL g fr Z.ml l) (up1 Z.lg fr (Z.lg fr++l)) Z.hd)/\HStep X A X' B:=by
 refine Aa4 rfl Try.func33 (by unfold Try.f33;rfl) Try.ntmps33 (by unfold Try.f33;rfl) (by simp) ?_
 have fH:=B14 Z.hp
 have lh:=AZ6 (h.pt .hb trivial)
 have ix1:=B15 (b:=Z.rb 1) hfr
 have lr1:=B16 (h.pt (.rw 1) (by show 1 < 3;omega)).1 hfr
 have s1:Lst eMsg (qHp X.f A) A (Z.vv 1 fr) (Z.lg fr) (Z.fl 1 fr):=h.pt (.sl 1 fr) ⟨by omega,hfr⟩
 obtain ⟨cs',q1,q2⟩:=hL.src (P:=Try.prog) (tx:=34) Try.underlying34
 obtain ⟨v',B1,fo1,p1,p2,p3,p4⟩:=s1.app (P:=Try.prog) (t:=34) (tx:=34) (e:=28) B25 hw q1 q2 (by omega) (by omega)
 obtain ⟨C,z1,hP⟩:=h.putLg (ty:=34) hw hfr p3 p4 p2 B20
 obtain ⟨hL1,ho1⟩:=hP.apart hL hfo
 have hH1:IsHl _ C n g q (Z.inn (up2 Z.fl 1 fr fo1) (up2 Z.vv 1 fr v') Z.ml (up1 Z.lg fr (Z.lg fr++l)) Z.hd):=hP.1
 have hS1:=hP.2.1
 have hlen:=fun B=>hL.len (P:=Try.prog) Try.underlying34 B
 simp only [RT,Q0,Q1,Q2,Q3,Q4,Q5,Q6,Q7,Q8,fH,lh,ix1,lr1,BK8,Aa1]
 have lhB:=AZ6 (p3.row _ _ (h.pt .hb trivial) (Aa8 (h.pt .hb trivial)))
 simp only [RT,Q0,Q1,Q2,Q3,Q4,Q5,Q6,Q7,Q8,p1,Aa1]
 refine ⟨Aa3 (ha:=rfl) rfl lhB.2.2.2.2.1 rfl Aa1,?_⟩
 simp only [RT,Q0,Q1,Q2,Q3,Q4,Q5,Q6,Q7,Q8,ix1,z1,Aa1,hlen]
 refine Aa6 (fun z e B=>∃ (j:Nat) (X':HX) (fl:Nat->Nat->Option Nat) (vv:Nat->Nat->V),z=l.length - j/\j<=l.length/\e.get 26=.int .i64 j/\IsHl X' B n g q (Z.inn fl vv (sendL g fr Z.ml (l.take j)) (up1 Z.lg fr (Z.lg fr++l)) Z.hd)/\HStep X A X' B/\Lst eMsg (qHp X'.f B) B w l fo/\(∀ f,fo=some f->∀ t,Dm g q t->¬ Fm (Z.inn fl vv (sendL g fr Z.ml (l.take j)) (up1 Z.lg fr (Z.lg fr++l)) Z.hd) t f)/\e.get 0=.ptr Z.hp 0/\e.get 1=.int .i64 fr/\e.get 24=w/\e.get 25=.int .i64 l.length)
  (fun z e B=>Is z (.exit 0)/\∃ (X':HX) (fl:Nat->Nat->Option Nat) (vv:Nat->Nat->V),IsHl X' B n g q (Z.inn fl vv (sendL g fr Z.ml l) (up1 Z.lg fr (Z.lg fr++l)) Z.hd)/\HStep X A X' B)
  ⟨_,0,_,_,_,rfl,by omega,rfl,hH1,hS1,hL1,ho1,rfl,rfl,rfl,rfl⟩ ?_ ?_
 rotate_left
 . rintro z e B hz ⟨rfl, X', fl, vv, a1, a2⟩
   simp only [RT,Q0,Q1,Q2,Q3,Q4,Q5,Q6,Q7,Q8]
   exact ⟨X',fl,vv,a1,a2⟩
 rintro z e B ⟨j,X1,fl,vv,rfl,hj,h26,hH,hS,hLj,hoj,h0,h1,h24,h25⟩
 simp only [RT,Q0,Q1,Q2,Q3,Q4,Q5,Q6,Q7,Q8,h25,h26]
 refine Aa7 (fun g1=>?_) (fun g1=>?_)
 rotate_left
 . have : j = l.length := by omega
   subst this
   rw [List.take_length]at hH
   simp only [RT,Q0,Q1,Q2,Q3,Q4,Q5,Q6,Q7,Q8]
   exact ⟨rfl,X1,fl,vv,hH,hS⟩
 have hj':j < l.length:=by omega
 obtain ⟨x,hx⟩:=Ag4 (l:=l) (i:=j) hj'
 have wB:=hS.wf hw
 obtain ⟨bb,o,dv,iv,lv,g3,g4,hin⟩:=BC4 hLj (Af3 _ B) hx
 obtain ⟨D,t1,t2,t3⟩:=Ay3 (A:=B) hin
 have wD:=t2.wf wB
 obtain ⟨b7,hb7⟩:∃ b,b=B.blk.length:=⟨_,rfl⟩
 rw [<- hb7]at t1 t3
 have hHD:=hH.s0 wB t2
 have nb7:¬ X1.b b7:=fun z=>by have:=hH.lt.2.1 b7 z;omega
 have lD:=AZ6 (hHD.pt .hb trivial)
 have lD2:evLoad Try.prog 51 (.ptr Z.hp 2) D=some Z.w:=lD.2.2.1
 have alL:Lst ePt Hp.emp D Z.w Z.al Z.fa:=hHD.pt .al trivial
 have hlA:=fun E=>alL.len (P:=Try.prog) Try.underlying51 E
 rw [hal]at hlA
 obtain ⟨mlj,hmlj⟩:∃ m,m=sendL g fr Z.ml (l.take j):=⟨_,rfl⟩
 have hmj:ML mlj:=by rw [hmlj];exact hml.all _
 rw [<- hmlj]at hH hHD hoj
 obtain ⟨LG,hLG⟩:∃ m,m=up1 Z.lg fr (Z.lg fr++l):=⟨_,rfl⟩
 rw [<- hLG]at hH hHD hoj ⊢
 have hwj:IntKind.i64.wrap ((j:Int)+1)=((j+1:Nat):Int):=by rw [Ae4 (by omega)]
 have ej:sendL g fr Z.ml (l.take (j+1))=(List.range g).foldl (sendTo1 fr x) mlj:=by
  rw [List.take_add_one,hx]
  unfold sendL at hmlj ⊢
  rw [List.foldl_append,<- hmlj];rfl
 simp only [RT,Q0,Q1,Q2,Q3,Q4,Q5,Q6,Q7,Q8,h24,h26,g3,g4,zcM,<- hb7,t1,h0,fH,lD2,hlA]
 refine Aa6 (fun z e B=>∃ (i:Nat) (X':HX) (fl:Nat->Nat->Option Nat) (vv:Nat->Nat->V),z=g - i/\i<=g/\e.get 35=.int .i64 i/\IsHl X' B n g q (Z.inn fl vv ((List.range i).foldl (sendTo1 fr x) mlj) LG Z.hd)/\HStep X1 D X' B/\Lst eMsg (qHp X'.f B) B w l fo/\(∀ f,fo=some f->∀ t,Dm g q t->¬ Fm (Z.inn fl vv ((List.range i).foldl (sendTo1 fr x) mlj) LG Z.hd) t f)/\B.blk[b7]?=some ⟨mc x dv iv lv,.var⟩/\e.get 7=.ptr b7 0/\e.get 26=.int .i64 j/\e.get 0=.ptr Z.hp 0/\e.get 1=.int .i64 fr/\e.get 24=w/\e.get 25=.int .i64 l.length/\e.get 34=.int .i64 g)
  (fun z e B=>Is z (.exit 2)/\∃ (X':HX) (fl:Nat->Nat->Option Nat) (vv:Nat->Nat->V),IsHl X' B n g q (Z.inn fl vv ((List.range g).foldl (sendTo1 fr x) mlj) LG Z.hd)/\HStep X1 D X' B/\Lst eMsg (qHp X'.f B) B w l fo/\(∀ f,fo=some f->∀ t,Dm g q t->¬ Fm (Z.inn fl vv ((List.range g).foldl (sendTo1 fr x) mlj) LG Z.hd) t f)/\e.get 26=.int .i64 j/\e.get 0=.ptr Z.hp 0/\e.get 1=.int .i64 fr/\e.get 24=w/\e.get 25=.int .i64 l.length)
  ⟨_,0,X1,fl,vv,rfl,by omega,rfl,hHD,.rfl',(hLj.fr0 t2).mono (Ad8 t2),hoj,t3,rfl,h26,h0,h1,h24,h25,rfl⟩ ?_ ?_
 rotate_left
 . rintro z e E hz ⟨rfl, X2, fl2, vv2, a1, a2, a3, a4, h26, h0, h1, h24, h25⟩
   simp only [RT,Q0,Q1,Q2,Q3,Q4,Q5,Q6,Q7,Q8,h26,hwj]
   refine ⟨l.length - (j+1),by omega,j+1,X2,fl2,vv2,rfl,by omega,rfl,?_⟩
   rw [ej]
   have hSS:=hS.trans hw (HStep.trans wB (.of0 t2) a2)
   and_intros <;> first | rfl | assumption
 rintro z e E ⟨i,X2,fl2,vv2,rfl,hi,h35,hH2,hS2,hL2,ho2,r7,h7,h26,h0,h1,h24,h25,h34⟩
 simp only [RT,Q0,Q1,Q2,Q3,Q4,Q5,Q6,Q7,Q8,h34,h35]
 refine Aa7 (fun c1=>?_) (fun c1=>?_)
 rotate_left
 . have : i = g := by omega
   subst this
   simp only [RT,Q0,Q1,Q2,Q3,Q4,Q5,Q6,Q7,Q8]
   refine ⟨rfl,X2,fl2,vv2,?_⟩
   and_intros <;> first | rfl | assumption
 have hig:i < g:=by omega
 have wE:=hS2.wf wD
 have hwi:IntKind.i64.wrap ((i:Int)+1)=((i+1:Nat):Int):=by rw [Ae4 (by omega)]
 obtain ⟨mli,hmi⟩:∃ m,m=(List.range i).foldl (sendTo1 fr x) mlj:=⟨_,rfl⟩
 have hil:ML mli:=by rw [hmi];exact hmj.fold _
 have en:(List.range (i+1)).foldl (sendTo1 fr x) mlj=sendTo1 fr x mli i:=by rw [List.range_succ,List.foldl_append,<- hmi];rfl
 rw [<- hmi]at hH2 ho2
 by_cases c2:i=fr
 . simp only [RT, Q0, Q1, Q2, Q3, Q4, Q5, Q6, Q7, Q8, h35, h1, decide_eq_false (show ¬ ¬ ((i : Int) = (fr : Int)) by omega), hwi]
   have e1:sendTo1 fr x mli i=mli:=by unfold sendTo1;rw [if_neg (fun q=>q.1 c2)]
   refine ⟨g - (i+1),by omega,i+1,X2,fl2,vv2,rfl,by omega,rfl,?_⟩
   rw [en,e1]
   and_intros <;> first | rfl | assumption
 have lE:=AZ6 (hH2.pt .hb trivial)
 have lE3:evLoad Try.prog 52 (.ptr Z.hp 3) E=some (.sl (Z.rb 0) 0 g 1):=lE.2.2.2.1
 have ix0:=Cc9 (b:=Z.rb 0) hig
 have lr0:evLoad Try.prog 93 (.ptr (Z.rb 0) i) E=some (vv2 0 i):=B69 (h:=(hH2.pt (.rw 0) (by show 0 < 3;omega)).1) hig
 have s0:Lst eSent (qHp X2.f E) E (vv2 0 i) (mli i) (fl2 0 i):=hH2.pt (.sl 0 i) ⟨by omega,hig⟩
 have hl0:=fun B=>s0.len (P:=Try.prog) Try.underlying93 B
 by_cases c3:(mli i).length < 200
 rotate_left
 . simp only [RT, Q0, Q1, Q2, Q3, Q4, Q5, Q6, Q7, Q8, h35, h1, decide_eq_true (show ¬ ((i : Int) = (fr : Int)) by omega), h0, fH, lE3, ix0, lr0, hl0, decide_eq_false (show ¬ (((mli i).length : Int) < 200) by omega), hwi]
   have e1:sendTo1 fr x mli i=mli:=by unfold sendTo1;rw [if_neg (fun q=>c3 q.2)]
   refine ⟨g - (i+1),by omega,i+1,X2,fl2,vv2,rfl,by omega,rfl,?_⟩
   rw [en,e1]
   and_intros <;> first | rfl | assumption
 have hleE:=Hp.le_trans (Ad8 (X:=X1.f) t2) (hS2.le wD)
 have hinE:=hin.mono hleE
 obtain ⟨v4,F,fo4,y1,y2,y3,y4⟩:=s0.push (P:=Try.prog) (t:=93) (tx:=93) (n:=42) rfl Ck3 Try.underlying93 wE (y:=((fr:Int),x)) (cs':=sentC ((fr:Int),x) dv iv lv) ⟨dv,iv,lv,rfl,hinE⟩ (by omega) (by omega)
 obtain ⟨G,z1',hP2⟩:=hH2.putMl (ty:=93) wE hig y3 y4 y2 B23
 obtain ⟨hL3,ho3⟩:=hP2.apart hL2 ho2
 have hH3:IsHl _ G n g q (Z.inn (up2 fl2 0 i fo4) (up2 vv2 0 i v4) (up1 mli i (mli i++[((fr:Int),x)])) LG Z.hd):=hP2.1
 have r7':=hP2.2.1.box r7 (hS2.nb t3 nb7)
 have lm7:=ldM r7 hin.id
 have lF:evLoad Try.prog 52 (.ptr Z.hp 3) F=some (.sl (Z.rb 0) 0 g 1):=(AZ6 (y3.row _ _ (hH2.pt .hb trivial) (Aa8 (hH2.pt .hb trivial)))).2.2.2.1
 have bS:=B71 (dv:=dv) (iv:=iv) (lv:=lv) hin.id (fr:Int)
 have bSl:=B70 (x:=((fr:Int),x)) (dv:=dv) (iv:=iv) (lv:=lv) hin.id
 simp only [RT,Q0,Q1,Q2,Q3,Q4,Q5,Q6,Q7,Q8,h35,h1,decide_eq_true (show ¬ ((i:Int)=(fr:Int)) by omega),h0,fH,lE3,ix0,lr0,hl0,decide_eq_true (show (((mli i).length:Int) < 200) by omega)]
 simp only [RT,Q0,Q1,Q2,Q3,Q4,Q5,Q6,Q7,Q8,BK9,Aa1,h0,h1,h7,fH,lE3,ix0,lr0,lm7,bS,bSl,y1]
 refine ⟨Aa3 (ha:=rfl) rfl lF rfl Aa1,?_⟩
 have z1'':evStore Try.prog 93 (.ptr (Z.rb 0) i) v4 F=some G:=z1'
 simp only [RT,Q0,Q1,Q2,Q3,Q4,Q5,Q6,Q7,Q8,ix0,z1'',Aa1,h35,hwi]
 have e1:sendTo1 fr x mli i=up1 mli i (mli i++[((fr:Int),x)]):=by unfold sendTo1;rw [if_pos ⟨c2,c3⟩]
 have hSn:=hS2.trans wD hP2.2.1
 refine ⟨g - (i+1),by omega,i+1,⟨fun f=>X2.f f∨fo4=some f,X2.b,X2.r⟩,up2 fl2 0 i fo4,up2 vv2 0 i v4,rfl,by omega,rfl,?_⟩
 rw [en,e1]
 exact ⟨hH3,hSn,hL3,ho3,r7',by assumption,by assumption,by assumption,by assumption,by assumption,by assumption,by assumption⟩
end
end Go.Sv.Try
namespace Go.Sv
open Go
def HnF (n:Nat):Nat->Prop:=fun j=>j < n - flts n
structure HI (n:Nat) (s:Nat->Led) (c:Nat->Co) (ml:Nat->List (Int×M)) (lg hd:Nat->List M):Prop where
 all:AllC n (HnF n) s
 par:∀ i,HnF n i->Par n (HnF n) 2 s i (c i)
 auth:∀ i x,x∈ml i->AuthM n (HnF n) s x.1.toNat x.2/\RecOk x.2
 chn:∀ i,HnF n i->Chn (fun _=>z32) (lg i) (ownN (s i) i)
 lgk:∀ i m,m∈lg i->RecOk m/\(m.kind=4->m.height=2)
 hdk:∀ i m,m∈hd i->RecOk m/\m.kind≠4
section
variable {n i:Nat} {s s':Nat->Led} {c:Nat->Co} {c':Co} {ml:Nat->List (Int×M)} {lg hd:Nat->List M} {out:List M} {g:Nat}
theorem Bg1 {fr:Nat} {x:M} {ml:Nat->List (Int×M)} {k j:Nat} {y:Int×M} (h:y∈sendTo1 fr x ml k j):y∈ml j∨y=((fr:Int),x):=by
 unfold sendTo1 at h
 split at h
 . by_cases e : j = k
   . subst e
     rw [Ab5]at h
     rcases List.mem_append.1 h with q | q
     . exact .inl q
     . exact .inr (List.mem_singleton.1 q)
   . rw [Ab7 e]at h;exact .inl h
 . exact .inl h
theorem AT2 {fr:Nat} {x:M} {j:Nat} {y:Int×M}:∀ {l:List Nat} {ml:Nat->List (Int×M)},y∈(l.foldl (sendTo1 fr x) ml) j->y∈ml j∨y=((fr:Int),x)
 | [],ml,h=>.inl h
 | k::l,ml,h=>by
  rcases AT2 (l:=l) h with q | q
  . exact Bg1 q
  . exact .inr q
theorem AT3 {fr g:Nat} {j:Nat} {y:Int×M}:∀ {l:List M} {ml:Nat->List (Int×M)},y∈sendL g fr ml l j->y∈ml j∨∃ m∈l,y=((fr:Int),m)
 | [],ml,h=>.inl h
 | x::l,ml,h=>by
  have h:y∈sendL g fr (sendM g fr ml x) l j:=h
  rcases AT3 (l:=l) h with q | ⟨m,q1,q2⟩
  . rcases AT2 q with q | q
    . exact .inl q
    . exact .inr ⟨x,List.mem_cons_self,q⟩
  . exact .inr ⟨m,List.mem_cons_of_mem _ q1,q2⟩
theorem HI.step (h:HI n s c ml lg hd) (hi:HnF n i) (k:StepOk n (HnF n) 2 i s s' c' out) (hm:∀ m∈out,MsgOf c' m) (hz:SzB c'):HI n s' (up1 c i c') (sendL g i ml out) (up1 lg i (lg i++out)) hd:=by
 refine ⟨k.all,fun j hj=>?_,fun j x hx=>?_,fun j hj=>?_,fun j m hx=>?_,h.hdk⟩
 . by_cases e : j = i
   . subst e;rw [Ab5];exact k.par
   . rw [Ab7 e];exact (h.par j hj).up (k.ne j e) k.up
 . rcases AT3 hx with q | ⟨m, q, rfl⟩
   . exact ⟨(h.auth j x q).1.up k.up,(h.auth j x q).2⟩
   . refine ⟨fun _ k4 y hy q4 => ?_, AE7 (hm m q) hz⟩
     show (s' i).v (y / 2) (y % 2) i=Sv.vtN m.ids y
     rw [k.msg m q k4]
     have e:=congrFun k.par.vtN y
     show (s' i).v (y / 2) (y % 2) i=Sv.vtN (stIds c'.rd) y
     rw [e];unfold ownN;rw [if_pos hy]
 . by_cases e : j = i
   . subst e
     rw [Ab5]
     exact Ay8 (h.chn j hj) k.ext (fun m q k4=>by rw [k.msg m q k4];exact ⟨Av7 _,k.par.vtN⟩) k.told
   . rw [Ab7 e,k.ne j e];exact h.chn j hj
 . by_cases e : j = i
   . subst e
     rw [Ab5]at hx
     rcases List.mem_append.1 hx with q | q
     . exact h.lgk j m q
     . exact ⟨AE7 (hm m q) hz,fun k4=>by rw [k.msg m q k4];exact k.par.hh⟩
   . rw [Ab7 e]at hx;exact h.lgk j m hx
theorem HI.back (h:HI n s c ml lg hd) (hn:okN n) (hi:HnF n i) (hin:i < n):∃ s',HI n s' (up1 c i (((co0 n i 2).Recall (hd i)).Recall (lg i))) ml lg hd/\OwnUp n (HnF n) s s':=by
 have c1:=CR.heard (cr0 (H:=2) hn hin) (l:=hd i) fun m q=>(h.hdk i m q).2
 have c2:=CR.log c1 (h.chn i hi) fun m q=>(h.lgk i m q).2
 obtain ⟨s',a1,a2,a3,a4,a5⟩:=c2.par (Hn:=HnF n) h.all hi (h.par i hi).vin
 refine ⟨s',⟨a1,fun j hj=>?_,fun j x hx=>⟨(h.auth j x hx).1.up a3,(h.auth j x hx).2⟩,fun j hj=>?_,h.lgk,h.hdk⟩,a3⟩
 . by_cases e : j = i
   . subst e;rw [Ab5];exact a2
   . rw [Ab7 e];exact (h.par j hj).up (a4 j e) a3
 . by_cases e : j = i
   . subst e;rw [a5];exact h.chn j hj
   . rw [a4 j e];exact h.chn j hj
theorem HI.mails (h:HI n s c ml lg hd) {l:List (Int×M)} (hl:∀ x∈l,x∈ml i):HI n s c (up1 ml i l) lg hd:=by
 refine ⟨h.all,h.par,fun j x hx=>?_,h.chn,h.lgk,h.hdk⟩
 by_cases e:j=i
 . subst e;rw [Ab5]at hx;exact h.auth j x (hl x hx)
 . rw [Ab7 e]at hx;exact h.auth j x hx
theorem HI.came (h:HI n s c ml lg hd) {m:M} (hm:RecOk m/\m.kind≠4):HI n s c ml lg (up1 hd i (hd i++[m])):=by
 refine ⟨h.all,h.par,h.auth,h.chn,h.lgk,fun j x hx=>?_⟩
 by_cases e:j=i
 . subst e; rw [Ab5] at hx
   rcases List.mem_append.1 hx with q | q
   . exact h.hdk j x q
   . rw [List.mem_singleton.1 q];exact hm
 . rw [Ab7 e]at hx;exact h.hdk j x hx
theorem hi0 (hn:okN n):HI n (fun _=>led0) (fun i=>co0 n i 2) (fun _=>[]) (fun _=>[]) (fun _=>[]) :=
 ⟨⟨hn,fun j _=>⟨fun R a=>absurd rfl a,fun R1 R2 _ a=>absurd rfl a,fun R a=>absurd rfl a,fun a=>by have a:(0:Int) < 0:=a;omega,by show (0:Int)<=0;omega,fun R K a=>absurd rfl a⟩,fun a b _ _ R K q=>absurd rfl q⟩,
  fun i hi=>Cg8 hn (by unfold HnF at hi;omega),(fun i x q=>by cases q),fun i hi=>by show ownN led0 i=fun _=>z32;funext x;unfold ownN;split <;> rfl,(fun i m q=>by cases q),(fun i m q=>by cases q)⟩
structure HB (k:Nat) (Z:HC):Prop where
 lg:∀ i,(Z.lg i).length<=100000 * (k+1)
 hd:∀ i,(Z.hd i).length<=k
 ml:ML Z.ml
 now:∀ i,(Z.c i).now<=k
end
end Go.Sv
namespace Go.Sv.Try
open Go Go.Proofs
section
variable {X X' X2:HX} {Y:Nat->Prop} {A B C:AS} {n g q i k:Nat} {Z Z':HC} {s s':Nat->Led}
structure Hall (X:HX) (A:AS) (n g k:Nat) (s:Nat->Led) (Z:HC):Prop where
 hl:IsHl X A n g g Z
 hi:HI n s Z.c Z.ml Z.lg Z.hd
 hb:HB k Z
 lk:Z.al=(List.range g).map fun i=>(Z.K i).cb
 hg:g=n - flts n
 g7:g<=7
 ok:okN n
theorem Hall.s0 (hw:WF A) (h:Hall X A n g k s Z) (hf:Fr S0 A B):Hall X B n g k s Z:={ h with hl:=h.hl.s0 hw hf }
theorem Hall.lt (h:Hall X A n g k s Z) (hi:i < g):HnF n i/\i < n:=⟨by unfold HnF;rw [<- h.hg];exact hi,by have:=h.hg;omega⟩
theorem Hall.tell {x:Co×List M} {w:V} (hw:WF A) (h:Hall X A n g k s Z) (hi:i < g) (hr:MRes X.f A (Z.K i) (Z.fk i) (Z.ft i) B x w) (hk:StepOk n (HnF n) 2 i s s' x.1 x.2) (hm:∀ m∈x.2,MsgOf x.1 m) (hln:x.2.length<=100000) (hnow:x.1.now<=(k+1:Nat)) (hk5:k<=500) :
 ∃ u C,EvF Try.prog HH 33 [.ptr Z.hp 0,.int .i64 (i:Int),w] B u C/\∃ X' Z',Hall X' C n g (k+1) s' Z'/\HStep X A X' C/\Z'.hp=Z.hp/\Z'.w=Z.w/\Z'.al=Z.al/\OwnUp n (HnF n) s s':=by
 obtain ⟨fk,ft,fo,r1,r2⟩:=hr
 obtain ⟨a1,a2,a3⟩:=h.hl.core hw hi r1
 have hal:(Z.cor i fk ft x.1).al.length=g:=by show Z.al.length=g;rw [h.lk];simp
 obtain ⟨u,C,e1,X',fl,vv,e2,e3⟩:=Bg0 (a2.wf hw) a1 hal hi h.g7 r2 (fun f z t hd=>(a3 f z).2 t hd) hln (by show (Z.lg i).length<=_;have:=h.hb.lg i;omega) h.hb.ml
 refine ⟨u,C,e1,X',_,⟨e2,h.hi.step (h.lt hi).1 hk hm r1.co.lim.sz,⟨fun j=>?_,fun j=>?_,ML.all h.hb.ml _,fun j=>?_⟩,h.lk,h.hg,h.g7,h.ok⟩,a2.trans hw e3,rfl,rfl,rfl,hk.up⟩
 . show (up1 Z.lg i (Z.lg i ++ x.2) j).length <= _
   by_cases e:j=i
   . subst e;rw [Ab5,List.length_append];have:=h.hb.lg j;omega
   . rw [Ab7 e];have:=h.hb.lg j;omega
 . have:=h.hb.hd j;show (Z.hd j).length<=_;omega
 . show (up1 Z.c i x.1 j).now <= _
   by_cases e:j=i
   . subst e;rw [Ab5];exact hnow
   . rw [Ab7 e];have:=h.hb.now j;omega
def batchB (i:Nat):Bts:=[UInt8.ofNat (97+i)]
theorem Ch0 (x:Int):bsl Try.prog 24 1 (some [(0,.int .u8 x)])=some (.newSl [.int .u8 x] 1 1):=by kernel_rfl
theorem AJ8 (A:AS) (hi:i < 7):∃ u A',EvF Try.prog HH 34 [.int .i64 (i:Int)] A u A'/\Fr S0 A A'/\u=.sl A.blk.length 0 1 1/\A'.blk[A.blk.length]?=some ⟨bc (batchB i),.arr A.blk.length 0⟩:=by
 refine Aa4 rfl Try.func34 (by unfold Try.f34;rfl) Try.ntmps34 (by unfold Try.f34;rfl) (by simp) ?_
 have e:IntKind.i64.wrap (97+(i:Int))=((97+i:Nat):Int):=by rw [Ae1 (by omega) (by omega)];omega
 have cv:=fun B=>BR6 (97+i) B
 simp only [RT,Q0,Q1,Q2,Q3,Q4,Q5,Q6,Q7,Q8,e,cv,Ch0]
 exact ⟨Fr.pushArr A _,Ab8 A _⟩
end
end Go.Sv.Try
namespace Go.Sv
open Go
theorem AT4 (g:Nat):zeros [.snil] g=(List.range g).map fun _=>V.snil:=by
 induction g with
 | zero=>rfl
 | succ g ih=>rw [List.range_succ_eq_map,List.map_cons,List.map_map];unfold zeros;rw [ih];rfl
theorem Bz7 {P:Program} {t e:TypeId} {bt s:Nat} {zc:List V} (hu:P.underlying t=some (.slice e)) (hs:szT P e=some (s+1)) (hb:bytesT P e=some bt) (hz:(zeroT P e).bind V.cells=some zc) (hl:zc.length=s+1) {k k':IntKind} {n:Nat} (hn:n<=1000) (h2:bt<=1000) :
 msl P t (some (.int k (n:Int))) (some (.int k' (n:Int)))=some (.newSl (zeros zc n) n (s+1)):=by
 unfold msl
 simp only [hu,hs,hb,hz]
 have:bt * (n:Int)<=1000 * 1000:=Int.mul_le_mul (by omega) (by omega) (by omega) (by omega)
 rw [if_pos ⟨hl,by omega,trivial,by omega,by omega⟩]
 rfl
def X00:HX:=⟨fun _=>False,fun _=>False,fun _=>False⟩
def hc0 (n hp b:Nat):HC:=⟨hp,fun k=>b+k,fun _=>⟨0,0,0,0,0,fun _=>0⟩,fun _=>none,fun _=>none,none,fun _ _=>none,.snil,[],fun _ _=>.snil,fun i=>co0 n i 2,fun _=>[],fun _=>[],fun _=>[]⟩
end Go.Sv
namespace Go.Sv.Try
open Go Go.Proofs
section
variable {X X' X2:HX} {Y:Nat->Prop} {A B C:AS} {n g q i k:Nat} {Z Z':HC} {s s':Nat->Led}
theorem Ch1 (hg:g<=1000):msl Try.prog 52 (some (.int .i64 (g:Int))) (some (.int .i64 (g:Int)))=some (.newSl ((List.range g).map fun _=>V.snil) g 1):=by
 rw [<- AT4];exact Bz7 Try.underlying52 B23 (bt:=24) (by kernel_rfl) Cj8 rfl hg (by omega)
theorem Ch2 (hg:g<=1000):msl Try.prog 53 (some (.int .i64 (g:Int))) (some (.int .i64 (g:Int)))=some (.newSl ((List.range g).map fun _=>V.snil) g 1):=by
 rw [<- AT4];exact Bz7 Try.underlying53 B20 (bt:=24) (by kernel_rfl) Ci5 rfl hg (by omega)
theorem B72 (n g:Int) (a b c:Nat) (x y z:Nat):evBuild Try.prog 55 [(0,.int .i64 n),(1,.int .i64 g),(3,.sl a 0 x 1),(4,.sl b 0 y 1),(5,.sl c 0 z 1)]=some (.agg [.int .i64 n,.int .i64 g,.snil,.sl a 0 x 1,.sl b 0 y 1,.sl c 0 z 1]):=by kernel_rfl
theorem Sole.push {b f:Nat} {k:Blk} (h:Sole A b f) (hk:∀ base,k.kind≠.arr f base):Sole (A.push k) b f:=by
 refine ⟨by rw [Ac1];have:=h.1;omega,fun i k' base' hi hk'=>?_⟩
 rw [Ac2]at hi
 split at hi
 . cases hi;exact absurd hk' (hk base')
 . exact h.2 i k' base' hi hk'
theorem B73 (b:Nat):bsl Try.prog 51 1 (some [(0,.ptr b 0)])=some (.newSl [.ptr b 0] 1 1):=by kernel_rfl
theorem A97 (hw:WF A) (n g:Nat):∃ B,B=(((A.push ⟨(List.range g).map fun _=>V.snil,.arr A.blk.length 0⟩).push ⟨(List.range g).map fun _=>V.snil,.arr (A.blk.length+1) 0⟩).push ⟨(List.range g).map fun _=>V.snil,.arr (A.blk.length+2) 0⟩).push ⟨[.int .i64 n,.int .i64 g,.snil,.sl A.blk.length 0 g 1,.sl (A.blk.length+1) 0 g 1,.sl (A.blk.length+2) 0 g 1],.var⟩ /\
 ∃ X,IsHl X B n g 0 (hc0 n (A.blk.length+3) A.blk.length)/\HStep X00 A X B:=by
 obtain ⟨A1,h1⟩:∃ A1,A1=A.push ⟨(List.range g).map fun _=>V.snil,.arr A.blk.length 0⟩:=⟨_,rfl⟩
 obtain ⟨A2,h2⟩:∃ A2,A2=A1.push ⟨(List.range g).map fun _=>V.snil,.arr A1.blk.length 0⟩:=⟨_,rfl⟩
 obtain ⟨A3,h3⟩:∃ A3,A3=A2.push ⟨(List.range g).map fun _=>V.snil,.arr A2.blk.length 0⟩:=⟨_,rfl⟩
 have l1:A1.blk.length=A.blk.length+1:=by rw [h1,Ac1]
 have l2:A2.blk.length=A.blk.length+2:=by rw [h2,Ac1,l1]
 have l3:A3.blk.length=A.blk.length+3:=by rw [h3,Ac1,l2]
 have f1:Fr S0 A A1:=by rw [h1];exact Fr.pushArr A _
 have f2:Fr S0 A1 A2:=by rw [h2];exact Fr.pushArr A1 _
 have f3:Fr S0 A2 A3:=by rw [h3];exact Fr.pushArr A2 _
 have w1:=f1.wf hw
 have w2:=f2.wf w1
 obtain ⟨A4,e4,f4,r4,n4⟩:=Aa9 A3 [.int .i64 n,.int .i64 g,.snil,.sl A.blk.length 0 g 1,.sl (A.blk.length+1) 0 g 1,.sl (A.blk.length+2) 0 g 1]
 have e:A4=(((A.push ⟨(List.range g).map fun _=>V.snil,.arr A.blk.length 0⟩).push ⟨(List.range g).map fun _=>V.snil,.arr (A.blk.length+1) 0⟩).push ⟨(List.range g).map fun _=>V.snil,.arr (A.blk.length+2) 0⟩).push ⟨[.int .i64 n,.int .i64 g,.snil,.sl A.blk.length 0 g 1,.sl (A.blk.length+1) 0 g 1,.sl (A.blk.length+2) 0 g 1],.var⟩:=by
  rw [e4,h3,l2,h2,l1,h1]
 have r1:A1.blk[A.blk.length]?=some ⟨(List.range g).map fun _=>V.snil,.arr A.blk.length 0⟩:=by rw [h1];exact Ab8 A _
 have r2:A2.blk[A1.blk.length]?=some ⟨(List.range g).map fun _=>V.snil,.arr A1.blk.length 0⟩:=by rw [h2];exact Ab8 A1 _
 have r3:A3.blk[A2.blk.length]?=some ⟨(List.range g).map fun _=>V.snil,.arr A2.blk.length 0⟩:=by rw [h3];exact Ab8 A2 _
 have s1:Sole A1 A.blk.length A.blk.length:=by rw [h1];exact Sole.new hw
 have s2:Sole A2 A1.blk.length A1.blk.length:=by rw [h2];exact Sole.new w1
 have s3:Sole A3 A2.blk.length A2.blk.length:=by rw [h3];exact Sole.new w2
 have t1:=((s1.fr f2 fun q=>q).fr f3 fun q=>q).fr f4 fun q=>q
 have t2:=(s2.fr f3 fun q=>q).fr f4 fun q=>q
 have t3:=s3.fr f4 fun q=>q
 have u1:=f4.row0 (f3.row0 (f2.row0 r1))
 have u2:=f4.row0 (f3.row0 r2)
 have u3:=f4.row0 r3
 rw [l1]at u2 t2
 rw [l2]at u3 t3
 rw [l3]at r4 n4
 have f14:Fr S0 A A4:=((f1.then0 f2).then0 f3).then0 f4
 refine ⟨A4,e,⟨fun f=>A.blk.length<=f/\f < A.blk.length+3,fun b=>b=A.blk.length+3,fun _=>False⟩,⟨fun t hd=>?_,fun t t' hd hd' ne=>?_,fun t hd=>?_,?_,?_,fun r z=>z.elim⟩,⟨f14.mono fun _ z=>z.elim,fun f z=>.inr z.1,fun b z=>.inr (by have z:b=A.blk.length+3:=z;omega),fun r z=>z.elim⟩⟩
 . cases t with
   | co i=>have hd:i < 0:=hd;omega
   | sl k i =>
    show SlP k _ A4 (hc0 n (A.blk.length+3) A.blk.length) i
    match k with
    | 0=>exact Lst.nil
    | 1=>exact Lst.nil
    | k+2=>exact Lst.nil
   | rw k =>
    have hd:k < 3:=hd
    show A4.blk[A.blk.length+k]?=some ⟨(List.range g).map fun _=>V.snil,.arr (A.blk.length+k) 0⟩/\Sole A4 (A.blk.length+k) (A.blk.length+k)
    match k,hd with
    | 0,_=>exact ⟨u1,t1⟩
    | 1,_=>exact ⟨u2,t2⟩
    | 2,_=>exact ⟨u3,t3⟩
   | al=>exact Lst.nil
   | hb=>exact r4
 . refine ⟨fun f z w => ?_, fun b z w => ?_, fun r z w => ?_⟩
   . cases t with
     | co i=>have hd:i < 0:=hd;omega
     | sl k i=>cases z
     | rw k =>
      cases t' with
      | co i=>have hd':i < 0:=hd';omega
      | rw k' =>
       have z:f=A.blk.length+k:=z
       have w:f=A.blk.length+k':=w
       exact ne (by rw [show k=k' by omega])
      | sl k' i=>cases w
      | al=>cases w
      | hb=>exact w
     | al=>cases z
     | hb=>exact z
   . cases t with
     | co i=>have hd:i < 0:=hd;omega
     | hb =>
      cases t' with
      | co i=>have hd':i < 0:=hd';omega
      | hb=>exact ne rfl
      | _=>exact w
     | _=>exact z
   . cases t with
     | co i=>have hd:i < 0:=hd;omega
     | _=>exact z
 . refine ⟨fun f z => ?_, fun b z => ?_, fun r z => ?_⟩
   . cases t with
     | co i=>have hd:i < 0:=hd;omega
     | sl k i=>cases z
     | rw k =>
      have hd:k < 3:=hd
      have z:f=A.blk.length+k:=z
      show A.blk.length<=f/\f < A.blk.length+3
      omega
     | al=>cases z
     | hb=>exact z.elim
   . cases t with
     | co i=>have hd:i < 0:=hd;omega
     | hb=>exact z
     | _=>exact z.elim
   . cases t with
     | co i=>have hd:i < 0:=hd;omega
     | _=>exact z
 . intro f z
   have z:A.blk.length<=f/\f < A.blk.length+3:=z
   omega
 . intro b z
   have z:b=A.blk.length+3:=z
   omega
theorem CoM.mlt {Y:Nat->Prop} {cb rp mb mg:Nat} {c:Co} {ft:Option Nat} (h:CoM Y A cb rp mb mg c ft):mb < A.maps.length/\mg < A.maps.length:=by
 obtain ⟨_,_,_,_,_,h3,_⟩:=h.ex
 have h4:=h.gv
 have key:∀ {κ β:Type} {r:Nat} {enc:κ->V} {ev:β->V} {l:List (κ×β)},MapIs A r enc ev l->r < A.maps.length:=by
  intro κ β r enc ev l h
  obtain ⟨_,q,_⟩:=h
  exact (List.getElem?_eq_some_iff.1 q).1
 exact ⟨key h3,key h4⟩
structure Fill (A B:AS) (n g i hp:Nat) (X:HX) (Z:HC):Prop where
 hl:IsHl X B n g i Z
 st:HStep X00 A X B
 al:Z.al=(List.range i).map fun j=>(Z.K j).cb
 c:Z.c=fun j=>co0 n j 2
 ml:Z.ml=fun _=>[]
 lg:Z.lg=fun _=>[]
 hd:Z.hd=fun _=>[]
 hp:Z.hp=hp
set_option maxRecDepth 10000 in
set_option maxHeartbeats 32000000 in
theorem Bg2 (hw:WF A) (hok:okN n) (hgn:g=n - flts n) (hg7:g<=7) :
 ∃ u A',EvF Try.prog HH 13 [.int .i64 (n:Int),.int .i64 (g:Int)] A u A'/\∃ X Z s,u=.tup [.ptr Z.hp 0,.bool true]/\Hall X A' n g g s Z/\HStep X00 A X A':=by
 refine Aa4 rfl Try.func13 (by unfold Try.f13;rfl) Try.ntmps13 (by unfold Try.f13;rfl) (by simp) ?_
 have ms1:=Ch1 (g:=g) (by omega)
 have ms2:=Ch2 (g:=g) (by omega)
 obtain ⟨B,eB,X,hI,hS⟩:=A97 hw n g
 have hgle:g<=n:=by omega
 have hn7:n<=7:=by unfold okN at hok;omega
 obtain ⟨hp,hhp⟩:∃ hp,hp=A.blk.length+3:=⟨_,rfl⟩
 have wB:=hS.wf hw
 have F0:Fill A B n g 0 hp X (hc0 n hp A.blk.length):=⟨by rw [hhp];exact hI,hS,rfl,rfl,rfl,rfl,rfl,rfl⟩
 have fH:=B14 hp
 simp only [RT,Q0,Q1,Q2,Q3,Q4,Q5,Q6,Q7,Q8]
 rw [BJ3,Aa2 (by rfl)]
 simp only [RT,Q0,Q1,Q2,Q3,Q4,Q5,Q6,Q7,Q8,ms1,ms2,Ac1,B72,<- eB]
 refine Aa6 (fun z e B=>∃ (i:Nat) (X:HX) (Z:HC),z=g - i/\i<=g/\e.get 7=.int .i64 i/\Fill A B n g i hp X Z/\e.get 6=.ptr hp 0/\e.get 0=.int .i64 n/\e.get 1=.int .i64 g)
  (fun z e B=>Is z (.exit 0)/\∃ (X:HX) (Z:HC),Fill A B n g g hp X Z/\e.get 6=.ptr hp 0)
  ⟨_,0,X,_,rfl,by omega,rfl,F0,by rw [hhp];rfl,rfl,rfl⟩ ?_ ?_
 . rintro z e B ⟨i, X, Z, rfl, hi, h7, hF, h6, h0, h1⟩
   simp only [RT,Q0,Q1,Q2,Q3,Q4,Q5,Q6,Q7,Q8,h7,h1]
   refine Aa7 (fun q1=>?_) (fun q1=>?_)
   rotate_left
   . have : i = g := by omega
     subst this
     simp only [RT,Q0,Q1,Q2,Q3,Q4,Q5,Q6,Q7,Q8]
     exact ⟨rfl,X,Z,hF,h6⟩
   have wB:=hF.st.wf hw
   obtain ⟨_,C,k1,f1,K,rfl,hN,hC⟩:=AN0 wB (n:=n) (me:=i) (h:=2) hok (by omega) (by omega) (by omega)
   have wC:=f1.wf wB
   have hlt:=(hC (fun _=>False) (fun _ z=>z.elim)).lt
   have hml:=CoM.mlt (hC (fun _=>False) (fun _ z=>z.elim)).cm
   obtain ⟨X1,hI1,hS1,_⟩:=hF.hl.addC wB f1 hN hC ⟨hlt.1,hlt.2.1,hlt.2.2,hml.1,hml.2⟩
   obtain ⟨Z1,hZ1⟩:∃ Z1,Z1=Z.add i K (co0 n i 2):=⟨_,rfl⟩
   rw [<- hZ1]at hI1
   have hp1:Z1.hp=hp:=by rw [hZ1];exact hF.hp
   have al1:Lst ePt Hp.emp C Z1.w Z1.al Z1.fa:=hI1.pt .al trivial
   have hal:Z1.al.length=i:=by rw [hZ1];show Z.al.length=i;rw [hF.al];simp
   obtain ⟨v',D,fo,p1,p2,p3,p4⟩:=al1.push (P:=Try.prog) (t:=51) (tx:=51) (n:=1) rfl Ck2 Try.underlying51 wC (y:=K.cb) (cs':=[.ptr K.cb 0]) rfl (by omega) (by omega)
   obtain ⟨E,z1,hI2,hS2⟩:=hI1.addAl (ty:=51) wC p3 p4 p2 Ci7
   rw [hp1]at z1
   have lC:=AZ6 (hI1.pt .hb trivial)
   rw [hp1]at lC
   have hwi:IntKind.i64.wrap ((i:Int)+1)=((i+1:Nat):Int):=by rw [Ae1 (by omega) (by omega)];omega
   simp only [RT,Q0,Q1,Q2,Q3,Q4,Q5,Q6,Q7,Q8,h0,h7]
   refine Aa0 k1 ?_
   simp only [RT,Q0,Q1,Q2,Q3,Q4,Q5,Q6,Q7,Q8,BC3,h6,fH,lC,B73,p1,z1,h7,hwi]
   refine ⟨g - (i+1),by omega,i+1,_,_,rfl,by omega,rfl,⟨hI2,hF.st.trans hw (hS1.trans wB hS2),?_,?_,?_,?_,?_,hp1⟩,by and_intros <;> assumption⟩
   . show Z1.al ++ [K.cb] = (List.range (i + 1)).map fun j => (Z1.K j).cb
     rw [hZ1]
     show Z.al++[K.cb]=(List.range (i+1)).map fun j=>(up1 Z.K i K j).cb
     rw [List.range_succ,List.map_append,hF.al]
     have:(List.range i).map (fun j=>(up1 Z.K i K j).cb)=(List.range i).map fun j=>(Z.K j).cb:=List.map_congr_left fun j hj=>by
      have:=List.mem_range.1 hj
      rw [Ab7 (by omega)]
     rw [this]
     show _=_++[(up1 Z.K i K i).cb]
     rw [Ab5]
   . rw [hZ1]
     show up1 Z.c i (co0 n i 2)=_
     rw [hF.c]
     funext j
     by_cases q:j=i
     . subst q;rw [Ab5]
     . rw [Ab7 q]
   . rw [hZ1];exact hF.ml
   . rw [hZ1];exact hF.lg
   . rw [hZ1];exact hF.hd
 rintro z e B1 hz ⟨rfl,X1,Z1,hF,h6⟩
 have w1:=hF.st.wf hw
 have l1:=AZ6 (hF.hl.pt .hb trivial)
 rw [hF.hp]at l1
 have al1:Lst ePt Hp.emp B1 Z1.w Z1.al Z1.fa:=hF.hl.pt .al trivial
 have hln:=fun E=>al1.len (P:=Try.prog) Try.underlying51 E
 have hall:Z1.al.length=g:=by rw [hF.al];simp
 rw [hall]at hln
 obtain ⟨w0,hw0⟩:∃ w0,w0=Z1.w:=⟨_,rfl⟩
 rw [<- hw0]at hln
 have H0:Hall X1 B1 n g 0 (fun _=>led0) Z1:=⟨hF.hl,by rw [hF.c,hF.ml,hF.lg,hF.hd];exact hi0 hok,⟨fun i=>by rw [hF.lg];show 0<=_;omega,fun i=>by rw [hF.hd];show 0<=_;omega,fun i=>by rw [hF.ml];show 0<=200;omega,fun i=>by rw [hF.c];show (0:Int)<=((0:Nat):Int);omega⟩,hF.al,hgn,hg7,hok⟩
 simp only [RT,Q0,Q1,Q2,Q3,Q4,Q5,Q6,Q7,Q8,h6,fH,l1,hln,<- hw0]
 refine Aa6 (fun z e B=>∃ (i:Nat) (X:HX) (Z:HC) (s:Nat->Led),z=g - i/\i<=g/\e.get 50=.int .i64 i/\Hall X B n g i s Z/\HStep X00 A X B/\Z.hp=hp/\Z.w=w0/\e.get 6=.ptr hp 0/\e.get 48=w0/\e.get 49=.int .i64 g)
  (fun z e B=>Is z (.exit 2)/\∃ (X:HX) (Z:HC) (s:Nat->Led),Hall X B n g g s Z/\HStep X00 A X B/\Z.hp=hp/\e.get 6=.ptr hp 0)
  ⟨_,0,X1,Z1,_,rfl,by omega,rfl,H0,hF.st,hF.hp,hw0.symm,by assumption,rfl,rfl⟩ ?_ ?_
 rotate_left
 . rintro z e E hz ⟨rfl, X2, Z2, s2, a1, a2, a3, h6⟩
   simp only [RT,Q0,Q1,Q2,Q3,Q4,Q5,Q6,Q7,Q8,h6]
   exact ⟨X2,Z2,s2,by rw [a3],a1,a2⟩
 rintro z e E ⟨i,X2,Z2,s2,rfl,hi,h50,hH,hS2,hhp2,hw2,h6,h48,h49⟩
 simp only [RT,Q0,Q1,Q2,Q3,Q4,Q5,Q6,Q7,Q8,h50,h49]
 refine Aa7 (fun q1=>?_) (fun q1=>?_)
 rotate_left
 . have : i = g := by omega
   subst this
   simp only [RT,Q0,Q1,Q2,Q3,Q4,Q5,Q6,Q7,Q8]
   exact ⟨rfl,X2,Z2,s2,hH,hS2,hhp2,h6⟩
 have hig:i < g:=by omega
 have wE:=hS2.wf hw
 have al2:Lst ePt Hp.emp E w0 Z2.al Z2.fa:=by rw [<- hw2];exact hH.hl.pt .al trivial
 have hx:Z2.al[i]?=some (Z2.K i).cb:=by rw [hH.lk,List.getElem?_map,List.getElem?_range hig];rfl
 obtain ⟨bb,o,cc,g3,g4,g5⟩:=al2.at (P:=Try.prog) (k:=.i64) (fun b cs q=>by cases q) Try.underlying51 B05 Bb9 hx
 have g5:=BB6.1 g5
 subst g5
 obtain ⟨_,F,k1,f1,rfl,r1⟩:=AJ8 (i:=i) E (by omega)
 have wF:=f1.wf wE
 have hHF:=hH.s0 wE f1
 have hco:IsCo X2.f F (Z2.K i) (Z2.fk i) (Z2.ft i) (Z2.c i):=hHF.hl.pt (.co i) hig
 have hv:Slc eU8 (qHp X2.f F) (.sl E.blk.length 0 1 1) (batchB i):=Be2 (Al1 r1 fun q=>by have:=hH.hl.lt.1 _ q;omega) rfl
 obtain ⟨u,G,k2,hr⟩:=Aq5 wF hco hv (by show 1<=1000000;omega)
 obtain ⟨s',hk⟩:=A43 (b:=batchB i) hHF.hi.all (hHF.lt hig).1 (hHF.hi.par i (hHF.lt hig).1)
 obtain ⟨_,J,k3,X3,Z3,hH3,hS3,e1,e2,e3,e4⟩:=hHF.tell wF hig hr hk (AS6 _ _) (AT0 hco.rng hco.acts _) (by rw [AS8];have:=hHF.hb.now i;omega) (by omega)
 have hwi:IntKind.i64.wrap ((i:Int)+1)=((i+1:Nat):Int):=by rw [Ae1 (by omega) (by omega)];omega
 rw [hhp2]at k3
 simp only [RT,Q0,Q1,Q2,Q3,Q4,Q5,Q6,Q7,Q8,h48,h50,g3,g4,h6]
 refine Aa0 k1 ?_
 simp only [RT,Q0,Q1,Q2,Q3,Q4,Q5,Q6,Q7,Q8]
 refine Aa0 k2 ?_
 simp only [RT,Q0,Q1,Q2,Q3,Q4,Q5,Q6,Q7,Q8]
 refine Aa0 k3 ?_
 simp only [RT,Q0,Q1,Q2,Q3,Q4,Q5,Q6,Q7,Q8,h50,hwi]
 exact ⟨g - (i+1),by omega,i+1,X3,Z3,s',rfl,by omega,rfl,hH3,hS2.trans hw (HStep.trans wE (.of0 f1) hS3),by rw [e1,hhp2],by rw [e2,hw2],by and_intros <;> assumption⟩
end
end Go.Sv.Try
namespace Go.Sv
open Go
theorem BT7 (a:Int) {f:Int} (hf:0 < f):-f < a.tmod f/\a.tmod f < f:=by
 rcases Int.le_total 0 a with q | q
 . rw [Int.tmod_eq_emod_of_nonneg q]
   have:=Int.emod_nonneg a (show f≠0 by omega)
   have:=Int.emod_lt_of_pos a hf
   omega
 . have e : a.tmod f = -((-a) % f) := by
    have:a = -(-a):=by omega
    rw [this,Int.neg_tmod,Int.tmod_eq_emod_of_nonneg (by omega)]
    simp
   rw [e]
   have:=Int.emod_nonneg (-a) (show f≠0 by omega)
   have:=Int.emod_lt_of_pos (-a) hf
   omega
theorem B74 {a f:Int} (hf:0 < f) (ha:0<=a):0<=a.tmod f:=by
 rw [Int.tmod_eq_emod_of_nonneg ha];exact Int.emod_nonneg a (by omega)
abbrev Mv16:=Int×Int×Int×M
def mvC16 (x:Mv16) (dv iv lv:V):List V:=.int .i64 x.1::.int .i64 x.2.1::.int .i64 x.2.2.1::mc x.2.2.2 dv iv lv
end Go.Sv
namespace Go.Sv.Try
open Go Go.Proofs
section
variable {X X' X2:HX} {Y:Nat->Prop} {A B C:AS} {n g q i k:Nat} {Z Z':HC} {s s':Nat->Led} {m:Hp}
theorem Av9 {x:Mv16} {dv iv lv:V} (h:x.2.2.2.id.length=32):(mvC16 x dv iv lv).length=44:=by simp [mvC16,Ai6 h]
theorem AT5 {x:Mv16} {dv iv lv:V} (q:MsgIn m x.2.2.2 dv iv lv):(mvC16 x dv iv lv).all V.one=true:=by simp only [mvC16,List.all_cons,AI6 q,AM6,Bool.and_self]
theorem Bg3 (b:Nat):evFieldAddr Try.prog 45 (.ptr b 0) 0=some (.ptr b 0)/\evFieldAddr Try.prog 45 (.ptr b 0) 1=some (.ptr b 1)/\evFieldAddr Try.prog 45 (.ptr b 0) 2=some (.ptr b 2)/\evFieldAddr Try.prog 45 (.ptr b 0) 3=some (.ptr b 3)/\evFieldAddr Try.prog 28 (.ptr b 3) 7=some (.ptr b 41)/\evFieldAddr Try.prog 28 (.ptr b 3) 8=some (.ptr b 42):=⟨by kernel_rfl,by kernel_rfl,by kernel_rfl,by kernel_rfl,by kernel_rfl,by kernel_rfl⟩
theorem Ah7 {b:Nat} {kk:BK} {x:Mv16} {dv iv lv:V} (hb:A.blk[b]?=some ⟨mvC16 x dv iv lv,kk⟩) (h:x.2.2.2.id.length=32) :
 evLoad Try.prog 3 (.ptr b 0) A=some (.int .i64 x.1)/\evLoad Try.prog 3 (.ptr b 1) A=some (.int .i64 x.2.1)/\evLoad Try.prog 3 (.ptr b 2) A=some (.int .i64 x.2.2.1)/\evLoad Try.prog 28 (.ptr b 3) A=some (.agg (mc x.2.2.2 dv iv lv))/\evLoad Try.prog 24 (.ptr b 41) A=some dv/\evLoad Try.prog 25 (.ptr b 42) A=some iv/\evLoad Try.prog 45 (.ptr b 0) A=some (.agg (mvC16 x dv iv lv)):=by
 obtain ⟨e1,e2,e3⟩:=Bn9 (dv:=dv) (iv:=iv) (lv:=lv) h
 refine ⟨?_,?_,?_,At.load hb (o:=3) ⟨[.int .i64 x.1,.int .i64 x.2.1,.int .i64 x.2.2.1],[],by simp [mvC16],rfl⟩ BO5 Bm9 (Ai6 h),?_,?_,At.load hb (o:=0) ⟨[],[],by simp,rfl⟩ Ca2 B21 (Av9 h)⟩
 . rw [Ad2 ag3,Ah1 hb];rfl
 . rw [Ad2 ag3,Ah1 hb];rfl
 . rw [Ad2 ag3,Ah1 hb];rfl
 . rw [Ad2 BO4,Ah1 hb];exact e1
 . rw [Ad2 B19,Ah1 hb];exact e2
theorem Ch3:(zeroT Try.prog 95).bind V.cells=some (sentC (0,mIn0) .snil .snil .snil):=Ca5
theorem B75 {x:Int×M} {dv iv lv:V} (h:MsgIn m x.2 dv iv lv):∃ A',evStore Try.prog 95 (.ptr A.blk.length 0) (.agg (sentC x dv iv lv)) (A.push ⟨sentC (0,mIn0) .snil .snil .snil,.var⟩)=some A'/\Fr S0 A A'/\A'.blk[A.blk.length]?=some ⟨sentC x dv iv lv,.var⟩:=by
 obtain ⟨A2,s1,s2,s3,s4⟩:=Ai4 (P:=Try.prog) A (z:=sentC (0,mIn0) .snil .snil .snil) (t:=95) (x:=.agg (sentC x dv iv lv)) (cs:=sentC x dv iv lv) rfl (by rw [AE8 h.id];exact B06) (by rw [AE8 h.id];rfl) (by simp only [sentC,List.all_cons,AI6 h,AM6,Bool.and_self])
 exact ⟨A2,s1,s2,s3⟩
theorem Ch4 (b:Nat):evFieldAddr Try.prog 95 (.ptr b 0) 0=some (.ptr b 0)/\evFieldAddr Try.prog 95 (.ptr b 0) 1=some (.ptr b 1)/\evFieldAddr Try.prog 28 (.ptr b 1) 0=some (.ptr b 1)/\evFieldAddr Try.prog 28 (.ptr b 1) 7=some (.ptr b 39):=⟨by kernel_rfl,by kernel_rfl,by kernel_rfl,by kernel_rfl⟩
theorem Cd0 {b:Nat} {kk:BK} {x:Int×M} {dv iv lv:V} (hb:A.blk[b]?=some ⟨sentC x dv iv lv,kk⟩) (h:x.2.id.length=32) :
 evLoad Try.prog 3 (.ptr b 0) A=some (.int .i64 x.1)/\evLoad Try.prog 3 (.ptr b 1) A=some (.int .i64 x.2.kind)/\evLoad Try.prog 24 (.ptr b 39) A=some dv/\evLoad Try.prog 28 (.ptr b 1) A=some (.agg (mc x.2 dv iv lv)):=by
 obtain ⟨e1,e2,e3⟩:=Bn9 (dv:=dv) (iv:=iv) (lv:=lv) h
 refine ⟨?_,?_,?_,At.load hb (o:=1) ⟨[.int .i64 x.1],[],by simp [sentC],rfl⟩ BO5 Bm9 (Ai6 h)⟩
 . rw [Ad2 ag3,Ah1 hb];rfl
 . rw [Ad2 ag3,Ah1 hb];rfl
 . rw [Ad2 BO4,Ah1 hb];exact e1
def hdM (d:Bts):M:=⟨3,0,2,-1,0,0,z32,d,[],[]⟩
theorem BC7 {dv:V} (d:Bts) (h:dv=.snil∨∃ b o n z,dv=.sl b o n z):evBuild Try.prog 28 [(0,.int .i64 3),(2,.int .i64 2),(3,.int .i64 (-1)),(7,dv)]=some (.agg (mc (hdM d) dv .snil .snil)):=by
 have k1:evBuild Try.prog 28 [(0,.int .i64 3),(2,.int .i64 2),(3,.int .i64 (-1)),(7,.snil)]=some (.agg (mc (hdM []) .snil .snil .snil)):=by kernel_rfl
 have k2:∀ b o n z,evBuild Try.prog 28 [(0,.int .i64 3),(2,.int .i64 2),(3,.int .i64 (-1)),(7,.sl b o n z)]=some (.agg (mc (hdM []) (.sl b o n z) .snil .snil)):=fun b o n z=>by kernel_rfl
 rcases h with rfl | ⟨b,o,n,z,rfl⟩
 . exact k1
 . exact k2 b o n z
theorem Hall.mbox {b:Nat} {cs:List V} {y:Co×List M} {w:V} (hw:WF A) (h:Hall X A n g k s Z) (hi:i < g) (hr:MRes X.f A (Z.K i) (Z.fk i) (Z.ft i) B y w) (hb:A.blk[b]?=some ⟨cs,.var⟩) (hn:¬ X.b b):B.blk[b]?=some ⟨cs,.var⟩:=by
 obtain ⟨fk,ft,fo,r1,r2⟩:=hr
 exact (h.hl.core hw hi r1).2.1.box hb hn
theorem Hall.up (h:Hall X A n g k s Z):Hall X A n g (k+1) s Z :=
 { h with hb:=⟨fun i=>Nat.le_trans (h.hb.lg i) (by omega),fun i=>Nat.le_trans (h.hb.hd i) (by omega),h.hb.ml,fun i=>Int.le_trans (h.hb.now i) (by omega)⟩ }
theorem HI.congr {c c':Nat->Co} {ml:Nat->List (Int×M)} {lg hd:Nat->List M} (h:HI n s c ml lg hd) (e:∀ j,HnF n j->c' j=c j):HI n s c' ml lg hd :=
 ⟨h.all,fun i hi=>by rw [e i hi];exact h.par i hi,h.auth,h.chn,h.lgk,h.hdk⟩
theorem IsHl.recall {K:CoK} {fk:Option Nat} {c:Co} {l:List M} {v:V} {fo:Option Nat} {kk:Nat} (hw:WF A) (h:IsHl X A n g (g+1) Z) (hK:Z.K g=K) (hfk:Z.fk g=fk) (hft:Z.ft g=none) (hc:Z.c g=c) (hkk:kk < 3) (hi:i < g) (hL:Lst eMsg (qHp X.f A) A v l fo) (hfo:Z.fl kk i=fo) (hr:∀ x∈l,RecOk x) (hl:l.length<=1000000000) :
 ∃ u B,EvF Try.prog HH 20 [.ptr K.cb 0,v] A u B/\∃ X' fk',IsHl X' B n g (g+1) (Z.cor g fk' none (c.Recall l))/\HStep X A X' B:=by
 have hd:Dm g (g+1) (.co g):=by show g < g+1;omega
 have hc1:IsCo X.f A (Z.K g) (Z.fk g) (Z.ft g) (Z.c g):=h.pt (.co g) hd
 have hsub:=(h.sub (.co g) hd).1
 have hap:=(h.ap (.sl kk i) (.co g) ⟨hkk,hi⟩ hd (by simp)).1
 have hsl:Slc eMsg (qHp (XCo (Z.K g) (Z.fk g) (Z.ft g)) A) v l:=hL.slcQ (Ah6 hsub) fun f q=>hap f (by show Z.fl kk i=some f;rw [hfo,q])
 obtain ⟨u,B,k1,fk',t1⟩:=AN2 hw hc1 hsl hr hl
 obtain ⟨a1,a2,_⟩:=h.core hw (i:=g) (by omega) t1
 rw [hK]at k1
 rw [hft,hc]at a1
 rw [hft]at a2
 exact ⟨u,B,k1,_,fk',a1,a2⟩
def MoveRes (X:HX) (A:AS) (n g k:Nat) (s:Nat->Led) (Z:HC) (B:AS):Prop:=∃ X' Z' s',Hall X' B n g (k+2) s' Z'/\HStep X A X' B/\OwnUp n (HnF n) s s'/\Z'.hp=Z.hp
set_option maxRecDepth 10000 in
set_option maxHeartbeats 64000000 in
theorem Bg4 {x:Mv16} {dv iv lv:V} (hw:WF A) (h:Hall X A n g k s Z) (hgn:g < n) (hx:MsgIn (qHp X.f A) x.2.2.2 dv iv lv) (hxi:x.2.2.2.ids.length<=1000000) (hxd:x.2.2.2.data.length<=1000000000) (hfr:IntIn .i64 x.2.2.1) (hk:k<=450) :
 ∃ u B,EvF Try.prog HH 15 [.ptr Z.hp 0,.agg (mvC16 x dv iv lv)] A u B/\MoveRes X A n g k s Z B:=by
 refine Aa4 rfl Try.func15 (by unfold Try.f15;rfl) Try.ntmps15 (by unfold Try.f15;rfl) (by simp) ?_
 obtain ⟨A1,e1,f1,r3,n1⟩:=Aa9 A (mvC16 x dv iv lv)
 obtain ⟨b3,hb3⟩:∃ b,b=A.blk.length:=⟨_,rfl⟩
 rw [<- hb3]at r3 n1
 have w1:=f1.wf hw
 have h1:=h.s0 hw f1
 have nb3:¬ X.b b3:=fun z=>by have:=h.hl.lt.2.1 b3 z;omega
 have fH:=B14 Z.hp
 have l1:=AZ6 (h1.hl.pt .hb trivial)
 have fv:=Bg3 b3
 have lv1:=Ah7 r3 hx.id
 have g7:=h.g7
 have hn7:n<=7:=by have:=h.ok;unfold okN at this;omega
 simp only [RT,Q0,Q1,Q2,Q3,Q4,Q5,Q6,Q7,Q8,<- hb3,<- e1]
 rw [BJ4,Aa2 (by rfl)]
 by_cases c0:x.2.1 < 0
 . simp only [RT, Q0, Q1, Q2, Q3, Q4, Q5, Q6, Q7, Q8, fv, lv1, decide_eq_true c0]
   exact ⟨X,Z,s,h1.up.up,.of0 f1,.rfl',rfl⟩
 by_cases c1:x.2.1 >= (g:Int)
 . simp only [RT, Q0, Q1, Q2, Q3, Q4, Q5, Q6, Q7, Q8, fv, lv1, decide_eq_false c0, fH, l1, decide_eq_true c1]
   exact ⟨X,Z,s,h1.up.up,.of0 f1,.rfl',rfl⟩
 obtain ⟨i,hi⟩:∃ i:Nat,x.2.1=i:=⟨x.2.1.toNat,by omega⟩
 have hig:i < g:=by omega
 rw [hi]at lv1
 have al1:Lst ePt Hp.emp A1 Z.w Z.al Z.fa:=h1.hl.pt .al trivial
 have hxa:Z.al[i]?=some (Z.K i).cb:=by rw [h.lk,List.getElem?_map,List.getElem?_range hig];rfl
 obtain ⟨ba,oa,cc,ga3,ga4,ga5⟩:=al1.at (P:=Try.prog) (k:=.i64) (fun b cs q=>by cases q) Try.underlying51 B05 Bb9 hxa
 have ga5:=BB6.1 ga5
 subst ga5
 obtain ⟨hHn,hin⟩:=h.lt hig
 rw [hi]at c0 c1
 simp only [RT,Q0,Q1,Q2,Q3,Q4,Q5,Q6,Q7,Q8,fv,lv1,decide_eq_false c0,fH,l1,decide_eq_false c1]
 rw [BJ5,Aa2 (by rfl)]
 simp only [RT,Q0,Q1,Q2,Q3,Q4,Q5,Q6,Q7,Q8,fv,lv1,fH,l1,ga3,ga4]
 refine Al0 (fun z e B=>Is z .normal/\Is B A1/\e.get 31=.bool (decide (x.1=0∨x.1=1∨x.1=2))/\e.get 0=.ptr Z.hp 0/\e.get 3=.ptr b3 0/\e.get 4=.ptr (Z.K i).cb 0/\e.get 30=.int .i64 x.1) ?_ ?_
 . have d3 : ∀ p q r : Prop, [Decidable p] -> [Decidable q] -> [Decidable r] -> (decide (p ∨ q ∨ r) : Bool) = (decide p || (decide q || decide r)) := by intros; simp
   refine Aa7 (fun q=>?_) (fun q=>?_)
   . simp only [RT, Q0, Q1, Q2, Q3, Q4, Q5, Q6, Q7, Q8]
     exact ⟨rfl,rfl,by simp [q]⟩
   simp only [RT,Q0,Q1,Q2,Q3,Q4,Q5,Q6,Q7,Q8]
   refine Aa7 (fun q2=>?_) (fun q2=>?_)
   . simp only [RT, Q0, Q1, Q2, Q3, Q4, Q5, Q6, Q7, Q8]
     exact ⟨rfl,rfl,by simp [q2]⟩
   simp only [RT,Q0,Q1,Q2,Q3,Q4,Q5,Q6,Q7,Q8]
   exact ⟨rfl,rfl,by simp [q,q2]⟩
 rintro z e B ⟨rfl,rfl,h31,h0,h3,h4,h30⟩
 have hco:IsCo X.f B (Z.K i) (Z.fk i) (Z.ft i) (Z.c i):=h1.hl.pt (.co i) hig
 have hnow:=h1.hb.now i
 simp only [RT,Q0,Q1,Q2,Q3,Q4,Q5,Q6,Q7,Q8,h31]
 refine Aa7 (fun q=>?_) (fun q=>?_)
 . simp only [RT, Q0, Q1, Q2, Q3, Q4, Q5, Q6, Q7, Q8]
   rw [BJ6,Aa2 (by rfl)]
   have ix0:=Cc9 (b:=Z.rb 0) hig
   have lM:evLoad Try.prog 52 (.ptr Z.hp 3) B=some (.sl (Z.rb 0) 0 g 1):=l1.2.2.2.1
   have lr0:evLoad Try.prog 93 (.ptr (Z.rb 0) i) B=some (Z.vv 0 i):=B69 (h1.hl.pt (.rw 0) (by show 0 < 3;omega)).1 hig
   have s0:Lst eSent (qHp X.f B) B (Z.vv 0 i) (Z.ml i) (Z.fl 0 i):=h1.hl.pt (.sl 0 i) ⟨by omega,hig⟩
   have hl0:=fun D=>s0.len (P:=Try.prog) Try.underlying93 D
   by_cases ce:(Z.ml i).length=0
   . simp only [RT, Q0, Q1, Q2, Q3, Q4, Q5, Q6, Q7, Q8, h0, fH, lM, h3, fv, lv1, ix0, lr0, hl0, decide_eq_true (show ((Z.ml i).length : Int) = 0 by omega)]
     exact ⟨X,Z,s,h1.up.up,.of0 f1,.rfl',rfl⟩
   obtain ⟨y,rest,ey⟩:∃ y rest,Z.ml i=y::rest:=by
    cases hq:Z.ml i with
    | nil=>rw [hq]at ce;exact absurd rfl ce
    | cons y rest=>exact ⟨y,rest,rfl⟩
   have hym:y∈Z.ml i:=by rw [ey];exact List.mem_cons_self
   obtain ⟨by_,oy,cy,gy3,gy4,gy5⟩:=s0.at (P:=Try.prog) (k:=.i64) (Af3 _ B) Try.underlying93 B06 Cj9 (i:=0) (x:=y) (by rw [ey];rfl)
   have gy3:evIndexAddr Try.prog 93 (Z.vv 0 i) (.int .i64 0)=some (.ptr by_ oy):=gy3
   obtain ⟨dy,iy,ly,rfl,hy⟩:=BC5 gy5
   obtain ⟨C,t1,f2,r5⟩:=B75 (A:=B) hy
   obtain ⟨b5,hb5⟩:∃ b,b=B.blk.length:=⟨_,rfl⟩
   rw [<- hb5]at t1 r5
   have wC:=f2.wf w1
   have hC:=h1.s0 w1 f2
   have r3C:=f2.row0 r3
   have lvC:=Ah7 r3C hx.id
   rw [hi]at lvC
   have nb5:¬ X.b b5:=fun z=>by have:=h1.hl.lt.2.1 b5 z;omega
   simp only [RT,Q0,Q1,Q2,Q3,Q4,Q5,Q6,Q7,Q8,h0,fH,lM,h3,fv,lv1,ix0,lr0,hl0,decide_eq_false (show ¬ ((Z.ml i).length:Int)=0 by omega)]
   rw [BJ7,Aa2 (by rfl)]
   simp only [RT,Q0,Q1,Q2,Q3,Q4,Q5,Q6,Q7,Q8,h0,fH,lM,h3,fv,lv1,ix0,lr0,gy3,gy4,Ch3,<- hb5,t1,lvC]
   refine Al0 (fun z e D=>Is z .normal/\∃ X2 Z2,Hall X2 D n g k s Z2/\HStep X C X2 D/\Z2.hp=Z.hp/\Z2.rb=Z.rb/\Z2.K=Z.K/\e.get 0=.ptr Z.hp 0/\e.get 3=.ptr b3 0/\e.get 4=.ptr (Z.K i).cb 0/\e.get 5=.ptr b5 0) ?_ ?_
   . refine Aa7 (fun d1 => ?_) (fun d1 => ?_)
     rotate_left
     . simp only [RT, Q0, Q1, Q2, Q3, Q4, Q5, Q6, Q7, Q8]
       refine ⟨rfl,X,Z,hC,.rfl',?_⟩
       and_intros <;> first | rfl | assumption
     have sC:=s0.fr0 f2
     have sC:Lst eSent (qHp X.f C) C (Z.vv 0 i) (Z.ml i) (Z.fl 0 i):=hC.hl.pt (.sl 0 i) ⟨by omega,hig⟩
     obtain ⟨wn,z1,z2⟩:=sC.fromN (P:=Try.prog) (t:=93) (e:=95) (kl:=.i64) Try.underlying93 B06 (lo:=1) (by omega) C
     have z1:evSlice Try.prog 93 (Z.vv 0 i) (some (.int .i64 1)) none none C=some wn:=z1
     obtain ⟨E,z3,hP⟩:=hC.hl.putMl (ty:=93) wC hig (.refl _ C) (.inl rfl) z2 B23
     have lMC:evLoad Try.prog 52 (.ptr Z.hp 3) C=some (.sl (Z.rb 0) 0 g 1):=(AZ6 (hC.hl.pt .hb trivial)).2.2.2.1
     have lrC:evLoad Try.prog 93 (.ptr (Z.rb 0) i) C=some (Z.vv 0 i):=B69 (hC.hl.pt (.rw 0) (by show 0 < 3;omega)).1 hig
     simp only [RT,Q0,Q1,Q2,Q3,Q4,Q5,Q6,Q7,Q8]
     rw [Bv0,Aa2 (by rfl)]
     simp only [RT,Q0,Q1,Q2,Q3,Q4,Q5,Q6,Q7,Q8,h0,fH,lMC,h3,fv,lvC,ix0,lrC,z1,z3]
     refine ⟨rfl,_,_,⟨hP.1,hC.hi.mails (i:=i) (l:=(Z.ml i).drop 1) (fun x hx=>List.mem_of_mem_drop hx),⟨h.hb.lg,h.hb.hd,fun j=>?_,h.hb.now⟩,h.lk,h.hg,h.g7,h.ok⟩,hP.2.1,rfl,rfl,rfl,?_⟩
     . show (up1 Z.ml i ((Z.ml i).drop 1) j).length <= 200
       by_cases e:j=i
       . subst e;rw [Ab5,List.length_drop];have:=h.hb.ml j;omega
       . rw [Ab7 e];exact h.hb.ml j
     . and_intros <;> first | rfl | assumption
   rintro z e D ⟨rfl,X2,Z2,hH2,hS2,ehp,erb,eK2,h0,h3,h4,h5⟩
   have wD:=hS2.wf wC
   have r3D:=hS2.box r3C nb3
   have r5D:=hS2.box r5 nb5
   have nb3D:=hS2.nb r3C nb3
   have nb5D:=hS2.nb r5 nb5
   have lvD:=Ah7 r3D hx.id
   rw [hi]at lvD
   have fs:=Ch4 b5
   have ls:=Cd0 r5D hy.id
   have hyD:=hy.mono (Hp.le_trans (Ad8 f2) (hS2.le wC))
   have hSD:=HStep.trans hw (.of0 f1) (HStep.trans w1 (.of0 f2) hS2)
   simp only [RT,Q0,Q1,Q2,Q3,Q4,Q5,Q6,Q7,Q8,h3,fv,lvD]
   refine Aa7 (fun d2=>?_) (fun d2=>?_)
   rotate_left
   . simp only [RT, Q0, Q1, Q2, Q3, Q4, Q5, Q6, Q7, Q8]
     exact ⟨X2,Z2,s,hH2.up.up,hSD,.rfl',ehp⟩
   simp only [Bj8]
   refine Al2 (fun z e E=>Is z .normal/\Is E D/\e.get 86=.bool (decide (y.2.kind=3∨y.2.kind=5))/\e.get 0=.ptr Z.hp 0/\e.get 3=.ptr b3 0/\e.get 4=.ptr (Z.K i).cb 0/\e.get 5=.ptr b5 0) ?_ ?_
   . by_cases k3 : y.2.kind = 3
     . simp only [RT, Q0, Q1, Q2, Q3, Q4, Q5, Q6, Q7, Q8, h5, fs, ls, decide_eq_true k3]
       refine ⟨rfl,rfl,?_⟩
       and_intros <;> first | rfl | assumption | simp [k3]
     by_cases k5:y.2.kind=5
     . simp only [RT, Q0, Q1, Q2, Q3, Q4, Q5, Q6, Q7, Q8, h5, fs, ls, decide_eq_false k3, decide_eq_true k5]
       refine ⟨rfl,rfl,?_⟩
       and_intros <;> first | rfl | assumption | simp [k5]
     . simp only [RT, Q0, Q1, Q2, Q3, Q4, Q5, Q6, Q7, Q8, h5, fs, ls, decide_eq_false k3, decide_eq_false k5]
       refine ⟨rfl,rfl,?_⟩
       and_intros <;> first | rfl | assumption | simp [k3,k5]
   rintro z e E ⟨rfl,rfl,h86,h0,h3,h4,h5⟩
   simp only [RT,Q0,Q1,Q2,Q3,Q4,Q5,Q6,Q7,Q8,h86]
   refine Al0 (fun z e F=>Is z .normal/\∃ X3 Z3,Hall X3 F n g (k+1) s Z3/\HStep X2 E X3 F/\Z3.hp=Z.hp/\Z3.K=Z.K/\e.get 0=.ptr Z.hp 0/\e.get 3=.ptr b3 0/\e.get 4=.ptr (Z.K i).cb 0/\e.get 5=.ptr b5 0) ?_ ?_
   . refine Aa7 (fun d1 => ?_) (fun d1 => ?_)
     rotate_left
     . simp only [RT, Q0, Q1, Q2, Q3, Q4, Q5, Q6, Q7, Q8]
       refine ⟨rfl,X2,Z2,hH2.up,.rfl',ehp,eK2,?_⟩
       and_intros <;> first | rfl | assumption
     have bE:=hH2.hl.pt .hb trivial
     have lE:=AZ6 bE
     rw [ehp]at lE
     have ixE:=B15 (b:=Z2.rb 2) hig
     have lrE:evLoad Try.prog 34 (.ptr (Z2.rb 2) i) E=some (Z2.vv 2 i):=B16 (hH2.hl.pt (.rw 2) (by show 2 < 3;omega)).1 hig
     have sE:Lst eMsg (qHp X2.f E) E (Z2.vv 2 i) (Z2.hd i) (Z2.fl 2 i):=hH2.hl.pt (.sl 2 i) ⟨by omega,hig⟩
     have bH:=BC7 (dv:=dy) y.2.data hyD.data.form
     have bS:=A90 (x:=hdM y.2.data) (dv:=dy) (iv:=.snil) (lv:=.snil) Ab2
     obtain ⟨v',F,fo,p1,p2,p3,p4⟩:=sE.push (P:=Try.prog) (t:=34) (tx:=34) (n:=41) rfl B25 Try.underlying34 wD (y:=hdM y.2.data) (cs':=mc (hdM y.2.data) dy .snil .snil) ⟨dy,.snil,.snil,rfl,Ab2,hyD.data,.inl ⟨rfl,rfl⟩,.inl ⟨rfl,rfl⟩⟩ (by have:=hH2.hb.hd i;omega) (by have:=hH2.hb.hd i;omega)
     obtain ⟨G,z1,hP⟩:=hH2.hl.putHd (ty:=34) wD hig p3 p4 p2 B20
     have lF:=AZ6 (p3.row _ _ bE (Aa8 bE))
     rw [ehp]at lF
     have lvF:=Ah7 (p3.row _ _ r3D (Aa8 r3D)) hx.id
     rw [hi]at lvF
     have z1:evStore Try.prog 34 (.ptr (Z2.rb 2) i) v' F=some G:=z1
     simp only [RT,Q0,Q1,Q2,Q3,Q4,Q5,Q6,Q7,Q8]
     simp only [RT,Q0,Q1,Q2,Q3,Q4,Q5,Q6,Q7,Q8,Bv1,Aa1,h0,h3,h5,fH,lE,fv,lvD,ixE,lrE,fs,ls,bH,bS,p1]
     refine ⟨Aa3 (ha:=rfl) rfl lF.2.2.2.2.2 rfl (Aa3 (ha:=rfl) rfl lvF.2.1 rfl Aa1),?_⟩
     simp only [RT,Q0,Q1,Q2,Q3,Q4,Q5,Q6,Q7,Q8,ixE,z1,Aa1]
     refine ⟨rfl,_,_,⟨hP.1,hH2.hi.came (i:=i) (m:=hdM y.2.data) ⟨⟨by show 0<=1000000;omega,(h.hi.auth i y hym).2.2⟩,by show ((3:Int)≠4);omega⟩,⟨fun j=>?_,fun j=>?_,hH2.hb.ml,fun j=>?_⟩,hH2.lk,h.hg,h.g7,h.ok⟩,hP.2.1,ehp,eK2,?_⟩
     . have := hH2.hb.lg j
       show (Z2.lg j).length<=_;omega
     . show (up1 Z2.hd i (Z2.hd i ++ [hdM y.2.data]) j).length <= k + 1
       have:=hH2.hb.hd j
       by_cases e:j=i
       . subst e;rw [Ab5,List.length_append];simp;omega
       . rw [Ab7 e];omega
     . have := hH2.hb.now j
       show (Z2.c j).now<=_;omega
     . and_intros <;> first | rfl | assumption
   rintro z e F ⟨rfl,X3,Z3,hH3,hS3,ehp3,eK3,h0,h3,h4,h5⟩
   have wF:=hS3.wf wD
   have r3F:=hS3.box r3D nb3D
   have r5F:=hS3.box r5D nb5D
   have nb3F:=hS3.nb r3D nb3D
   have lvF:=Ah7 r3F hx.id
   rw [hi]at lvF
   have lsF:=Cd0 r5F hy.id
   have hyF:=hyD.mono (hS3.le wD)
   have hcF:IsCo X3.f F (Z3.K i) (Z3.fk i) (Z3.ft i) (Z3.c i):=hH3.hl.pt (.co i) hig
   have hrec:=(h.hi.auth i y hym).2
   obtain ⟨u,G,k1,hr⟩:=AE5 wF hcF (w:=y.1) hyF hrec.1 (by have:=hrec.2;omega)
   obtain ⟨s',hk'⟩:=Bf6 (w:=y.1) (x:=y.2) hH3.hi.all hHn (hH3.hi.par i hHn) (fun _ _=>(h.hi.auth i y hym).1)
   obtain ⟨_,J,k2,X4,Z4,hH4,hS4,y1,y2,y3,y4⟩:=hH3.tell wF hig hr hk' (A47 _ _ _) (AN5 hcF.rng hcF.acts _ _) (by rw [AN4];have:=hH3.hb.now i;omega) (by omega)
   have lvG:=Ah7 (hH3.mbox wF hig hr r3F nb3F) hx.id
   rw [hi]at lvG
   rw [eK3]at k1
   rw [ehp3]at k2 y1
   simp only [RT,Q0,Q1,Q2,Q3,Q4,Q5,Q6,Q7,Q8,Bv2,Aa1,h0,h3,h4,h5,fv,lvF,fs,lsF]
   refine Aa0 k1 ?_
   simp only [RT,Q0,Q1,Q2,Q3,Q4,Q5,Q6,Q7,Q8,Aa1]
   refine ⟨Aa3 (ha:=rfl) rfl lvG.2.1 rfl Aa1,?_⟩
   refine Aa0 k2 ?_
   simp only [RT,Q0,Q1,Q2,Q3,Q4,Q5,Q6,Q7,Q8,Aa1]
   exact ⟨X4,Z4,s',hH4,HStep.trans hw hSD (HStep.trans wD hS3 hS4),y4,y1⟩
 simp only [RT,Q0,Q1,Q2,Q3,Q4,Q5,Q6,Q7,Q8,h30]
 refine Aa7 (fun c3=>?_) (fun c3=>?_)
 . obtain ⟨u, C, k1, hr⟩ := AZ3 w1 hco (by omega)
   obtain ⟨s',hk'⟩:=BC1 h1.hi.all hHn (h1.hi.par i hHn)
   obtain ⟨_,D,k2,X3,Z3,hH3,hS3,y1,y2,y3,y4⟩:=h1.tell w1 hig hr hk' (Bq4 _) (Bq7 hco.rng hco.acts hco.lim.tim) (by rw [Bq6];omega) (by omega)
   have lvC:=Ah7 (h1.mbox w1 hig hr r3 nb3) hx.id
   rw [hi]at lvC
   simp only [RT,Q0,Q1,Q2,Q3,Q4,Q5,Q6,Q7,Q8,Bv3,Aa1,h0,h3,h4,fv,lv1]
   refine Aa0 k1 ?_
   simp only [RT,Q0,Q1,Q2,Q3,Q4,Q5,Q6,Q7,Q8,Aa1]
   refine ⟨Aa3 (ha:=rfl) rfl lvC.2.1 rfl Aa1,?_⟩
   refine Aa0 k2 ?_
   simp only [RT,Q0,Q1,Q2,Q3,Q4,Q5,Q6,Q7,Q8,Aa1]
   exact ⟨X3,Z3,s',hH3.up,HStep.trans hw (.of0 f1) hS3,y4,y1⟩
 simp only [RT,Q0,Q1,Q2,Q3,Q4,Q5,Q6,Q7,Q8,h30]
 refine Aa7 (fun c4=>?_) (fun c4=>?_)
 . simp only [RT, Q0, Q1, Q2, Q3, Q4, Q5, Q6, Q7, Q8]
   rw [Bv4,Aa2 (by rfl)]
   obtain ⟨_,C,k1,f2,K,rfl,hN,hC⟩:=AN0 w1 (n:=n) (me:=i) (h:=2) h.ok hin (by omega) (by omega)
   have wC:=f2.wf w1
   have hlt:=(hC (fun _=>False) (fun _ z=>z.elim)).lt
   have hml:=CoM.mlt (hC (fun _=>False) (fun _ z=>z.elim)).cm
   obtain ⟨X1,hI1,hS1,_⟩:=h1.hl.addC w1 f2 hN hC ⟨hlt.1,hlt.2.1,hlt.2.2,hml.1,hml.2⟩
   have r31:=hS1.box r3 nb3
   have nb31:=hS1.nb r3 nb3
   have lvC:=Ah7 r31 hx.id
   rw [hi]at lvC
   have lC:=AZ6 (hI1.pt .hb trivial)
   have lC5:evLoad Try.prog 53 (.ptr Z.hp 5) C=some (.sl (Z.rb 2) 0 g 1):=lC.2.2.2.2.2
   have ixC:=B15 (b:=Z.rb 2) hig
   have lrC:evLoad Try.prog 34 (.ptr (Z.rb 2) i) C=some (Z.vv 2 i):=B16 (hI1.pt (.rw 2) (by show 2 < 3;omega)).1 hig
   have sC:Lst eMsg (qHp X1.f C) C (Z.vv 2 i) (Z.hd i) (Z.fl 2 i):=hI1.pt (.sl 2 i) ⟨by omega,hig⟩
   obtain ⟨_,D,k2,X2,fk2,hI2,hS2⟩:=hI1.recall (kk:=2) (K:=K) wC Ab5 Ab5 Ab5 Ab5 (by omega) hig sC rfl (fun y hy=>(h.hi.hdk i y hy).1) (by have:=h.hb.hd i;omega)
   have wD:=hS2.wf wC
   have r32:=hS2.box r31 nb31
   have nb32:=hS2.nb r31 nb31
   have lvD:=Ah7 r32 hx.id
   rw [hi]at lvD
   have lD:=AZ6 (hI2.pt .hb trivial)
   have lD4:evLoad Try.prog 53 (.ptr Z.hp 4) D=some (.sl (Z.rb 1) 0 g 1):=lD.2.2.2.2.1
   have ixD:=B15 (b:=Z.rb 1) hig
   have lrD:evLoad Try.prog 34 (.ptr (Z.rb 1) i) D=some (Z.vv 1 i):=B16 (hI2.pt (.rw 1) (by show 1 < 3;omega)).1 hig
   have sD:Lst eMsg (qHp X2.f D) D (Z.vv 1 i) (Z.lg i) (Z.fl 1 i):=hI2.pt (.sl 1 i) ⟨by omega,hig⟩
   obtain ⟨_,E,k3,X3,fk3,hI3,hS3⟩:=hI2.recall (kk:=1) (K:=K) wD Ab5 Ab5 Ab5 Ab5 (by omega) hig sD rfl (fun y hy=>(h.hi.lgk i y hy).1) (by have:=h.hb.lg i;omega)
   have wE:=hS3.wf wD
   have r33:=hS3.box r32 nb32
   have nb33:=hS3.nb r32 nb32
   have lvE:=Ah7 r33 hx.id
   rw [hi]at lvE
   have lE:=AZ6 (hI3.pt .hb trivial)
   have lE2:evLoad Try.prog 51 (.ptr Z.hp 2) E=some Z.w:=lE.2.2.1
   have alE:Lst ePt Hp.emp E Z.w Z.al Z.fa:=hI3.pt .al trivial
   have halg:Z.al.length=g:=by rw [h.lk];simp
   obtain ⟨bs,os,G,z1,z2,z3,z4⟩:=alE.set (P:=Try.prog) (t:=51) (e:=30) (k:=.i64) Try.underlying51 B05 (i:=i) (by omega) (x:=K.cb) (xv:=.ptr K.cb 0) (c:=[.ptr K.cb 0]) rfl rfl
   obtain ⟨hI4,hS4⟩:=hI3.setAl wE z4 z3
   have wG:=hS4.wf wE
   have r34:=hS4.box r33 nb33
   have nb34:=hS4.nb r33 nb33
   have hI5:=hI4.swp hig
   have lvG:=Ah7 r34 hx.id
   rw [hi]at lvG
   obtain ⟨s',hb1,hb2⟩:=h1.hi.back h.ok hHn hin
   obtain ⟨c3,hc3⟩:∃ c,c=((co0 n i 2).Recall (Z.hd i)).Recall (Z.lg i):=⟨_,rfl⟩
   rw [<- hc3]at hb1
   obtain ⟨Z5,hZ5⟩:∃ z,z=((((Z.add g K (co0 n i 2)).cor g fk2 none ((co0 n i 2).Recall (Z.hd i))).cor g fk3 none (((co0 n i 2).Recall (Z.hd i)).Recall (Z.lg i))).lst Z.w (Z.al.set i K.cb) Z.fa).swp i g:=⟨_,rfl⟩
   have hI5:IsHl X3 G n g g Z5:=by rw [hZ5];exact hI5
   have hnow3:c3.now=0:=by rw [hc3,AJ7,AJ7];rfl
   have ec:∀ j,Z5.c j=if j=i then c3 else if j=g then c3 else Z.c j:=fun j=>by
    rw [hZ5]
    show up1 (up1 (up1 (up1 Z.c g _) g _) g _) i (up1 (up1 (up1 Z.c g _) g _) g _ g) j=_
    by_cases q1:j=i
    . subst q1;rw [Ab5,Ab5,if_pos rfl,hc3]
    . rw [Ab7 q1, if_neg q1]
      by_cases q2:j=g
      . subst q2;rw [Ab5,if_pos rfl,hc3]
      . rw [Ab7 q2,Ab7 q2,Ab7 q2,if_neg q2]
   have eK:∀ j,j < g->Z5.K j=if j=i then K else Z.K j:=fun j hj=>by
    rw [hZ5]
    show up1 (up1 Z.K g K) i (up1 Z.K g K g) j=_
    by_cases q1:j=i
    . subst q1;rw [Ab5,Ab5,if_pos rfl]
    . rw [Ab7 q1,if_neg q1,Ab7 (by omega)]
   have e1:Z5.hp=Z.hp/\Z5.ml=Z.ml/\Z5.lg=Z.lg/\Z5.hd=Z.hd/\Z5.al=Z.al.set i K.cb:=by rw [hZ5];exact ⟨rfl,rfl,rfl,rfl,rfl⟩
   have hH5:Hall X3 G n g k s' Z5:=by
    refine ⟨hI5,?_,⟨fun j=>by rw [e1.2.2.1];exact h.hb.lg j,fun j=>by rw [e1.2.2.2.1];exact h.hb.hd j,by rw [e1.2.1];exact h.hb.ml,fun j=>?_⟩,?_,h.hg,h.g7,h.ok⟩
    . rw [e1.2.1, e1.2.2.1, e1.2.2.2.1]
      refine HI.congr hb1 fun j hj=>?_
      rw [ec]
      by_cases q1:j=i
      . subst q1;rw [if_pos rfl,Ab5]
      . rw [if_neg q1,Ab7 q1,if_neg (by unfold HnF at hj;have:=h.hg;omega)]
    . rw [ec]
      split
      . rw [hnow3];omega
      . split
        . rw [hnow3];omega
        . exact h.hb.now j
    . rw [e1.2.2.2.2]
      apply List.ext_getElem?
      intro j
      rw [List.getElem?_set,h.lk]
      rcases Nat.lt_or_ge j g with qj | qj
      . rw [List.getElem?_map, List.getElem?_map, List.getElem?_range qj]
        show _=some (Z5.K j).cb
        rw [eK j qj]
        by_cases q1:j=i
        . subst q1;rw [if_pos rfl,if_pos (by simp;omega),if_pos rfl]
        . rw [if_neg (fun z=>q1 z.symm),if_neg q1];rfl
      . rw [if_neg (by omega),List.getElem?_eq_none (by simp;omega),List.getElem?_eq_none (by simp;omega)]
   obtain ⟨_,J,k5,f5,rfl,r5⟩:=AJ8 (i:=i) G (by omega)
   have wJ:=f5.wf wG
   have hHJ:=hH5.s0 wG f5
   have r35:=f5.row0 r34
   have lvJ:=Ah7 r35 hx.id
   rw [hi]at lvJ
   have hcJ:IsCo X3.f J (Z5.K i) (Z5.fk i) (Z5.ft i) (Z5.c i):=hHJ.hl.pt (.co i) hig
   have hvJ:Slc eU8 (qHp X3.f J) (.sl G.blk.length 0 1 1) (batchB i):=Be2 (Al1 r5 fun q=>by have:=hH5.hl.lt.1 _ q;omega) rfl
   obtain ⟨u6,L,k6,hr6⟩:=Aq5 wJ hcJ hvJ (by show 1<=1000000;omega)
   obtain ⟨s6,hk6⟩:=A43 (b:=batchB i) hHJ.hi.all hHn (hHJ.hi.par i hHn)
   obtain ⟨_,N,k7,X7,Z7,hH7,hS7,y1,y2,y3,y4⟩:=hHJ.tell wJ hig hr6 hk6 (AS6 _ _) (AT0 hcJ.rng hcJ.acts _) (by rw [AS8];have:=hHJ.hb.now i;omega) (by omega)
   have lvL:=Ah7 (hHJ.mbox wJ hig hr6 r35 nb34) hx.id
   rw [hi]at lvL
   rw [eK i hig,if_pos rfl]at k6
   rw [e1.1]at k7 y1
   simp only [RT,Q0,Q1,Q2,Q3,Q4,Q5,Q6,Q7,Q8,h0,fH,l1,h3,fv,lv1]
   refine Aa0 k1 ?_
   simp only [RT,Q0,Q1,Q2,Q3,Q4,Q5,Q6,Q7,Q8,BC3]
   rw [Bv5,Aa2 (by rfl)]
   simp only [RT,Q0,Q1,Q2,Q3,Q4,Q5,Q6,Q7,Q8,h0,fH,lC5,ixC,lrC,h3,fv,lvC]
   refine Aa0 k2 ?_
   simp only [RT,Q0,Q1,Q2,Q3,Q4,Q5,Q6,Q7,Q8]
   rw [Bv6,Aa2 (by rfl)]
   simp only [RT,Q0,Q1,Q2,Q3,Q4,Q5,Q6,Q7,Q8,h0,fH,lD4,ixD,lrD,h3,fv,lvD]
   refine Aa0 k3 ?_
   simp only [RT,Q0,Q1,Q2,Q3,Q4,Q5,Q6,Q7,Q8]
   rw [Bv7,Aa2 (by rfl)]
   simp only [RT,Q0,Q1,Q2,Q3,Q4,Q5,Q6,Q7,Q8,h0,fH,lE2,h3,fv,lvE,z1,z2]
   simp only [RT,Q0,Q1,Q2,Q3,Q4,Q5,Q6,Q7,Q8,Bv8,Aa1,h0,h3,fv,lvG]
   refine Aa0 k5 ?_
   simp only [RT,Q0,Q1,Q2,Q3,Q4,Q5,Q6,Q7,Q8,Aa1]
   refine ⟨Aa3 (ha:=rfl) rfl lvJ.2.1 rfl Aa1,?_⟩
   refine Aa0 k6 ?_
   simp only [RT,Q0,Q1,Q2,Q3,Q4,Q5,Q6,Q7,Q8,Aa1]
   refine ⟨Aa3 (ha:=rfl) rfl lvL.2.1 rfl Aa1,?_⟩
   refine Aa0 k7 ?_
   simp only [RT,Q0,Q1,Q2,Q3,Q4,Q5,Q6,Q7,Q8,Aa1]
   have hSall:=HStep.trans hw (.of0 f1) (hS1.trans w1 (hS2.trans wC (hS3.trans wD (hS4.trans wE (HStep.trans wG (.of0 f5) hS7)))))
   exact ⟨X7,Z7,s6,hH7.up,hSall,hb2.trans y4,y1⟩
 simp only [RT,Q0,Q1,Q2,Q3,Q4,Q5,Q6,Q7,Q8,h30]
 refine Aa7 (fun c5=>?_) (fun c5=>?_)
 rotate_left
 . simp only [RT, Q0, Q1, Q2, Q3, Q4, Q5, Q6, Q7, Q8]
   exact ⟨X,Z,s,h1.up.up,.of0 f1,.rfl',rfl⟩
 simp only [RT,Q0,Q1,Q2,Q3,Q4,Q5,Q6,Q7,Q8]
 rw [Bv9,Aa2 (by rfl)]
 simp only [RT,Q0,Q1,Q2,Q3,Q4,Q5,Q6,Q7,Q8,h0,fH,l1,decide_eq_true (show (g:Int) < (n:Int) by omega)]
 rw [Bw0,Aa2 (by rfl)]
 obtain ⟨F,hF⟩:∃ F:Int,F=(n:Int) - (g:Int):=⟨_,rfl⟩
 have hF0:0 < F:=by omega
 have m1:=BT7 x.2.2.1 hF0
 obtain ⟨r1,hr1⟩:∃ r,r=x.2.2.1.tmod F:=⟨_,rfl⟩
 rw [<- hr1]at m1
 have m2:=BT7 (r1+F) hF0
 have m3:=B74 hF0 (show 0<=r1+F by omega)
 obtain ⟨r2,hr2⟩:∃ r,r=(r1+F).tmod F:=⟨_,rfl⟩
 rw [<- hr2]at m2 m3
 have ew1:IntKind.i64.wrap ((n:Int) - (g:Int))=F:=by rw [Ae1 (by omega) (by omega)];omega
 have ew2:IntKind.i64.wrap (r1+F)=r1+F:=by rw [Ae1 (by omega) (by omega)]
 have ew3:IntKind.i64.wrap ((g:Int)+r2)=(g:Int)+r2:=by rw [Ae1 (by omega) (by omega)]
 have er1:evBin Try.prog .rem 3 (.int .i64 x.2.2.1) (.int .i64 F)=some (.int .i64 r1):=by rw [AB4,if_neg (by omega),hr1]
 have er2:evBin Try.prog .rem 3 (.int .i64 (r1+F)) (.int .i64 F)=some (.int .i64 r2):=by rw [AB4,if_neg (by omega),hr2]
 obtain ⟨u,C,k1,hr⟩:=AE5 w1 hco (w:=(g:Int)+r2) (hx.mono (Ad8 f1)) hxi hxd
 obtain ⟨s',hk'⟩:=Bf6 (w:=(g:Int)+r2) (x:=x.2.2.2) h1.hi.all hHn (h1.hi.par i hHn) (fun _ _ hq=>by unfold HnF at hq;have:=h.hg;omega)
 obtain ⟨_,D,k2,X3,Z3,hH3,hS3,y1,y2,y3,y4⟩:=h1.tell w1 hig hr hk' (A47 _ _ _) (AN5 hco.rng hco.acts _ _) (by rw [AN4];omega) (by omega)
 have lvC:=Ah7 (h1.mbox w1 hig hr r3 nb3) hx.id
 rw [hi]at lvC
 simp only [RT,Q0,Q1,Q2,Q3,Q4,Q5,Q6,Q7,Q8,h0,fH,l1,ew1]
 simp only [RT,Q0,Q1,Q2,Q3,Q4,Q5,Q6,Q7,Q8,Bw1,Aa1,h0,h3,h4,fv,lv1,fH,l1,er1,er2,ew2,ew3]
 refine Aa0 k1 ?_
 simp only [RT,Q0,Q1,Q2,Q3,Q4,Q5,Q6,Q7,Q8,Aa1]
 refine ⟨Aa3 (ha:=rfl) rfl lvC.2.1 rfl Aa1,?_⟩
 refine Aa0 k2 ?_
 simp only [RT,Q0,Q1,Q2,Q3,Q4,Q5,Q6,Q7,Q8,Aa1]
 exact ⟨X3,Z3,s',hH3.up,HStep.trans hw (.of0 f1) hS3,y4,y1⟩
end
end Go.Sv.Try
namespace Go.Sv
open Go
theorem A98 {P:Program} {H:Hints} {f:FuncId} {nt:Nat} {ops:Array Oper} {o:Oper} {r:List Oper} {k2:List Kt} {e:Env} {A:AS} {Q:Ex->Env->AS->Prop} {v:V} {want:Bool} {j d:Nat} (hg:o.guard=some (j,want)) (hd:(ops[j]?).bind (·.dst)=some d) (hv:e.get d=v) (hok:dstOk nt o=true)
 (R:Ex->Env->AS->Prop) (h:contG P H f nt v want o [.ops ops r] e A R) (hk:∀ x e A,R x e A->Run P H f nt k2 x e A Q):contG P H f nt v want o (.ops ops r::k2) e A Q:=by
 have key:∀ (k:List Kt) (Q:Ex->Env->AS->Prop),Run P H f nt (.ops ops (o::r)::k) .normal e A Q=(dstOk nt o=true/\contG P H f nt v want o (.ops ops r::k) e A Q):=fun k Q=>by
  rw [Bk1];unfold runO;rw [hg];simp only [hd,hv]
 have:=Ah2 (k1:=[.ops ops (o::r)]) (k2:=k2) (R:=R) (Q:=Q) (x:=.normal) (by rw [key];exact ⟨hok,h⟩) hk
 rw [List.singleton_append,key]at this
 exact this.2
def MvOk (l:List Mv16):Prop:=∀ x∈l,x.2.2.2.data.length<=100/\x.2.2.2.ids.length<=64
end Go.Sv
namespace Go.Sv.Try
open Go Go.Proofs
def eMv16:Enc Mv16:=⟨44,true,fun m cs x=>∃ dv iv lv,cs=mvC16 x dv iv lv/\MsgIn m x.2.2.2 dv iv lv,fun ⟨_,_,_,h,q⟩=>by rw [h,Av9 q.id],fun h=>by simp at h,fun ⟨_,_,_,h,q⟩=>by rw [h];exact AT5 q,fun hm ⟨a,b,c,h,q⟩=>⟨a,b,c,h,q.mono hm⟩⟩
theorem Bg5 {m:Hp} {w:V} {x:Mv16} (h:eMv16.W m w x):∃ dv iv lv,w=.agg (mvC16 x dv iv lv)/\MsgIn m x.2.2.2 dv iv lv:=by
 unfold Enc.W at h
 rw [if_pos (by rfl)]at h
 obtain ⟨cs,rfl,dv,iv,lv,rfl,g⟩:=h
 exact ⟨dv,iv,lv,rfl,g⟩
section
variable {X X' X2:HX} {Y:Nat->Prop} {A B C:AS} {n g q i k:Nat} {Z Z':HC} {s s':Nat->Led} {m:Hp}
theorem AT6:(zeroT Try.prog 45).bind V.cells=some (mvC16 (0,0,0,mIn0) .snil .snil .snil):=Ci6
theorem Bg6 {x:Mv16} {dv iv lv:V} (h:MsgIn m x.2.2.2 dv iv lv):∃ A',evStore Try.prog 45 (.ptr A.blk.length 0) (.agg (mvC16 x dv iv lv)) (A.push ⟨mvC16 (0,0,0,mIn0) .snil .snil .snil,.var⟩)=some A'/\Fr S0 A A'/\A'.blk[A.blk.length]?=some ⟨mvC16 x dv iv lv,.var⟩:=by
 obtain ⟨A2,s1,s2,s3,s4⟩:=Ai4 (P:=Try.prog) A (z:=mvC16 (0,0,0,mIn0) .snil .snil .snil) (t:=45) (x:=.agg (mvC16 x dv iv lv)) (cs:=mvC16 x dv iv lv) rfl (by rw [Av9 h.id];exact B21) (by rw [Av9 h.id];rfl) (AT5 h)
 exact ⟨A2,s1,s2,s3⟩
set_option maxRecDepth 10000 in
set_option maxHeartbeats 64000000 in
theorem coreAgree_spec {v:V} {vt:Int} {l:List Mv16} (hw:WF A) (hl:Slc eMv16 (roHp A) v l) (hln:l.length<=9223372036854775807) (hin:∀ x∈l,IntIn .i64 x.2.2.1) :
 ∃ u A',EvF Try.prog HH 4 [.int .i64 vt,v] A u A'/\u=.bool true:=by
 refine Aa4 rfl Try.func4 (by unfold Try.f4;rfl) Try.ntmps4 (by unfold Try.f4;rfl) (by simp) ?_
 obtain ⟨_,A1,k1,f1,rfl⟩:=AS7 hw
 have w1:=f1.wf hw
 simp only [RT,Q0,Q1,Q2,Q3,Q4,Q5,Q6,Q7,Q8]
 refine Aa0 k1 ?_
 have hlen:=fun B=>hl.len (P:=Try.prog) Try.underlying43 B
 simp only [RT,Q0,Q1,Q2,Q3,Q4,Q5,Q6,Q7,Q8,Ao0]
 refine A98 rfl rfl rfl rfl (fun z e B=>Is z .normal/\Is B A1/\e.get 28=.bool (decide (¬ (vt=4∨vt=7)∨200 < l.length))/\e.get 0=.int .i64 vt/\e.get 1=v) ?_ ?_
 . by_cases c4 : vt = 4
   . by_cases cl : (l.length : Int) > 200
     . simp only [RT, Q0, Q1, Q2, Q3, Q4, Q5, Q6, Q7, Q8, decide_eq_false (show ¬ ¬ vt = 4 from fun z => z c4), hlen, decide_eq_true cl]
       refine ⟨rfl,rfl,?_⟩
       first | done | (simp;omega)
     . simp only [RT, Q0, Q1, Q2, Q3, Q4, Q5, Q6, Q7, Q8, decide_eq_false (show ¬ ¬ vt = 4 from fun z => z c4), hlen, decide_eq_false cl]
       refine ⟨rfl,rfl,?_⟩
       first | done | (simp;omega)
   by_cases c7:vt=7
   . by_cases cl : (l.length : Int) > 200
     . simp only [RT, Q0, Q1, Q2, Q3, Q4, Q5, Q6, Q7, Q8, decide_eq_true c4, decide_eq_false (show ¬ ¬ vt = 7 from fun z => z c7), hlen, decide_eq_true cl]
       refine ⟨rfl,rfl,?_⟩
       first | done | (simp;omega)
     . simp only [RT, Q0, Q1, Q2, Q3, Q4, Q5, Q6, Q7, Q8, decide_eq_true c4, decide_eq_false (show ¬ ¬ vt = 7 from fun z => z c7), hlen, decide_eq_false cl]
       refine ⟨rfl,rfl,?_⟩
       first | done | (simp;omega)
   . simp only [RT, Q0, Q1, Q2, Q3, Q4, Q5, Q6, Q7, Q8, decide_eq_true c4, decide_eq_true c7]
     refine ⟨rfl,rfl,?_⟩
     first | done | (simp;omega)
 rintro z e B ⟨rfl,rfl,h28,h0,h1⟩
 simp only [RT,Q0,Q1,Q2,Q3,Q4,Q5,Q6,Q7,Q8,h28]
 refine Aa7 (fun q=>?_) (fun q=>?_)
 . simp only [RT,Q0,Q1,Q2,Q3,Q4,Q5,Q6,Q7,Q8]
 have hv47:vt=4∨vt=7:=by
  by_cases c4:vt=4
  . exact .inl c4
  . by_cases c7 : vt = 7
    . exact .inr c7
    . exact absurd (.inl (by rintro (z | z);exact c4 z;exact c7 z)) q
 have hl200:l.length<=200:=by
  apply Nat.not_lt.1;intro z;exact q (.inr z)
 simp only [RT,Q0,Q1,Q2,Q3,Q4,Q5,Q6,Q7,Q8,h1,hlen]
 refine Aa6 (fun z e C=>∃ (j:Nat) (nn:Int),z=l.length - j/\j<=l.length/\e.get 31=.int .i64 j/\e.get 5=.int .i64 nn/\0<=nn/\nn<=5000/\e.get 0=.int .i64 vt/\e.get 1=v/\e.get 29=v/\e.get 30=.int .i64 l.length/\Fr S0 B C/\MvOk (l.take j))
  (fun z e C=>Fr S0 B C/\((Is z (.exit 0)/\e.get 0=.int .i64 vt/\e.get 1=v/\MvOk l)∨(Is z .ret/\e.get 4=.bool true)))
  ⟨_,0,0,rfl,by omega,rfl,rfl,by omega,by omega,h0,h1,rfl,rfl,.refl _ _,fun x z=>by cases z⟩ ?_ ?_
 . rintro z e C ⟨j, nn, rfl, hj, h31, h5, hn0, hn1, h0, h1, h29, h30, hf, hn⟩
   simp only [RT,Q0,Q1,Q2,Q3,Q4,Q5,Q6,Q7,Q8,h31,h30]
   refine Aa7 (fun q1=>?_) (fun q1=>?_)
   rotate_left
   . have : j = l.length := by omega
     subst this
     rw [List.take_length]at hn
     simp only [RT,Q0,Q1,Q2,Q3,Q4,Q5,Q6,Q7,Q8]
     exact ⟨hf,.inl ⟨rfl,h0,h1,hn⟩⟩
   obtain ⟨x,hx⟩:=Ag4 (l:=l) (i:=j) (by omega)
   obtain ⟨bb,o,cc,g3,g4,g5⟩:=hl.at (P:=Try.prog) (k:=.i64) ((BE2 A).fr0 (f1.then0 hf)) Try.underlying43 B21 Ca2 hx
   obtain ⟨dv,iv,lv,rfl,hin'⟩:=Bg5 g5
   obtain ⟨D,s1,s2,s3⟩:=Bg6 (A:=C) hin'
   have fa:=Bg3 C.blk.length
   have ld:=Ah7 s3 hin'.id
   have hd:=fun B=>hin'.data.len (P:=Try.prog) Try.underlying24 B
   have hil:=fun B=>hin'.ids.len (P:=Try.prog) Try.underlying25 B
   have hwi:IntKind.i64.wrap ((j:Int)+1)=((j+1:Nat):Int):=by rw [Ae4 (by omega)]
   have hfC:=hf.then0 s2
   by_cases c1:x.2.2.2.data.length > 100
   . simp only [RT, Q0, Q1, Q2, Q3, Q4, Q5, Q6, Q7, Q8, h29, h31, g3, g4, AT6, s1, fa, ld, hd, h5, decide_eq_true (show (x.2.2.2.data.length : Int) > 100 by omega)]
     exact ⟨hfC,.inr rfl⟩
   by_cases c2:x.2.2.2.ids.length > 64
   . simp only [RT, Q0, Q1, Q2, Q3, Q4, Q5, Q6, Q7, Q8, h29, h31, g3, g4, AT6, s1, fa, ld, hd, h5, decide_eq_false (show ¬ (x.2.2.2.data.length : Int) > 100 by omega), hil, decide_eq_true (show (x.2.2.2.ids.length : Int) > 64 by omega)]
     exact ⟨hfC,.inr rfl⟩
   have hwn:IntKind.i64.wrap (nn+(x.2.2.2.data.length:Int))=nn+(x.2.2.2.data.length:Int):=Ae1 (by omega) (by omega)
   by_cases c3:nn+(x.2.2.2.data.length:Int) > 5000
   . simp only [RT, Q0, Q1, Q2, Q3, Q4, Q5, Q6, Q7, Q8, h29, h31, g3, g4, AT6, s1, fa, ld, hd, h5, hwn, decide_eq_false (show ¬ (x.2.2.2.data.length : Int) > 100 by omega), hil, decide_eq_false (show ¬ (x.2.2.2.ids.length : Int) > 64 by omega), decide_eq_true c3]
     exact ⟨hfC,.inr rfl⟩
   simp only [RT,Q0,Q1,Q2,Q3,Q4,Q5,Q6,Q7,Q8,h29,h31,g3,g4,AT6,s1,fa,ld,hd,h5,hwn,decide_eq_false (show ¬ (x.2.2.2.data.length:Int) > 100 by omega),hil,decide_eq_false (show ¬ (x.2.2.2.ids.length:Int) > 64 by omega),decide_eq_false c3,hwi]
   have hn':MvOk (l.take (j+1)):=fun y hy=>by
    rw [Ac4 hx]at hy
    rcases List.mem_append.1 hy with hy | hy
    . exact hn y hy
    . rw [List.mem_singleton.1 hy];exact ⟨by omega,by omega⟩
   refine ⟨l.length - (j+1),by omega,j+1,_,rfl,by omega,rfl,rfl,by omega,by omega,?_⟩
   and_intros <;> first | rfl | assumption
 rintro z e C hz ⟨hf,⟨rfl,h0,h1,hmv⟩ | ⟨rfl,h4⟩⟩
 rotate_left
 . simp only [RT,Q0,Q1,Q2,Q3,Q4,Q5,Q6,Q7,Q8,h4]
 obtain ⟨n,hn⟩:∃ n:Nat,vt=n:=⟨vt.toNat,by omega⟩
 subst hn
 have hok:okN n:=by unfold okN;omega
 have hfl:fltsI (n:Int)=flts n:=AX7 hok
 have f2:Fr S0 A C:=f1.then0 hf
 have wC:=f2.wf hw
 obtain ⟨_,_,k2,hA,rfl⟩:=Ao6 (A:=C) (n:=(n:Int)) (by omega) (by omega)
 rw [hA]at k2
 obtain ⟨g,hg⟩:∃ g,g=n - flts n:=⟨_,rfl⟩
 have hgf:flts n=1/\n=4∨flts n=2/\n=7:=by
  rcases hv47 with z | z
  . have : n = 4 := by omega
    subst this;exact .inl ⟨rfl,rfl⟩
  . have : n = 7 := by omega
    subst this;exact .inr ⟨rfl,rfl⟩
 have hwg:IntKind.i64.wrap ((n:Int) - (flts n:Int))=(g:Int):=by rw [Ae1 (by omega) (by omega)];omega
 obtain ⟨_,D,k3,X,Z,s,rfl,hH,hS⟩:=Bg2 wC hok hg (by omega)
 simp only [RT,Q0,Q1,Q2,Q3,Q4,Q5,Q6,Q7,Q8,h0]
 refine Aa0 k2 ?_
 simp only [RT,Q0,Q1,Q2,Q3,Q4,Q5,Q6,Q7,Q8,hfl,hwg]
 refine Aa0 k3 ?_
 simp only [RT,Q0,Q1,Q2,Q3,Q4,Q5,Q6,Q7,Q8,Ao0,h1,hlen]
 obtain ⟨hp,hhp⟩:∃ hp,hp=Z.hp:=⟨_,rfl⟩
 rw [<- hhp]
 refine Aa6 (fun z e B=>∃ (j:Nat) (X:HX) (Z:HC) (s:Nat->Led) (first:Bts) (there:Bool),z=l.length - j/\j<=l.length/\e.get 71=.int .i64 j/\Hall X B n g (g+2 * j) s Z/\HStep X00 C X B/\Z.hp=hp/\(there=true->DnC n (HnF n) s (batchI first)/\first.length<=1000000)/\e.get 8=.ptr hp 0/\e.get 10=.str first/\e.get 11=.bool there/\e.get 69=v/\e.get 70=.int .i64 l.length)
  (fun z e B=>Is z (.exit 2))
  ⟨_,0,X,Z,s,[],false,rfl,by omega,rfl,hH,hS,hhp.symm,fun z=>(by cases z),rfl,rfl,rfl,rfl,rfl⟩ ?_ ?_
 rotate_left
 . rintro z e E hz rfl
   simp only [RT,Q0,Q1,Q2,Q3,Q4,Q5,Q6,Q7,Q8]
 rintro z e E ⟨j,X2,Z2,s2,first,there,rfl,hj,h71,hH2,hS2,hp2,hth,h8,h10,h11,h69,h70⟩
 simp only [RT,Q0,Q1,Q2,Q3,Q4,Q5,Q6,Q7,Q8,h71,h70]
 refine Aa7 (fun q1=>?_) (fun q1=>?_)
 rotate_left
 . simp only [RT, Q0, Q1, Q2, Q3, Q4, Q5, Q6, Q7, Q8]
   rfl
 have wE:=hS2.wf wC
 obtain ⟨x,hx⟩:=Ag4 (l:=l) (i:=j) (by omega)
 have hxm:=List.mem_of_getElem? hx
 have hle:(roHp A).le (qHp X2.f E):=Hp.le_trans (Hp.le_trans (Bl8 X00.f A) (Ad8 f2)) (hS2.le wC)
 obtain ⟨bb,o,cc,g3,g4,g5⟩:=(hl.mono hle).at (P:=Try.prog) (k:=.i64) (Af3 _ E) Try.underlying43 B21 Ca2 hx
 obtain ⟨dv,iv,lv,rfl,hin'⟩:=Bg5 g5
 obtain ⟨F,s1,s2',s3⟩:=Bg6 (A:=E) hin'
 obtain ⟨b13,hb13⟩:∃ b,b=E.blk.length:=⟨_,rfl⟩
 rw [<- hb13]at s1 s3
 have nb13:¬ X2.b b13:=fun z=>by have:=hH2.hl.lt.2.1 b13 z;omega
 have wF:=s2'.wf wE
 have fa:=Bg3 b13
 have ld:=Ah7 s3 hin'.id
 obtain ⟨_,G,k4,X3,Z3,s4,hH4,hS4,hu4,hp4⟩:=Bg4 wF (hH2.s0 wE s2') (by omega) (hin'.mono (Ad8 s2')) (by have:=(hmv x hxm).2;omega) (by have:=(hmv x hxm).1;omega) (hin x hxm) (by omega)
 have wG:=hS4.wf wF
 have r13:=hS4.box s3 nb13
 have ldG:=Ah7 r13 hin'.id
 rw [hp2]at k4 hp4
 have hSG:=hS2.trans wC (HStep.trans wE (.of0 s2') hS4)
 have hth4:there=true->DnC n (HnF n) s4 (batchI first)/\first.length<=1000000:=fun z=>⟨(hth z).1.up hu4,(hth z).2⟩
 have fH:=B14 hp
 have lG:=AZ6 (hH4.hl.pt .hb trivial)
 rw [hp4]at lG
 have hwi:IntKind.i64.wrap ((j:Int)+1)=((j+1:Nat):Int):=by rw [Ae4 (by omega)]
 have hH5:Hall X3 G n g (g+2 * (j+1)) s4 Z3:=hH4
 simp only [RT,Q0,Q1,Q2,Q3,Q4,Q5,Q6,Q7,Q8,h69,h71,g3,g4,AT6,<- hb13,s1,h8,ld]
 refine Aa0 k4 ?_
 simp only [RT,Q0,Q1,Q2,Q3,Q4,Q5,Q6,Q7,Q8]
 rw [BI9,Aa2 (by rfl)]
 by_cases c0:x.2.1 < 0
 . simp only [RT, Q0, Q1, Q2, Q3, Q4, Q5, Q6, Q7, Q8, fa, ldG, decide_eq_true c0, h71, hwi]
   refine ⟨l.length - (j+1),by omega,j+1,X3,Z3,s4,first,there,rfl,by omega,rfl,hH5,hSG,hp4,hth4,?_⟩
   and_intros <;> first | rfl | assumption
 by_cases c1:x.2.1 >= (g:Int)
 . simp only [RT, Q0, Q1, Q2, Q3, Q4, Q5, Q6, Q7, Q8, fa, ldG, decide_eq_false c0, h8, fH, lG, decide_eq_true c1, h71, hwi]
   refine ⟨l.length - (j+1),by omega,j+1,X3,Z3,s4,first,there,rfl,by omega,rfl,hH5,hSG,hp4,hth4,?_⟩
   and_intros <;> first | rfl | assumption
 obtain ⟨i,hi⟩:∃ i:Nat,x.2.1=i:=⟨x.2.1.toNat,by omega⟩
 have hig:i < g:=by omega
 obtain ⟨hHn,hin2⟩:=hH4.lt hig
 rw [hi]at ldG c0 c1
 have al1:Lst ePt Hp.emp G Z3.w Z3.al Z3.fa:=hH4.hl.pt .al trivial
 have hxa:Z3.al[i]?=some (Z3.K i).cb:=by rw [hH4.lk,List.getElem?_map,List.getElem?_range hig];rfl
 obtain ⟨ba,oa,cc,ga3,ga4,ga5⟩:=al1.at (P:=Try.prog) (k:=.i64) (fun b cs q=>by cases q) Try.underlying51 B05 Bb9 hxa
 have ga5:=BB6.1 ga5
 subst ga5
 have hco:IsCo X3.f G (Z3.K i) (Z3.fk i) (Z3.ft i) (Z3.c i):=hH4.hl.pt (.co i) hig
 obtain ⟨_,H,k5,f5,dv5,rfl,hs5⟩:=AE3 wG hco
 have wH:=f5.wf wG
 have hdl:=hco.lim.done
 have hdn:=(hH4.hi.par i hHn).dn
 obtain ⟨dn,hdn'⟩:∃ d,d=(Z3.c i).done:=⟨_,rfl⟩
 obtain ⟨ov,hov⟩:∃ b,b=(Z3.c i).over:=⟨_,rfl⟩
 rw [<- hov]at k5 hs5 hdn
 rw [<- hdn']at hs5 hdl hdn
 simp only [RT,Q0,Q1,Q2,Q3,Q4,Q5,Q6,Q7,Q8,fa,ldG,decide_eq_false c0,h8,fH,lG,decide_eq_false c1]
 rw [BJ0,Aa2 (by rfl)]
 simp only [RT,Q0,Q1,Q2,Q3,Q4,Q5,Q6,Q7,Q8,h8,fH,lG,fa,ldG,ga3,ga4]
 refine Aa0 k5 ?_
 have hH6:Hall X3 H n g (g+2 * (j+1)) s4 Z3:=hH5.s0 wG f5
 have hSH:=hSG.then0 f5
 cases ov with
 | false =>
  simp only [RT,Q0,Q1,Q2,Q3,Q4,Q5,Q6,Q7,Q8,Ao0,h71,hwi]
  refine ⟨l.length - (j+1),by omega,j+1,X3,Z3,s4,first,there,rfl,by omega,rfl,hH6,hSH,hp4,hth4,?_⟩
  and_intros <;> first | rfl | assumption
 | true =>
 have hdn:=hdn rfl
 have hs5:Slc eU8 (qHp X3.f H) dv5 dn:=hs5
 have cv:=AQ1 (P:=Try.prog) (s:=24) (d:=9) (by decide) hs5 (Af3 X3.f H) Try.underlying24 Try.underlying5 Try.underlying9
 have hthN:(true:Bool)=true->DnC n (HnF n) s4 (batchI dn)/\dn.length<=1000000:=fun _=>⟨hdn,hdl⟩
 cases there with
 | false =>
  simp only [RT,Q0,Q1,Q2,Q3,Q4,Q5,Q6,Q7,Q8,Ao0,h11,cv,h71,hwi]
  refine ⟨l.length - (j+1),by omega,j+1,X3,Z3,s4,dn,true,rfl,by omega,rfl,hH6,hSH,hp4,hthN,?_⟩
  and_intros <;> first | rfl | assumption
 | true =>
 by_cases ce:dn=first
 . simp only [RT, Q0, Q1, Q2, Q3, Q4, Q5, Q6, Q7, Q8, Ao0, h11, cv, h10, decide_eq_false (show ¬ ¬ dn = first from fun z => z ce), h71, hwi]
   refine ⟨l.length - (j+1),by omega,j+1,X3,Z3,s4,dn,true,rfl,by omega,rfl,hH6,hSH,hp4,hthN,?_⟩
   and_intros <;> first | rfl | assumption
 . obtain ⟨hf1, hf2⟩ := hth4 rfl
   obtain ⟨_,J,k6,f6,rfl⟩:=Ay2 wH (Af3 X3.f H) hs5 (by omega)
   have wJ:=f6.wf wH
   have cb:=AW8 (P:=Try.prog) (A:=J) (s:=9) (d:=24) (l:=first) (by decide) Try.underlying9 Try.underlying24 Try.underlying5
   obtain ⟨L,eL⟩:∃ L,L=J.push ⟨bc first,.arr J.blk.length 0⟩:=⟨_,rfl⟩
   have f7:Fr S0 J L:=by rw [eL];exact Fr.pushArr J _
   have r7:L.blk[J.blk.length]?=some ⟨bc first,.arr J.blk.length 0⟩:=by rw [eL];exact Ab8 J _
   have wL:=f7.wf wJ
   have hs7:Slc eU8 (arrHp L) (.sl J.blk.length 0 first.length 1) first:=Be2 (by unfold arrHp;rw [r7]) rfl
   obtain ⟨_,N,k8,f8,rfl⟩:=Ay2 wL (A63 L) hs7 (by omega)
   have hag:batchI dn=batchI first:=AllC.agree (fun w q=>q) hH4.hi.all hdn hf1
   have fHN:=(f6.then0 f7).then0 f8
   have cvN:=AQ1 (P:=Try.prog) (s:=24) (d:=9) (by decide) (hs5.mono (Ad8 fHN)) (Af3 X3.f N) Try.underlying24 Try.underlying5 Try.underlying9
   have cb:cnv Try.prog 9 24 (some (.str first)) J=some (.newSl (bc first) first.length 1):=cb
   have ee:evEq Try.prog 23 (.agg (bc (batchI dn))) (.agg (bc (batchI first)))=some true:=by rw [eqZ (Ad6 _) (Ad6 _)];simp [hag]
   simp only [RT,Q0,Q1,Q2,Q3,Q4,Q5,Q6,Q7,Q8,Ao0,h11,cv,h10,decide_eq_true ce]
   refine Aa0 k6 ?_
   simp only [RT,Q0,Q1,Q2,Q3,Q4,Q5,Q6,Q7,Q8,h10,cb,<- eL]
   refine Aa0 k8 ?_
   simp only [RT,Q0,Q1,Q2,Q3,Q4,Q5,Q6,Q7,Q8,ee,cvN,h71,hwi]
   refine ⟨l.length - (j+1),by omega,j+1,X3,Z3,s4,dn,true,rfl,by omega,rfl,hH6.s0 wH fHN,hSH.then0 fHN,hp4,hthN,?_⟩
   and_intros <;> first | rfl | assumption
end
end Go.Sv.Try
