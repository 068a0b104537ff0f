/- Rounds of agreement, without the program: what somebody does, as values. -/
import Derived.Test.YtnikcplcdapjhaaGreatSv4
import Derived.Test.YtnikcplcdapjhaaGreatSvBase
open Go.Proofs.Tryz renaming prog → TP
set_option linter.unusedSimpArgs false
set_option linter.unusedVariables false
open Nat renaming reduceLT → Q0, reduceBEq → Q1, reduceEqDiff → Q2, reduceAdd → Q3
open Int renaming reduceEq → Q4, reduceLT → Q5, reduceLE → Q6, reduceGT → Q7, reduceGE → Q8
namespace Go.Sv
def z32:Bts:=List.replicate 32 0
def n32:Bts:=List.replicate 31 0++[1]
theorem BE8:z32≠n32:=by decide
theorem Aa9:z32.length=32:=by decide
theorem Ad3:n32.length=32:=by decide
structure Act where
 kind:Int
 round:Int
 num:Int
 valid:Int
 id:Bts
 deriving DecidableEq
structure Ofr where
 there:Bool
 valid:Int
 id:Bts
 deriving DecidableEq
abbrev Vt:=Nat->Nat->Nat->Bts
def v0:Vt:=fun _ _ _=>z32
def jH:Ofr:=⟨false,0,z32⟩
def fT(n:Int):Int:=if n≠1/\n≠4/\n≠7 then -1 else n.tdiv 3
def okN(n:Nat):Prop:=n=1∨n=4∨n=7
instance (n:Nat):Decidable (okN n):=by unfold okN;infer_instance
def dc(n:Nat):Nat:=n/3
def bu(n:Nat):Nat:=2*(n/3)+1
theorem AD4{n:Nat}(h:okN n):fT n=dc n:=by rcases h with rfl |rfl |rfl<;>decide
theorem A55{n:Int}(h:fT n<0):¬(n=1∨n=4∨n=7):=by
 intro q;rcases q with rfl |rfl |rfl<;>revert h<;>decide
theorem AS6{n:Int}(h:¬fT n<0):∃m:Nat,n=m/\okN m:=by
 unfold fT at h
 split at h
 . omega
 . exact⟨n.toNat,by omega,by unfold okN;omega⟩
def right(n:Nat)(r k w:Int):Prop:=0<=r/\r<12/\(k=0∨k=1)/\0<=w/\w<n
instance (n:Nat) (r k w:Int):Decidable (right n r k w):=by unfold right;infer_instance
def cT(n:Nat)(v:Vt)(r k w:Int)(id:Bts):Int:=if ¬right n r k w∨id=z32 then 1 else if v r.toNat k.toNat w.toNat≠z32 then 5 else 0
def eF(v:Vt)(r k w:Nat)(id:Bts):Vt:=fun a b c=>if a=r/\b=k/\c=w then id else v a b c
def dG(n:Nat)(v:Vt)(r k w:Int)(id:Bts):Vt:=if cT n v r k w id=0 then eF v r.toNat k.toNat w.toNat id else v
def dN(n:Nat)(v:Vt)(r k w:Int):Bts:=if right n r k w then v r.toNat k.toNat w.toNat else z32
def jI(n:Nat)(v:Vt)(r k:Nat):List (Nat×Bts):=((List.range n).map fun w=>(w,v r k w)).filter fun p=>p.2≠z32
def cH(n:Nat)(v:Vt)(r k:Int):List (Nat×Bts):=if right n r k 0 then jI n v r.toNat k.toNat else []
def jf(l:List (Nat×Bts))(id:Bts):Nat:=l.countP fun p=>p.2=id
def fq(n:Nat)(v:Vt)(r k:Int)(id:Bts):Nat:=jf (cH n v r k) id
def allI(n:Nat)(v:Vt)(r k:Int):Nat:=(cH n v r k).length
def dz(n:Nat)(v:Vt)(r k:Int):Option Bts:=((cH n v r k).find? fun p=>bu n<=fq n v r k p.2).map (·.2)
def iK(v:Vt)(r w:Nat):Prop:=v r 0 w≠z32∨v r 1 w≠z32
instance (v:Vt) (r w:Nat):Decidable (iK v r w):=by unfold iK;infer_instance
def dO(n:Nat)(v:Vt)(r:Nat):(fuel w left:Nat)->Bool
 | 0,_,_=>false
 |k+1,w,left =>
  if iK v r w then(if left-1=0 then true else if left-1>n-1-w then false else dO n v r k (w+1) (left-1))else dO n v r k (w+1) left
def dV(n:Nat)(v:Vt)(now:Int):Nat->Option Nat
 | 0=>none
 |r+1=>if (r:Int)>now then(if dO n v r n 0 (dc n+1)then some r else dV n v now r)else none
def cU(n:Nat)(v:Vt)(now:Int):Option Nat:=dV n v now 12
structure Rd where
 n:Nat
 me:Nat
 ai:Int
 now:Int
 step:Int
 locked:Int
 valid:Int
 lock:Bts
 a7:Bts
 fresh:Bts
 offers:Nat->Ofr
 known:List Bts
 v:Vt
 bY:Nat->Nat->Bool
 al:List Act
def rd0(n me:Nat)(ai:Int):Rd:=⟨n,me,ai,-1,3,0,0,z32,z32,z32,fun _=>jH,[],v0,fun _ _=>false,[]⟩
def aP(n h r:Int):Int :=
 if n<1∨h<0∨r<0 then 0 else if h.tmod n>=n-r.tmod n then h.tmod n-(n-r.tmod n)else h.tmod n+r.tmod n
def Rd.do_(r:Rd)(a:Act):Rd:={ r with al:=r.al++[a] }
def hQ{α:Type}(f:Nat->Nat->α)(a b:Nat)(x:α):Nat->Nat->α:=fun i j=>if i=a/\j=b then x else f i j
def fM{α:Type}(f:Nat->α)(a:Nat)(x:α):Nat->α:=fun i=>if i=a then x else f i
def Rd.timer(r:Rd)(step:Nat):Rd :=
 if r.bY r.now.toNat step=true then r else({ r with bY:=hQ r.bY r.now.toNat step true }:Rd).do_ ⟨3,r.now,step,0,z32⟩
def Rd.vote(r:Rd)(kind:Nat)(id:Bts):Rd :=
 let r1:=if cT r.n r.v r.now kind r.me id=0 then({ r with v:=dG r.n r.v r.now kind r.me id }:Rd).do_ ⟨2,r.now,kind,0,id⟩else r
 { r1 with step:=1+kind }
def Rd.begin(r:Rd)(round:Int):Rd :=
 if 12<=round then { r with step:=3 }else
 let r1:Rd:={ r with now:=round,step:=0 }
 if aP r.n r.ai round≠r.me then r1.timer 0 else
 let id:=if r.valid>0 then r.a7 else r.fresh
 if (r.offers round.toNat).there=true then r1
 else if id=z32∨r.valid>0/\¬id∈r.known then r1.timer 0
 else({ r1 with offers:=fM r1.offers round.toNat ⟨true,r.valid,id⟩ }:Rd).do_ ⟨1,round,0,r.valid,id⟩
def Rd.sure(r:Rd)(round:Int)(kind:Int):Option Bts:=match dz r.n r.v round kind with
 |some id=>if id=n32 then none else some id
 |none=>none
def Rd.agreed(r:Rd):Option (Nat×Bts):=(List.range 12).findSome? fun(k:Nat)=>match r.sure (k:Int) 1 with
 |some id=>if id∈r.known then some (k,id)else none
 |none=>none
def Rd.rest(r:Rd):Rd×Bool :=
 let last:Rd×Bool :=
  if r.step=1/\bu r.n<=fq r.n r.v r.now 0 n32 then(r.vote 1 n32,true)else
  let r1:=if r.step=1/\bu r.n<=allI r.n r.v r.now 0 then r.timer 1 else r
  (if bu r.n<=allI r.n r.v r.now 1 then r1.timer 2 else r1,false)
 match r.sure r.now 0 with
 |some id=>if id∈r.known/\r.step>=1/\r.valid≠r.now+1 then
  let r1:Rd:={ r with valid:=r.now+1,a7:=id }
  (if r.step=1 then({ r1 with locked:=r.now+1,lock:=id }:Rd).vote 1 id else r1,true)
  else last
 |none=>last
def Rd.choice(r:Rd)(o:Ofr):Option Bts :=
 if o.valid=0/\(r.locked=0∨r.lock=o.id)then some o.id
 else if o.valid>0/\o.valid<=r.now then
  (if r.sure (o.valid-1) 0≠some o.id then none else if r.locked<=o.valid∨r.lock=o.id then some o.id else some n32)
 else some n32
def Rd.bP(r:Rd):Rd×Bool :=
 if r.now<0∨r.step=3 then(r,false)else
 match r.agreed with
 |some (k,id)=>(({ r with step:=3 }:Rd).do_ ⟨4,k,0,0,id⟩,true)
 |none =>
  match cU r.n r.v r.now with
  |some k=>(r.begin k,true)
  |none =>
   if r.step=0/\(r.offers r.now.toNat).there=true/\(r.offers r.now.toNat).id∈r.known then
    (match r.choice (r.offers r.now.toNat)with
    |some id=>(r.vote 0 id,true)
    |none=>r.rest)
   else r.rest
def Rd.rules:Nat->Rd->Rd
 | 0,r=>r
 |k+1,r=>if r.bP.2=true then Rd.rules k r.bP.1 else r.bP.1
def Rd.settle(r:Rd):Rd×List Act:=({ Rd.rules 1000 r with al:=[] },(Rd.rules 1000 r).al)
def Rd.bA(r:Rd)(fresh:Bts):Rd×List Act :=
 if r.now>=0 then r.settle else(({ r with fresh:=if fresh=z32 then r.fresh else fresh }:Rd).begin 0).settle
def Rd.cI(r:Rd)(a:Act):Rd :=
 if a.round<0∨a.round>=12∨a.id=z32 then r
 else if a.kind=1 then(if (r.offers a.round.toNat).there=false/\a.valid>=0/\a.valid<=a.round then { r with offers:=fM r.offers a.round.toNat ⟨true,a.valid,a.id⟩ }else r)
 else if a.kind=2 then
  (if cT r.n r.v a.round a.num r.me a.id≠0 then r else
   let r1:Rd:={ r with v:=dG r.n r.v a.round a.num r.me a.id }
   if a.round<r.now then r1 else
   let r2:Rd:={ r1 with now:=a.round,step:=1+a.num }
   if a.num=1/\a.id≠n32 then { r2 with locked:=a.round+1,lock:=a.id,valid:=a.round+1,a7:=a.id }else r2)
 else r
def Rd.cK(r:Rd)(id:Bts):Rd:=if id≠z32/\¬id∈r.known/\r.known.length<32 then { r with known:=r.known++[id] }else r
def Rd.fX(r:Rd)(id:Bts):Rd×List Act:=(r.cK id).settle
def Rd.bZ(r:Rd)(round valid:Int)(id:Bts):Rd×List Act :=
 (if 0<=round/\round<12/\0<=valid/\valid<=round/\id≠z32/\id≠n32/\(r.offers round.toNat).there=false then({ r with offers:=fM r.offers round.toNat ⟨true,valid,id⟩ }:Rd)else r).settle
def Rd.dm(r:Rd)(round kind who:Int)(id:Bts):Rd×List Act :=
 (if who≠r.me then({ r with v:=dG r.n r.v round kind who id }:Rd)else r).settle
def Rd.cj(r:Rd)(round step:Int):Rd×List Act :=
 (if round=r.now/\r.step≠3 then
  (if step=0/\r.step=0 then r.vote 0 n32 else if step=1/\r.step=1 then r.vote 1 n32 else if step=2 then r.begin (round+1)else r)
 else r).settle
structure RIn where
 kind:Int
 round:Int
 num:Int
 who:Int
 valid:Int
 id:Bts
def Rd.lK(r:Rd)(i:RIn):Rd×List Act :=
 if i.kind=0 then r.bA i.id else if i.kind=1 then r.fX i.id else if i.kind=2 then r.bZ i.round i.valid i.id
 else if i.kind=3 then r.dm i.round i.num i.who i.id else if i.kind=4 then r.cj i.round i.num
 else if i.kind=5 then({ r with fresh:=i.id },[])else if i.kind=7 then(r.cK i.id,[])
 else if i.kind=6 then(r.cI ⟨i.who,i.round,i.num,i.valid,i.id⟩,[])else(r,[])
end Go.Sv
namespace Go.Sv
def ni(n:Nat)(v:Vt)(r k:Int):Option Bts:=match dz n v r k with
 |some id=>if id=n32 then none else some id
 |none=>none
structure Led where
 v:Vt
 off:Nat->Bool
 tim:Nat->Nat->Bool
 lk:Int×Bts
 top:Int
 done:Bool
def Led.after(me:Nat)(s:Led)(a:Act):Led :=
 if a.kind=1 then { s with off:=fM s.off a.round.toNat true }
 else if a.kind=2 then { s with v:=eF s.v a.round.toNat a.num.toNat me a.id,top:=a.round,lk:=if a.num=1/\a.id≠n32 then(a.round+1,a.id)else s.lk }
 else if a.kind=3 then { s with tim:=hQ s.tim a.round.toNat a.num.toNat true }
 else { s with done:=true }
inductive Led.ok(n me:Nat)(known:List Bts)(s:Led):Act->Prop where
 |send (R val:Int) (id:Bts) (h:s.done=false) (h1:0<=R) (h2:R<12) (h3:s.off R.toNat=false):Led.ok n me known s ⟨1,R,0,val,id⟩
 |vote (R K:Int) (id:Bts) (h:s.done=false) (h1:cT n s.v R K me id=0) (h2:s.top<=R)
  (h3:id=n32∨(K=1/\ni n s.v R 0=some id)∨(K=0/\s.lk.1<=R/\(s.lk.1=0∨s.lk.2=id∨∃k:Int,s.lk.1-1<=k/\k<R/\0<=k/\ni n s.v k 0=some id))) (h4:K=0->s.v R.toNat 1 me=z32):Led.ok n me known s ⟨2,R,K,0,id⟩
 |tim (R K:Int) (h:s.done=false) (h1:0<=R) (h2:R<12) (h3:0<=K) (h4:K<3) (h5:s.tim R.toNat K.toNat=false):Led.ok n me known s ⟨3,R,K,0,z32⟩
 |done (R:Int) (id:Bts) (h:s.done=false) (h1:ni n s.v R 1=some id) (h2:id∈known):Led.ok n me known s ⟨4,R,0,0,id⟩
theorem A56{n:Nat}{v:Vt}{r k:Nat}{p:Nat×Bts}(h:p∈jI n v r k):p.2≠z32/\p.1<n/\p.2=v r k p.1:=by
 unfold jI at h
 rw[List.mem_filter,List.mem_map]at h
 obtain⟨⟨w,h1,rfl⟩,h2⟩:=h
 exact⟨by simpa using h2,List.mem_range.1 h1,rfl⟩
theorem Ba1{n:Nat}{v:Vt}{r k:Int}{id:Bts}(h:dz n v r k=some id):right n r k 0/\id≠z32/\bu n<=fq n v r k id:=by
 unfold dz at h
 rw[Option.map_eq_some_iff]at h
 obtain⟨p,h1,rfl⟩:=h
 have h2:=List.find?_some h1
 have h3:=List.mem_of_find?_eq_some h1
 unfold cH at h3
 split at h3
 . rename_i q
   exact⟨q,(A56 h3).1,by simpa using h2⟩
 . simp at h3
theorem AD5{n:Nat}{v:Vt}{now:Int}:∀{r k:Nat},dV n v now r=some k->now<k/\k<r
 | 0,k,h=>by simp[dV]at h
 |r+1,k,h=>by
  unfold dV at h
  split at h
  . split at h
    . cases h;omega
    . have:=AD5 h;omega
  . simp at h
section
variable {s:Led} {r:Rd}
end
end Go.Sv
namespace Go.Sv
structure Kp(r r':Rd):Prop where
 n:r'.n=r.n
 me:r'.me=r.me
 ai:r'.ai=r.ai
 known:r'.known=r.known
theorem Kp.da(r:Rd):Kp r r:=⟨rfl,rfl,rfl,rfl⟩
theorem Kp.trans{a b c:Rd}(h:Kp a b)(k:Kp b c):Kp a c:=⟨k.n.trans h.n,k.me.trans h.me,k.ai.trans h.ai,k.known.trans h.known⟩
theorem AC3(r:Rd)(k:Nat):Kp r (r.timer k):=by unfold Rd.timer;split<;>exact⟨rfl,rfl,rfl,rfl⟩
theorem AD6(r:Rd)(k:Nat)(id:Bts):Kp r (r.vote k id):=by unfold Rd.vote;simp only[];split<;>exact⟨rfl,rfl,rfl,rfl⟩
theorem AN2(r:Rd)(R:Int):Kp r (r.begin R):=by
 unfold Rd.begin
 split
 . exact⟨rfl,rfl,rfl,rfl⟩
 . simp only[]
   have h1:Kp r { r with now:=R,step:=0 }:=⟨rfl,rfl,rfl,rfl⟩
   generalize (if r.valid>0 then r.a7 else r.fresh)=id
   split
   . exact h1.trans (AC3 _ _)
   split
   . exact h1
   split
   . exact h1.trans (AC3 _ _)
   . exact⟨rfl,rfl,rfl,rfl⟩
theorem Bf5(r:Rd):Kp r r.rest.1:=by
 unfold Rd.rest
 simp only[]
 have last:Kp r (if r.step=1/\bu r.n<=fq r.n r.v r.now 0 n32 then(r.vote 1 n32,true)else
  (if bu r.n<=allI r.n r.v r.now 1 then(if r.step=1/\bu r.n<=allI r.n r.v r.now 0 then r.timer 1 else r).timer 2 else(if r.step=1/\bu r.n<=allI r.n r.v r.now 0 then r.timer 1 else r),false):Rd×Bool).1:=by
  split
  . exact AD6 _ _ _
  . have h1:Kp r (if r.step=1/\bu r.n<=allI r.n r.v r.now 0 then r.timer 1 else r):=by
     split
     . exact AC3 _ _
     . exact .da r
    show Kp r (if _ then _ else _)
    split
    . exact h1.trans (AC3 _ _)
    . exact h1
 split
 . split
   . show Kp r (if _ then _ else _)
     split
     . exact Kp.trans (b:={ r with valid:=r.now+1,a7:=_,locked:=r.now+1,lock:=_ }) ⟨rfl,rfl,rfl,rfl⟩ (AD6 _ _ _)
     . exact⟨rfl,rfl,rfl,rfl⟩
   . exact last
 . exact last
theorem Bf6(r:Rd):Kp r r.bP.1:=by
 unfold Rd.bP
 split
 . exact .da r
 split
 . exact⟨rfl,rfl,rfl,rfl⟩
 split
 . exact AN2 _ _
 split
 . split
   . exact AD6 _ _ _
   . exact Bf5 r
 . exact Bf5 r
theorem A57:∀(k:Nat) (r:Rd),Kp r (Rd.rules k r)
 | 0,r=>.da r
 |k+1,r=>by
  unfold Rd.rules
  split
  . exact(Bf6 r).trans (A57 k _)
  . exact Bf6 r
section
variable {s:Led} {r:Rd}
end
end Go.Sv
namespace Go.Sv
theorem Au0{n:Nat}{v:Vt}{R K w:Int}{id:Bts}(h:cT n v R K w id=0):right n R K w/\id≠z32/\v R.toNat K.toNat w.toNat=z32:=by
 unfold cT at h
 split at h
 . simp at h
 . rename_i q
   split at h
   . simp at h
   . rename_i q2
     exact⟨Decidable.not_not.1 fun z=>q (.inl z),fun z=>q (.inr z),Decidable.not_not.1 q2⟩
section
variable {me:Nat} {w0:Nat->Nat->Bts} {r r':Rd}
end
end Go.Sv
namespace Go.Sv
def cnt(n:Nat)(v:Vt)(R K:Nat)(id:Bts):Nat:=(List.range n).countP fun w=>decide (v R K w=id)
theorem Br5{n:Nat}{v:Vt}{R K:Nat}{id:Bts}(h:id≠z32):jf (jI n v R K) id=cnt n v R K id:=by
 unfold jf jI cnt
 rw[List.countP_filter,List.countP_map]
 congr 1;funext w
 show(decide (v R K w=id) && decide (v R K w≠z32))=decide (v R K w=id)
 by_cases q:v R K w=id
 . rw[q];simp[h]
 . simp[q]
theorem AK2{α:Type}(p q:α->Bool):∀l:List α,l.countP p+l.countP q<=l.length+l.countP fun x=>p x && q x
 |[]=>by simp
 |x::l=>by
  have:=AK2 p q l
  simp only[List.countP_cons,List.length_cons]
  cases p x<;>cases q x<;>simp<;>omega
theorem AD7(p:Nat->Bool)(g:Nat)(h:∀w,w<g->p w=false):∀n,(List.range n).countP p<=n-g
 | 0=>by simp
 |n+1=>by
  have:=AD7 p g h n
  rw[List.range_succ,List.countP_append]
  simp only[List.countP_cons,List.countP_nil]
  by_cases q:n<g
  . rw[h n q];simp;omega
  . split<;>omega
theorem A58{n:Nat}(hn:okN n)(p q:Nat->Bool)(hp:bu n<=(List.range n).countP p)(hq:bu n<=(List.range n).countP q):∃w,w<n-dc n/\p w=true/\q w=true:=by
 apply Decidable.byContradiction
 intro z
 have h1:=AK2 p q (List.range n)
 have h2:=AD7 (fun x=>p x && q x) (n-dc n) (fun w hw=>by
  cases hx:(p w && q w)with
  |false=>rfl
  |true =>
   rw[Bool.and_eq_true]at hx
   exact absurd ⟨w,hw,hx.1,hx.2⟩ z) n
 rw[List.length_range]at h1
 unfold okN at hn
 unfold bu at hp hq
 unfold dc at h2
 omega
section
variable {n:Nat} {s:Nat->Led}
end
end Go.Sv
namespace Go.Sv
abbrev RV:=Int×Int×Int×Bts
def gf(l:List RV)(r k w:Int):Bts:=match l.find? (fun p=>decide (p.1=r/\p.2.1=k/\p.2.2.1=w))with
 |some p=>p.2.2.2
 |none=>z32
def eY(l:List RV)(r k:Int)(id:Bts):Nat:=l.countP fun p=>decide (p.1=r/\p.2.1=k/\p.2.2.2=id)
def jg(l:List RV)(r k:Int):Nat:=l.countP fun p=>decide (p.1=r/\p.2.1=k)
def iQ(n:Nat)(l:List RV)(r k:Int):Option Bts:=(l.find? fun p=>decide (p.1=r/\p.2.1=k/\bu n<=eY l r k p.2.2.2)).map (·.2.2.2)
structure VL(n:Nat)(v:Vt)(l:List RV):Prop where
 get:∀r k w,gf l r k w=dN n v r k w
 for_:∀r k id,id≠z32->eY l r k id=fq n v r k id
 kE:∀r k,jg l r k=allI n v r k
 mem:∀p∈l,right n p.1 p.2.1 p.2.2.1/\p.2.2.2≠z32
theorem AK3{p q:Nat->Bool}{W:Nat}(h:∀w,w≠W->q w=p w)(hp:p W=false):∀n,W<n->(List.range n).countP q=(List.range n).countP p+(if q W=true then 1 else 0):=by
 have key:∀n,(List.range n).countP q=(List.range n).countP p+(if W<n/\q W=true then 1 else 0):=by
  intro n
  induction n with
  |zero=>simp
  |succ n ih =>
   rw[List.range_succ,List.countP_append,List.countP_append,ih]
   by_cases e:n=W
   . subst e
     simp only[List.countP_singleton,hp]
     by_cases b:q n=true
     . simp[b]
     . simp[b]
   . simp only[List.countP_singleton,h n e]
     have e1:(W<n+1/\q W=true)↔(W<n/\q W=true):=by constructor<;>rintro⟨a,b⟩<;>exact⟨by omega,b⟩
     simp only[e1]
     omega
 intro n hn
 rw[key n]
 simp[hn]
theorem AN3{n:Nat}{v:Vt}{r k:Int}(h:right n r k 0):allI n v r k=(List.range n).countP fun w=>decide (v r.toNat k.toNat w≠z32):=by
 unfold allI cH jI
 rw[if_pos h,<- List.countP_eq_length_filter,List.countP_map]
 rfl
theorem Av5{n:Nat}{v:Vt}{r k:Int}{id:Bts}(h:right n r k 0)(hid:id≠z32):fq n v r k id=cnt n v r.toNat k.toNat id:=by
 unfold fq cH
 rw[if_pos h,Br5 hid]
theorem Bf7{n:Nat}{r k w:Int}(h:right n r k w):right n r k 0:=⟨h.1,h.2.1,h.2.2.1,by omega,by have:=h.2.2.2;omega⟩
theorem vl0(n:Nat):VL n v0 []:=by
 refine⟨fun r k w=>?_,fun r k id hid=>?_,fun r k=>?_,fun p h=>by cases h⟩
 . show z32=_;unfold dN;split<;>rfl
 . show 0=_
   by_cases h:right n r k 0
   . rw[Av5 h hid]
     refine Eq.symm (List.countP_eq_zero.2 fun w _=>?_)
     intro z;exact hid (of_decide_eq_true z).symm
   . unfold fq cH;rw[if_neg h];rfl
 . show 0=_
   by_cases h:right n r k 0
   . rw[AN3 h]
     refine Eq.symm (List.countP_eq_zero.2 fun w _=>?_)
     simp[v0]
   . unfold allI cH;rw[if_neg h];rfl
section
variable {n:Nat} {v:Vt} {l:List RV}
theorem VL.none(h:VL n v l){r k w:Int}(hz:dN n v r k w=z32):∀p∈l,¬(p.1=r/\p.2.1=k/\p.2.2.1=w):=by
 intro p hp hq
 have hg:=h.get r k w
 rw[hz]at hg
 unfold gf at hg
 cases hf:l.find? (fun p=>decide (p.1=r/\p.2.1=k/\p.2.2.1=w))with
 |none =>
  have:=List.find?_eq_none.1 hf p hp
  simp only[decide_eq_true_eq]at this
  exact this hq
 |some y =>
  rw[hf]at hg
  exact(h.mem y (List.mem_of_find?_eq_some hf)).2 hg
theorem VL.put{r k w:Int}{id:Bts}(h:VL n v l)(hp:cT n v r k w id=0):VL n (dG n v r k w id) (l++[(r,k,w,id)]):=by
 obtain⟨q1,q2,q3⟩:=Au0 hp
 have eV:dG n v r k w id=eF v r.toNat k.toNat w.toNat id:=by unfold dG;rw[if_pos hp]
 rw[eV]
 have hz:dN n v r k w=z32:=by unfold dN;rw[if_pos q1];exact q3
 have hno:=h.none hz
 have hw0:=q1.2.2.2.1
 have hwn:=q1.2.2.2.2
 have hr0:=q1.1
 have hk0:0<=k:=by rcases q1.2.2.1 with rfl |rfl<;>omega
 have ot:∀{r' k' w':Int},right n r' k' w'->((r'.toNat=r.toNat/\k'.toNat=k.toNat/\w'.toNat=w.toNat)↔(r'=r/\k'=k/\w'=w)):=fun {r' k' w'} hq=>by
  have:=hq.1
  have:=hq.2.2.2.1
  have:0<=k':=by rcases hq.2.2.1 with rfl |rfl<;>omega
  constructor
  . rintro⟨a,b,c⟩;exact⟨by omega,by omega,by omega⟩
  . rintro⟨rfl,rfl,rfl⟩;exact⟨rfl,rfl,rfl⟩
 refine⟨fun r' k' w'=>?_,fun r' k' id' ou=>?_,fun r' k'=>?_,fun p hp'=>?_⟩
 . have hg:=h.get r' k' w'
   by_cases e:r'=r/\k'=k/\w'=w
   . obtain⟨rfl,rfl,rfl⟩:=e
     unfold gf
     rw[List.find?_append]
     have:l.find? (fun p=>decide (p.1=r'/\p.2.1=k'/\p.2.2.1=w'))=.none:=List.find?_eq_none.2 fun p hp=>by simpa using hno p hp
     rw[this]
     simp only[Option.none_or,List.find?_cons,and_self,decide_true]
     unfold dN;rw[if_pos q1]
     unfold eF;rw[if_pos ⟨rfl,rfl,rfl⟩]
   . have e1:gf (l++[(r,k,w,id)]) r' k' w'=gf l r' k' w':=by
      unfold gf
      rw[List.find?_append]
      have:[(r,k,w,id)].find? (fun p=>decide (p.1=r'/\p.2.1=k'/\p.2.2.1=w'))=.none:=List.find?_eq_none.2 fun p hp=>by
       rw[List.mem_singleton.1 hp]
       simp only[decide_eq_true_eq]
       rintro⟨a,b,c⟩;exact e ⟨a.symm,b.symm,c.symm⟩
      rw[this,Option.or_none]
     rw[e1,hg]
     unfold dN
     split
     . rename_i hq
       unfold eF
       rw[if_neg (fun z=>e ((ot hq).1 z))]
     . rfl
 . have e1:eY (l++[(r,k,w,id)]) r' k' id'=eY l r' k' id'+(if r=r'/\k=k'/\id=id' then 1 else 0):=by
    unfold eY
    rw[List.countP_append,List.countP_singleton]
    by_cases e:r=r'/\k=k'/\id=id'
    . simp[e]
    . rw[if_neg e,if_neg (by simpa using e)]
   rw[e1,h.for_ r' k' id' ou]
   by_cases hr:right n r' k' 0
   . rw[Av5 hr ou,Av5 hr ou]
     by_cases e:r=r'/\k=k'
     . obtain⟨rfl,rfl⟩:=e
       unfold cnt
       rw[AK3 (p:=fun w'=>decide (v r.toNat k.toNat w'=id')) (q:=fun w'=>decide (eF v r.toNat k.toNat w.toNat id r.toNat k.toNat w'=id')) (W:=w.toNat) (fun w' ne=>by unfold eF;rw[if_neg (fun z=>ne z.2.2)]) (by show decide (v r.toNat k.toNat w.toNat=id')=false;rw[q3];exact DF fun z=>ou z.symm) n (by omega)]
       congr 1
       have:eF v r.toNat k.toNat w.toNat id r.toNat k.toNat w.toNat=id:=by unfold eF;rw[if_pos ⟨rfl,rfl,rfl⟩]
       simp only[this,decide_eq_true_eq,true_and]
     . have:cnt n (eF v r.toNat k.toNat w.toNat id) r'.toNat k'.toNat id'=cnt n v r'.toNat k'.toNat id':=by
        unfold cnt
        congr 1;funext w'
        unfold eF
        rw[if_neg]
        rintro⟨a,b,c⟩
        have:=hr.1
        have:0<=k':=by rcases hr.2.2.1 with rfl |rfl<;>omega
        exact e ⟨by omega,by omega⟩
       rw[this,if_neg (fun z=>e ⟨z.1,z.2.1⟩)];rfl
   . have hz1:∀v:Vt,fq n v r' k' id'=0:=fun v=>by unfold fq cH;rw[if_neg hr];rfl
     rw[hz1,hz1,if_neg]
     rintro⟨rfl,rfl,_⟩
     exact hr (Bf7 q1)
 . have e1:jg (l++[(r,k,w,id)]) r' k'=jg l r' k'+(if r=r'/\k=k' then 1 else 0):=by
    unfold jg
    rw[List.countP_append,List.countP_singleton]
    by_cases e:r=r'/\k=k'
    . simp[e]
    . rw[if_neg e,if_neg (by simpa using e)]
   rw[e1,h.kE r' k']
   by_cases hr:right n r' k' 0
   . rw[AN3 hr,AN3 hr]
     by_cases e:r=r'/\k=k'
     . obtain⟨rfl,rfl⟩:=e
       rw[AK3 (p:=fun w'=>decide (v r.toNat k.toNat w'≠z32)) (q:=fun w'=>decide (eF v r.toNat k.toNat w.toNat id r.toNat k.toNat w'≠z32)) (W:=w.toNat) (fun w' ne=>by unfold eF;rw[if_neg (fun z=>ne z.2.2)]) (by show decide (v r.toNat k.toNat w.toNat≠z32)=false;rw[q3];simp) n (by omega)]
       congr 1
       have:eF v r.toNat k.toNat w.toNat id r.toNat k.toNat w.toNat=id:=by unfold eF;rw[if_pos ⟨rfl,rfl,rfl⟩]
       simp[this,q2]
     . rw[if_neg e,Nat.add_zero]
       congr 1;funext w'
       unfold eF
       rw[if_neg]
       rintro⟨a,b,c⟩
       have:=hr.1
       have:0<=k':=by rcases hr.2.2.1 with rfl |rfl<;>omega
       exact e ⟨by omega,by omega⟩
   . have hz1:∀v:Vt,allI n v r' k'=0:=fun v=>by unfold allI cH;rw[if_neg hr];rfl
     rw[hz1,hz1,if_neg]
     rintro⟨rfl,rfl⟩
     exact hr (Bf7 q1)
 . rcases List.mem_append.1 hp' with q |q
   . exact h.mem p q
   . rw[List.mem_singleton.1 q];exact⟨q1,q2⟩
theorem Br6{n:Nat}{v:Vt}{R K:Nat}{a b:Bts}(hn:okN n)(h1:bu n<=cnt n v R K a)(h2:bu n<=cnt n v R K b):a=b:=by
 obtain⟨w,_,w2,w3⟩:=A58 hn _ _ h1 h2
 have w2:=of_decide_eq_true w2
 have w3:=of_decide_eq_true w3
 rw[<- w2,w3]
theorem VL.sure(h:VL n v l)(hn:okN n)(r k:Int):iQ n l r k=dz n v r k:=by
 have kR:1<=bu n:=by unfold bu;omega
 cases hs:dz n v r k with
 |some id =>
  obtain⟨q1,q2,q3⟩:=Ba1 hs
  have hf:=h.for_ r k id q2
  have:0<eY l r k id:=by omega
  obtain⟨p,hp,hq⟩:=List.countP_pos_iff.1 this
  have hq:=of_decide_eq_true hq
  unfold iQ
  cases hf2:l.find? fun p=>decide (p.1=r/\p.2.1=k/\bu n<=eY l r k p.2.2.2)with
  |none =>
   have:=List.find?_eq_none.1 hf2 p hp
   simp only[decide_eq_true_eq]at this
   exact absurd ⟨hq.1,hq.2.1,by rw[hq.2.2];omega⟩ this
  |some y =>
   have h1:=List.find?_some hf2
   simp only[decide_eq_true_eq]at h1
   have h2:=h.mem y (List.mem_of_find?_eq_some hf2)
   have h3:=h1.2.2
   rw[h.for_ r k _ h2.2,Av5 q1 h2.2]at h3
   rw[Av5 q1 q2]at q3
   show some y.2.2.2=some id
   rw[Br6 hn h3 q3]
 |none =>
  unfold iQ
  cases hf2:l.find? fun p=>decide (p.1=r/\p.2.1=k/\bu n<=eY l r k p.2.2.2)with
  |none=>rfl
  |some y =>
   exfalso
   have h1:=List.find?_some hf2
   simp only[decide_eq_true_eq]at h1
   have h2:=h.mem y (List.mem_of_find?_eq_some hf2)
   have h3:=h1.2.2
   rw[h.for_ r k _ h2.2]at h3
   obtain⟨e1,e2,_⟩:=h1
   have hr:right n r k 0:=by rw[<- e1,<- e2];exact Bf7 h2.1
   have hl:0<fq n v r k y.2.2.2:=by omega
   unfold fq jf at hl
   obtain⟨p,hp,hq⟩:=List.countP_pos_iff.1 hl
   have hq:=of_decide_eq_true hq
   unfold dz at hs
   rw[Option.map_eq_none_iff]at hs
   have:=List.find?_eq_none.1 hs p hp
   simp only[decide_eq_true_eq]at this
   exact this (by rw[hq];exact h3)
end
end Go.Sv
namespace Go.Sv
open Go
def jh(A:AS)(b o:Nat)(cs:List V):Prop:=∃k,A.blk[b]?=some k/\At k.cells o cs
theorem AD8{P:Program}{A:AS}{b o n:Nat}{t:TypeId}{cs:List V}(ha:aH P t=some true)(hs:szT P t=some n)(h:aa P t (.ptr b o) A=some (.agg cs)):jh A b o cs/\cs.length=n:=by
 rw[Aq4 ha hs]at h
 simp only[Option.map_eq_some_iff,V.agg.injEq]at h
 obtain⟨c,h,rfl⟩:=h
 unfold AS.range at h
 cases hk:A.blk[b]? with
 |none=>rw[hk]at h;cases h
 |some k =>
  rw[hk]at h
  simp only[]at h
  split at h
  rotate_left
  . cases h
  rename_i q
  injection h with h
  refine⟨⟨k,hk,k.cells.take o,(k.cells.drop o).drop n,?_,List.length_take_of_le (by omega)⟩,by rw[<- h,List.length_take,List.length_drop];omega⟩
  rw[<- h,List.append_assoc,List.take_append_drop,List.take_append_drop]
theorem jh.cC{P:Program}{A:AS}{b o:Nat}{t:TypeId}{cs:List V}{v:V}(h:jh A b o cs){j:Nat}(hj:cs[j]?=some v)(ha:aH P t=some false):aa P t (.ptr b (o+j)) A=some v:=by
 obtain⟨k,hk,p,q,e,hp⟩:=h
 rw[Ae3 ha,Ah8 hk,e,List.append_assoc,List.getElem?_append_right (by omega),show o+j-p.length=j by omega,List.getElem?_append_left (LG.1 hj).1,hj]
theorem jh.kS{P:Program}{A:AS}{b o n:Nat}{t:TypeId}{cs m:List V}(h:jh A b o cs){j:Nat}(hj:At cs j m)(ha:aH P t=some true)(hs:szT P t=some n)(hn:m.length=n):aa P t (.ptr b (o+j)) A=some (.agg m):=by
 obtain⟨k,hk,h⟩:=h
 obtain⟨c,kk⟩:=k
 exact(h.trans hj).load hk ha hs hn
end Go.Sv
namespace Go.Sv.Tryz
open Go Go.Proofs
def ec(x:Bts):List V:=.bool (decide (x≠z32))::bc x
def hU(n:Nat)(f:Nat->Bts):List V:=eH n fun w=>ec (f w)
def cR(o:Ofr):List V:=.bool o.there::.int .i64 o.valid::bc o.id
def aX(a:Act):List V:=.int .i64 a.kind::.int .i64 a.round::.int .i64 a.num::.int .i64 a.valid::bc a.id
def iE(f:Nat->Bool):List V:=[.bool (f 0),.bool (f 1),.bool (f 2)]
def rdL(r:Rd)(kv av:V)(cp:Nat):List (List V):=
 [[.int .i64 r.n],[.int .i64 r.me],[.int .i64 r.ai],[.int .i64 r.now],[.int .i64 r.step],[.int .i64 r.locked],[.int .i64 r.valid],bc r.lock,bc r.a7,bc r.fresh,
  eH 12 fun i=>cR (r.offers i),[kv],[.ptr cp 0],eH 12 fun i=>iE (r.bY i),[av]]
def dP(r:Rd)(kv av:V)(cp:Nat):List V:=(rdL r kv av cp).flatten
def dp:Enc Act:=⟨36,true,fun _ cs x=>cs=aX x/\x.id.length=32,fun h=>by rw[h.1];simp[aX,Aa7,h.2],fun h=>by simp at h,fun h=>by rw[h.1];simp only[aX,List.all_cons,Ac9];rfl,fun _ h=>h⟩
theorem BE9{m:Hp}{w:V}{x:Act}:dp.W m w x↔w=.agg (aX x)/\x.id.length=32:=by
 unfold Enc.W;rw[if_pos (by rfl)]
 exact⟨fun⟨cs,h,h1,h2⟩=>⟨by rw[h,h1],h2⟩,fun⟨h,h2⟩=>⟨_,h,rfl,h2⟩⟩
theorem Bf8{m:Hp}{w:V}{x:Bts}:eId.W m w x↔w=.agg (bc x)/\x.length=32:=Cq9
structure Rok(r:Rd):Prop where
 lock:r.lock.length=32
 a7:r.a7.length=32
 fresh:r.fresh.length=32
 offers:∀i,(r.offers i).id.length=32
 v:∀a b c,(r.v a b c).length=32
theorem Ae1{o:Ofr}(h:o.id.length=32):(cR o).length=34:=by simp[cR,Aa7,h]
theorem AN4(o:Ofr):(cR o).all V.one=true:=by simp only[cR,List.all_cons,Ac9];rfl
theorem Aj2{a:Act}(h:a.id.length=32):(aX a).length=36:=by simp[aX,Aa7,h]
theorem Ak9{x:Bts}(h:x.length=32):(ec x).length=33:=by simp[ec,Aa7,h]
theorem Bf9(x:Bts):(ec x).all V.one=true:=by simp only[ec,List.all_cons,Ac9];rfl
theorem AC4{r:Rd}{kv av:V}{cp:Nat}(h:Rok r):(rdL r kv av cp).map List.length=[1,1,1,1,1,1,1,32,32,32,408,1,1,36,1]:=by
 have h1:=Af5 (n:=12) (k:=34) (f:=fun i=>cR (r.offers i)) (fun i _=>Ae1 (h.offers i))
 have h2:=Af5 (n:=12) (k:=3) (f:=fun i=>iE (r.bY i)) (fun i _=>rfl)
 simp only[rdL,List.map_cons,List.map_nil,Aa7,h.lock,h.a7,h.fresh,h1,h2,List.length_singleton]
theorem AB9(b:Nat):ae TP 137 (.ptr b 0) 0=some (.ptr b 0)/\ae TP 137 (.ptr b 0) 1=some (.ptr b 1)/\ae TP 137 (.ptr b 0) 2=some (.ptr b 2)/\ae TP 137 (.ptr b 0) 3=some (.ptr b 3)/\ae TP 137 (.ptr b 0) 4=some (.ptr b 4)
 /\ ae TP 137 (.ptr b 0) 5=some (.ptr b 5)/\ae TP 137 (.ptr b 0) 6=some (.ptr b 6)/\ae TP 137 (.ptr b 0) 7=some (.ptr b 7)/\ae TP 137 (.ptr b 0) 8=some (.ptr b 39)/\ae TP 137 (.ptr b 0) 9=some (.ptr b 71)
 /\ ae TP 137 (.ptr b 0) 10=some (.ptr b 103)/\ae TP 137 (.ptr b 0) 11=some (.ptr b 511)/\ae TP 137 (.ptr b 0) 12=some (.ptr b 512)/\ae TP 137 (.ptr b 0) 13=some (.ptr b 513)/\ae TP 137 (.ptr b 0) 14=some (.ptr b 549):=
 ⟨by kernel_rfl,by kernel_rfl,by kernel_rfl,by kernel_rfl,by kernel_rfl,by kernel_rfl,by kernel_rfl,by kernel_rfl,by kernel_rfl,by kernel_rfl,by kernel_rfl,by kernel_rfl,by kernel_rfl,by kernel_rfl,by kernel_rfl⟩
theorem Cg6(b o:Nat):ae TP 94 (.ptr b o) 0=some (.ptr b o)/\ae TP 94 (.ptr b o) 1=some (.ptr b (o+1))/\ae TP 94 (.ptr b o) 2=some (.ptr b (o+2)):=⟨by kernel_rfl,by kernel_rfl,by kernel_rfl⟩
theorem BI1(b o:Nat):ae TP 180 (.ptr b o) 0=some (.ptr b o)/\ae TP 180 (.ptr b o) 1=some (.ptr b (o+1)):=⟨by kernel_rfl,by kernel_rfl⟩
theorem Br7(b:Nat):ae TP 173 (.ptr b 0) 0=some (.ptr b 0)/\ae TP 173 (.ptr b 0) 1=some (.ptr b 1):=⟨by kernel_rfl,by kernel_rfl⟩
theorem Bf3{b i:Nat}(hi:i<12):aj TP 133 (.ptr b 103) (.int .i64 (i:Int))=some (.ptr b (103+i*34)):=Ak1 Tryz.underlying133 BW7 hi
theorem Ct9{b i:Nat}(hi:i<12):aj TP 135 (.ptr b 513) (.int .i64 (i:Int))=some (.ptr b (513+i*3)):=Ak1 Tryz.underlying135 Cs1 hi
theorem Cu0{b i j:Nat}(hj:j<3):aj TP 134 (.ptr b (513+i*3)) (.int .i64 (j:Int))=some (.ptr b (513+i*3+j)):=by
 have:=Ak1 (P:=TP) (b:=b) (o:=513+i*3) (k:=.i64) Tryz.underlying134 sz4 hj
 rw[Nat.mul_one]at this;exact this
theorem Br8{b i:Nat}(hi:i<12):aj TP 171 (.ptr b 1) (.int .i64 (i:Int))=some (.ptr b (1+i*2)):=Ak1 Tryz.underlying171 Cs7 hi
theorem BF0{b i j:Nat}(hj:j<2):aj TP 170 (.ptr b (1+i*2)) (.int .i64 (j:Int))=some (.ptr b (1+i*2+j)):=by
 have:=Ak1 (P:=TP) (b:=b) (o:=1+i*2) (k:=.i64) Tryz.underlying170 Cf2 hj
 rw[Nat.mul_one]at this;exact this
theorem BF1{b n i:Nat}(hi:i<n):aj TP 169 (.sl b 0 n 33) (.int .i64 (i:Int))=some (.ptr b (i*33)):=by
 have:=AS1 (P:=TP) (b:=b) (o:=0) (k:=.i64) (n:=n) Tryz.underlying169 BE6 hi
 rw[Nat.zero_add]at this;exact this
section
variable {A A':AS} {rp cp:Nat} {r:Rd} {kv av:V} {k:BK}
theorem atR(h:Rok r){i:Nat}{c:List V}(hi:(rdL r kv av cp)[i]?=some c):At (dP r kv av cp) (jJ [1,1,1,1,1,1,1,32,32,32,408,1,1,36,1] i) c:=by
 have:=At.part hi;rw[AC4 h]at this;exact this
theorem Ap1(hb:A.blk[rp]?=some ⟨dP r kv av cp,k⟩)(h:Rok r):
 aa TP 3 (.ptr rp 0) A=some (.int .i64 r.n)/\aa TP 3 (.ptr rp 1) A=some (.int .i64 r.me)/\aa TP 3 (.ptr rp 2) A=some (.int .i64 r.ai)/\aa TP 3 (.ptr rp 3) A=some (.int .i64 r.now)/\aa TP 3 (.ptr rp 4) A=some (.int .i64 r.step)
 /\ aa TP 3 (.ptr rp 5) A=some (.int .i64 r.locked)/\aa TP 3 (.ptr rp 6) A=some (.int .i64 r.valid)/\aa TP 30 (.ptr rp 7) A=some (.agg (bc r.lock))/\aa TP 30 (.ptr rp 39) A=some (.agg (bc r.a7))/\aa TP 30 (.ptr rp 71) A=some (.agg (bc r.fresh))
 /\ aa TP 32 (.ptr rp 511) A=some kv/\aa TP 130 (.ptr rp 512) A=some (.ptr cp 0)/\aa TP 81 (.ptr rp 549) A=some av :=
 ⟨(atR h (i:=0) rfl).cC hb ag3,(atR h (i:=1) rfl).cC hb ag3,(atR h (i:=2) rfl).cC hb ag3,(atR h (i:=3) rfl).cC hb ag3,(atR h (i:=4) rfl).cC hb ag3,(atR h (i:=5) rfl).cC hb ag3,(atR h (i:=6) rfl).cC hb ag3,
  (atR h (i:=7) rfl).load hb Av4 Ap3 (by rw[Aa7,h.lock]),(atR h (i:=8) rfl).load hb Av4 Ap3 (by rw[Aa7,h.a7]),(atR h (i:=9) rfl).load hb Av4 Ap3 (by rw[Aa7,h.fresh]),
  (atR h (i:=11) rfl).cC hb Ce2,(atR h (i:=12) rfl).cC hb BX0,(atR h (i:=14) rfl).cC hb Cg4⟩
theorem Cf3(h:Rok r){i:Nat}(hi:i<12):At (dP r kv av cp) (103+i*34) (cR (r.offers i)):=
 (atR h (i:=10) rfl).trans (At.rep (f:=fun i=>cR (r.offers i)) (fun i _=>Ae1 (h.offers i)) hi)
theorem Cf4(hb:A.blk[rp]?=some ⟨dP r kv av cp,k⟩)(h:Rok r){i:Nat}(hi:i<12):
 aa TP 94 (.ptr rp (103+i*34)) A=some (.agg (cR (r.offers i)))/\aa TP 4 (.ptr rp (103+i*34)) A=some (.bool (r.offers i).there):=
 ⟨(Cf3 h hi).load hb Cr4 BW7 (Ae1 (h.offers i)),
  ((Cf3 h hi).trans (o':=0) (m':=[.bool (r.offers i).there]) ⟨[],.int .i64 (r.offers i).valid::bc (r.offers i).id,rfl,rfl⟩).cC hb ag4⟩
theorem Cu1(h:Rok r){i j:Nat}(hi:i<12)(hj:j<3):At (dP r kv av cp) (513+i*3+j) [.bool (r.bY i j)]:=by
 refine((atR h (i:=13) rfl).trans (At.rep (f:=fun i=>iE (r.bY i)) (k:=3) (fun i _=>rfl) hi)).trans ?_
 match j,hj with
 | 0,_=>exact⟨[],[.bool (r.bY i 1),.bool (r.bY i 2)],rfl,rfl⟩
 | 1,_=>exact⟨[.bool (r.bY i 0)],[.bool (r.bY i 2)],rfl,rfl⟩
 | 2,_=>exact⟨[.bool (r.bY i 0),.bool (r.bY i 1)],[],rfl,rfl⟩
theorem Cx8(hb:A.blk[rp]?=some ⟨dP r kv av cp,k⟩)(h:Rok r){i j:Nat}(hi:i<12)(hj:j<3):aa TP 4 (.ptr rp (513+i*3+j)) A=some (.bool (r.bY i j)):=(Cu1 h hi hj).cC hb ag4
theorem stR(hb:A.blk[rp]?=some ⟨dP r kv av cp,.var⟩)(h:Rok r)(i:Nat){o:Nat}{c cs:List V}{t:TypeId}{x:V}{L':List (List V)}(hi:(rdL r kv av cp)[i]?=some c)(ho:jJ [1,1,1,1,1,1,1,32,32,32,408,1,1,36,1] i=o)(hx:x.cells=some cs)(hl:cs.length=c.length)
 (hs:szT TP t=some cs.length) (h1:cs.all V.one=true) (hL:(rdL r kv av cp).set i cs=L'):∃A',ag TP t (.ptr rp o) x A=some A'/\Fr (·=.row rp) A A'/\A'.blk[rp]?=some ⟨L'.flatten,.var⟩:=by
 obtain⟨A',k1,k2,k3,_⟩:=Ap0 (P:=TP) (o:=o) (t:=t) (L:=rdL r kv av cp) hb hi (by rw[AC4 h];exact ho) hx hl hs h1
 exact⟨A',k1,k2,by rw[k3,hL]⟩
theorem AC0(hb:A.blk[rp]?=some ⟨dP r kv av cp,.var⟩)(h:Rok r)(n:Int):
 (∃A',ag TP 3 (.ptr rp 3) (.int .i64 n) A=some A'/\Fr (·=.row rp) A A'/\A'.blk[rp]?=some ⟨dP { r with now:=n } kv av cp,.var⟩)/\(∃A',ag TP 3 (.ptr rp 4) (.int .i64 n) A=some A'/\Fr (·=.row rp) A A'/\A'.blk[rp]?=some ⟨dP { r with step:=n } kv av cp,.var⟩)
 /\ (∃A',ag TP 3 (.ptr rp 5) (.int .i64 n) A=some A'/\Fr (·=.row rp) A A'/\A'.blk[rp]?=some ⟨dP { r with locked:=n } kv av cp,.var⟩)/\(∃A',ag TP 3 (.ptr rp 6) (.int .i64 n) A=some A'/\Fr (·=.row rp) A A'/\A'.blk[rp]?=some ⟨dP { r with valid:=n } kv av cp,.var⟩):=
 ⟨stR hb h 3 rfl rfl rfl rfl sz3 rfl rfl,stR hb h 4 rfl rfl rfl rfl sz3 rfl rfl,stR hb h 5 rfl rfl rfl rfl sz3 rfl rfl,stR hb h 6 rfl rfl rfl rfl sz3 rfl rfl⟩
theorem BY3{x:Bts}(h:x.length=32):szT TP 30=some (bc x).length:=by rw[Aa7,h];exact Ap3
theorem BX6(hb:A.blk[rp]?=some ⟨dP r kv av cp,.var⟩)(h:Rok r){x:Bts}(hx:x.length=32):
 (∃A',ag TP 30 (.ptr rp 7) (.agg (bc x)) A=some A'/\Fr (·=.row rp) A A'/\A'.blk[rp]?=some ⟨dP { r with lock:=x } kv av cp,.var⟩)/\(∃A',ag TP 30 (.ptr rp 39) (.agg (bc x)) A=some A'/\Fr (·=.row rp) A A'/\A'.blk[rp]?=some ⟨dP { r with a7:=x } kv av cp,.var⟩)
 /\ (∃A',ag TP 30 (.ptr rp 71) (.agg (bc x)) A=some A'/\Fr (·=.row rp) A A'/\A'.blk[rp]?=some ⟨dP { r with fresh:=x } kv av cp,.var⟩):=
 ⟨stR hb h 7 rfl rfl rfl (by rw[Aa7,Aa7,hx,h.lock]) (BY3 hx) (Ac9 x) rfl,stR hb h 8 rfl rfl rfl (by rw[Aa7,Aa7,hx,h.a7]) (BY3 hx) (Ac9 x) rfl,stR hb h 9 rfl rfl rfl (by rw[Aa7,Aa7,hx,h.fresh]) (BY3 hx) (Ac9 x) rfl⟩
theorem Cx9(hb:A.blk[rp]?=some ⟨dP r kv av cp,.var⟩)(h:Rok r){w:V}(hw:w.one=true)(l:List Bts):∃A',ag TP 32 (.ptr rp 511) w A=some A'/\Fr (·=.row rp) A A'/\A'.blk[rp]?=some ⟨dP { r with known:=l } w av cp,.var⟩ :=
 stR hb h 11 rfl rfl (Ad5 hw) rfl Cr1 (by simp[hw]) rfl
theorem Cu2(hb:A.blk[rp]?=some ⟨dP r kv av cp,.var⟩)(h:Rok r){w:V}(hw:w.one=true)(l:List Act):∃A',ag TP 81 (.ptr rp 549) w A=some A'/\Fr (·=.row rp) A A'/\A'.blk[rp]?=some ⟨dP { r with al:=l } kv w cp,.var⟩ :=
 stR hb h 14 rfl rfl (Ad5 hw) rfl Cx4 (by simp[hw]) rfl
theorem Cg7(hb:A.blk[rp]?=some ⟨dP r kv av cp,.var⟩)(h:Rok r){o:Ofr}(ho:o.id.length=32){i:Nat}(hi:i<12):
 ∃A',ag TP 94 (.ptr rp (103+i*34)) (.agg (cR o)) A=some A'/\Fr (·=.row rp) A A'/\A'.blk[rp]?=some ⟨dP { r with offers:=fM r.offers i o } kv av cp,.var⟩:=by
 have hl:=Ae1 ho
 have h2:=(Cf3 (kv:=kv) (av:=av) (cp:=cp) h hi).le
 rw[Ae1 (h.offers i)]at h2
 obtain⟨A',k1,k2,k3,_⟩:=Ab1 (P:=TP) (t:=94) (o:=103+i*34) (x:=.agg (cR o)) hb rfl (by rw[hl];exact BW7) (by rw[hl];exact h2) (AN4 o)
 refine⟨A',k1,k2,?_⟩
 have a10:At (dP r kv av cp) 103 (eH 12 fun i=>cR (r.offers i)):=atR h (i:=10) rfl
 rw[k3,Ao7 a10 (by rw[hl,Af5 (k:=34) (fun i _=>Ae1 (h.offers i))];omega),Ay0 (k:=34) (fun i _=>Ae1 (h.offers i)) hi hl]
 have e:=Ao8 (L:=rdL r kv av cp) (i:=10) (c':=eH 12 fun j=>if j=i then cR o else cR (r.offers j)) rfl (by
  rw[Af5 (k:=34) (fun i _=>Ae1 (h.offers i)),Af5 (k:=34)]
  intro j _;split
  . exact hl
  . exact Ae1 (h.offers j))
 rw[AC4 h]at e
 have e2:(eH 12 fun j=>if j=i then cR o else cR (r.offers j))=eH 12 fun j=>cR (fM r.offers i o j):=Ao9 fun j _=>by unfold fM;split<;>rfl
 rw[e2]at e ⊢
 exact congrArg (fun c=>some (⟨c,.var⟩:Blk)) e
set_option maxRecDepth 4000 in
theorem Cy0(hb:A.blk[rp]?=some ⟨dP r kv av cp,.var⟩)(h:Rok r){i j:Nat}(hi:i<12)(hj:j<3):
 ∃A',ag TP 4 (.ptr rp (513+i*3+j)) (.bool true) A=some A'/\Fr (·=.row rp) A A'/\A'.blk[rp]?=some ⟨dP { r with bY:=hQ r.bY i j true } kv av cp,.var⟩:=by
 have h2:=(Cu1 (kv:=kv) (av:=av) (cp:=cp) h hi hj).le
 obtain⟨A',k1,k2,k3,_⟩:=Ab1 (P:=TP) (t:=4) (o:=513+i*3+j) (x:=.bool true) hb rfl sz4 h2 rfl
 refine⟨A',k1,k2,?_⟩
 have h3:∀i,i<12->(iE (r.bY i)).length=3:=fun _ _=>rfl
 have a13:At (dP r kv av cp) 513 (eH 12 fun i=>iE (r.bY i)):=atR h (i:=13) rfl
 rw[k3,Nat.add_assoc,Ao7 a13 (by rw[Af5 (k:=3) h3];simp;omega),Ao7 (At.rep (k:=3) h3 hi) (by show j+1<=3;omega)]
 have e0:putAt (iE (r.bY i)) j [.bool true]=iE (hQ r.bY i j true i):=by
  match j,hj with
  | 0,_=>simp[putAt,iE,hQ]
  | 1,_=>simp[putAt,iE,hQ]
  | 2,_=>simp[putAt,iE,hQ]
 rw[e0,Ay0 (k:=3) h3 hi (by rfl)]
 have e:=Ao8 (L:=rdL r kv av cp) (i:=13) (c':=eH 12 fun a=>if a=i then iE (hQ r.bY i j true i)else iE (r.bY a)) rfl (by
  rw[Af5 (k:=3) h3,Af5 (k:=3)]
  intro a _;split<;>rfl)
 rw[AC4 h]at e
 have e2:(eH 12 fun a=>if a=i then iE (hQ r.bY i j true i)else iE (r.bY a))=eH 12 fun a=>iE (hQ r.bY i j true a):=Ao9 fun a _=>by
  split
  . rename_i q;rw[q]
  . rename_i q;unfold iE hQ;simp[q]
 rw[e2]at e ⊢
 exact congrArg (fun c=>some (⟨c,.var⟩:Blk)) e
end
end Go.Sv.Tryz
namespace Go.Sv.Tryz
open Go Go.Proofs
def kT(n:Nat)(vb:Nat->Nat):List (List V):=[[.int .i64 n],eH 24 fun j=>[.sl (vb j) 0 n 33]]
def sx(n:Nat)(vb:Nat->Nat):List V:=(kT n vb).flatten
structure bq(A:AS)(cp n:Nat)(v:Vt)(vb:Nat->Nat):Prop where
 box:A.blk[cp]?=some ⟨sx n vb,.var⟩
 row:∀j,j<24->A.blk[vb j]?=some ⟨hU n (v (j/2) (j%2)),.arr (vb j) 0⟩
 mN:∀j,j<24->fN A (vb j) (vb j)
 inj:∀i j,i<24->j<24->vb i=vb j->i=j
 ok:okN n
 len:∀a b c,(v a b c).length=32
def vbS(vb:Nat->Nat):Loc->Prop:=fun x=>∃j,j<24/\x=.row (vb j)
theorem bq.fr{A A':AS}{cp n:Nat}{v:Vt}{vb:Nat->Nat}{S:Loc->Prop}(h:bq A cp n v vb)(hf:Fr S A A')(h1:¬S (.row cp))(h2:∀j,j<24->¬S (.row (vb j))/\¬S (.fam (vb j))):bq A' cp n v vb :=
 { h with box:=hf.row _ _ h.box h1,row:=fun j hj=>hf.row _ _ (h.row j hj) (h2 j hj).1,mN:=fun j hj=>(h.mN j hj).fr hf (h2 j hj).2 }
theorem bq.fr0{A A':AS}{cp n:Nat}{v:Vt}{vb:Nat->Nat}(h:bq A cp n v vb)(hf:Fr S0 A A'):bq A' cp n v vb:=h.fr hf (fun q=>q) fun _ _=>⟨fun q=>q,fun q=>q⟩
section
variable {A A':AS} {cp n:Nat} {v:Vt} {vb:Nat->Nat}
theorem AS7:(kT n vb).map List.length=[1,24]:=by
 have:=Af5 (n:=24) (k:=1) (f:=fun j=>[V.sl (vb j) 0 n 33]) (fun _ _=>rfl)
 simp only[kT,List.map_cons,List.map_nil,this,List.length_singleton]
theorem ldC(h:bq A cp n v vb):aa TP 3 (.ptr cp 0) A=some (.int .i64 n):=by
 have:=At.part (L:=kT n vb) (i:=0) rfl
 rw[AS7]at this
 exact At.cC h.box this ag3
theorem ldS(h:bq A cp n v vb){i j:Nat}(hi:i<12)(hj:j<2):aa TP 169 (.ptr cp (1+i*2+j)) A=some (.sl (vb (i*2+j)) 0 n 33):=by
 have h1:=At.part (L:=kT n vb) (i:=1) rfl
 rw[AS7]at h1
 have h2:=h1.trans (At.rep (n:=24) (k:=1) (f:=fun j=>[V.sl (vb j) 0 n 33]) (fun _ _=>rfl) (i:=i*2+j) (by omega))
 rw[Nat.mul_one,show jJ [1,24] 1+(i*2+j)=1+i*2+j by show 1+(i*2+j)=_;omega]at h2
 exact At.cC h.box h2 Cs6
theorem Bg0(h:bq A cp n v vb){i j:Nat}(hi:i<12)(hj:j<2):A.blk[vb (i*2+j)]?=some ⟨hU n (v i j),.arr (vb (i*2+j)) 0⟩:=by
 have:=h.row (i*2+j) (by omega)
 rw[show(i*2+j)/2=i by omega,show(i*2+j)%2=j by omega]at this
 exact this
theorem atV{f:Nat->Bts}(hl:∀w,(f w).length=32){w:Nat}(hw:w<n):At (hU n f) (w*33) (ec (f w)):=At.rep (f:=fun w=>ec (f w)) (fun i _=>Ak9 (hl i)) hw
theorem ldV{b:Nat}{k:BK}{f:Nat->Bts}(hb:A.blk[b]?=some ⟨hU n f,k⟩)(hl:∀w,(f w).length=32){w:Nat}(hw:w<n):
 aa TP 180 (.ptr b (w*33)) A=some (.agg (ec (f w)))/\aa TP 4 (.ptr b (w*33)) A=some (.bool (decide (f w≠z32)))/\aa TP 30 (.ptr b (w*33+1)) A=some (.agg (bc (f w))):=
 ⟨(atV hl hw).load hb Cs8 BE6 (Ak9 (hl w)),
  ((atV hl hw).trans (o':=0) (m':=[.bool (decide (f w≠z32))]) ⟨[],bc (f w),rfl,rfl⟩).cC hb ag4,
  ((atV hl hw).trans (o':=1) (m':=bc (f w)) ⟨[.bool (decide (f w≠z32))],[],by simp[ec],rfl⟩).load hb Av4 Ap3 (by rw[Aa7,hl w])⟩
theorem Ap4:∃w A',EvF TP HH 75 [] A w A'/\w=.agg (bc n32)/\Fr S0 A A':=by
 refine Aa4 rfl Tryz.func75 (by unfold Tryz.f75;rfl) Tryz.ntmps75 (by unfold Tryz.f75;rfl) (by simp) ?_
 have b0:au TP 30 [(31,.int .u8 1)]=some (.agg (bc n32)):=by kernel_rfl
 obtain⟨A2,s1,s2,s3,s4⟩:=Ag5 (P:=TP) A (z:=bc z32) (t:=30) (x:=.agg (bc n32)) (cs:=bc n32) rfl Ap3 rfl (Ac9 _)
 have zc:(aC TP 30).bind V.cells=some (bc z32):=Cg2
 have ld:=At.load s3 (At.all _) Av4 Ap3 rfl
 simp only[RT,Q0,Q1,Q2,Q3,Q4,Q5,Q6,Q7,Q8,zc,b0,s1,ld]
 exact s2
theorem Au1{n:Int}(h0:-9223372036854775808<=n)(h1:n<=9223372036854775807):∃w A',EvF TP HH 88 [.int .i64 n] A w A'/\A'=A/\w=.int .i64 (fT n):=by
 refine Aa4 rfl Tryz.func88 (by unfold Tryz.f88;rfl) Tryz.ntmps88 (by unfold Tryz.f88;rfl) (by simp) ?_
 unfold fT
 by_cases q1:n=1
 . subst q1;simp only[RT,Q0,Q1,Q2,Q3,Q4,Q5,Q6,Q7,Q8,As2];rfl
 by_cases q4:n=4
 . subst q4;simp only[RT,Q0,Q1,Q2,Q3,Q4,Q5,Q6,Q7,Q8,As2];rfl
 by_cases q7:n=7
 . subst q7;simp only[RT,Q0,Q1,Q2,Q3,Q4,Q5,Q6,Q7,Q8,As2];rfl
 have d1:decide (¬n=1)=true:=DT q1
 have d4:decide (¬n=4)=true:=DT q4
 have d7:decide (¬n=7)=true:=DT q7
 simp only[RT,Q0,Q1,Q2,Q3,Q4,Q5,Q6,Q7,Q8,d1,d4,d7]
 rw[if_pos ⟨q1,q4,q7⟩]
theorem Av6{n:Nat}(h:okN n):∃w A',EvF TP HH 118 [.int .i64 (n:Int)] A w A'/\A'=A/\w=.int .i64 (bu n):=by
 refine Aa4 rfl Tryz.func118 (by unfold Tryz.f118;rfl) Tryz.ntmps118 (by unfold Tryz.f118;rfl) (by simp) ?_
 simp only[RT,Q0,Q1,Q2,Q3,Q4,Q5,Q6,Q7,Q8]
 obtain⟨_,_,k1,rfl,rfl⟩:=Au1 (A:=A) (n:=n) (by omega) (by unfold okN at h;omega)
 refine Aa0 k1 ?_
 rw[AD4 h]
 simp only[RT,Q0,Q1,Q2,Q3,Q4,Q5,Q6,Q7,Q8]
 rcases h with rfl |rfl |rfl<;>rfl
theorem Ay1(h:bq A cp n v vb)(r k w:Int):∃x A',EvF TP HH 99 [.ptr cp 0,.int .i64 r,.int .i64 k,.int .i64 w] A x A'/\A'=A/\x=.bool (decide (right n r k w)):=by
 refine Aa4 rfl Tryz.func99 (by unfold Tryz.f99;rfl) Tryz.ntmps99 (by unfold Tryz.f99;rfl) (by simp) ?_
 have ld:=ldC h
 have fa:=(Br7 cp).1
 simp only[RT,Q0,Q1,Q2,Q3,Q4,Q5,Q6,Q7,Q8]
 by_cases q1:0<=r
 rotate_left
 . have e:¬right n r k w:=fun q=>q1 q.1
   simp only[RT,Q0,Q1,Q2,Q3,Q4,Q5,Q6,Q7,Q8,DF (show ¬r>=0 from q1),DF e]
 by_cases q2:r<12
 rotate_left
 . have e:¬right n r k w:=fun q=>q2 q.2.1
   simp only[RT,Q0,Q1,Q2,Q3,Q4,Q5,Q6,Q7,Q8,DT (show r>=0 from q1),DF q2,DF e]
 have d1:=DT (show r>=0 from q1)
 have d2:=DT q2
 by_cases q3:k=0∨k=1
 rotate_left
 . have e:¬right n r k w:=fun q=>q3 q.2.2.1
   have d3:decide (k=0)=false:=DF (by omega)
   have d4:decide (k=1)=false:=DF (by omega)
   simp only[RT,Q0,Q1,Q2,Q3,Q4,Q5,Q6,Q7,Q8,d1,d2,d3,d4,DF e]
 by_cases q4:0<=w
 rotate_left
 . have e:¬right n r k w:=fun q=>q4 q.2.2.2.1
   have d5:=DF (show ¬w>=0 from q4)
   rcases q3 with rfl |rfl
   . simp only[RT,Q0,Q1,Q2,Q3,Q4,Q5,Q6,Q7,Q8,d1,d2,d5,DF e]
   . simp only[RT,Q0,Q1,Q2,Q3,Q4,Q5,Q6,Q7,Q8,d1,d2,d5,DF e]
 have d5:=DT (show w>=0 from q4)
 have e:(right n r k w)=(w<(n:Int)):=propext ⟨fun q=>q.2.2.2.2,fun q=>⟨q1,q2,q3,q4,q⟩⟩
 rcases q3 with rfl |rfl
 . simp only[RT,Q0,Q1,Q2,Q3,Q4,Q5,Q6,Q7,Q8,d1,d2,d5,fa,ld,e]
 . simp only[RT,Q0,Q1,Q2,Q3,Q4,Q5,Q6,Q7,Q8,d1,d2,d5,fa,ld,e]
end
end Go.Sv.Tryz
namespace Go.Sv.Tryz
open Go Go.Proofs
theorem Ad8:au TP 30 []=some (.agg (bc z32)):=by kernel_rfl
theorem BY4(g:Nat->V):au TP 180 [(0,.bool true),(1,.agg ((List.range 32).map g))]=some (.agg (.bool true::(List.range 32).map g)):=by kernel_rfl
theorem Cg8{x:Bts}(h:x.length=32):au TP 180 [(0,.bool true),(1,.agg (bc x))]=some (.agg (.bool true::bc x)):=by
 obtain⟨g,hg⟩:=Ac3 (l:=bc x) (n:=32) (by rw[Aa7,h])
 rw[hg];exact BY4 g
theorem BY5(g:Nat->V)(n:Int):au TP 94 [(0,.bool true),(1,.int .i64 n),(2,.agg ((List.range 32).map g))]=some (.agg (.bool true::.int .i64 n::(List.range 32).map g)):=by kernel_rfl
theorem Br9{x:Bts}(h:x.length=32)(n:Int):au TP 94 [(0,.bool true),(1,.int .i64 n),(2,.agg (bc x))]=some (.agg (cR ⟨true,n,x⟩)):=by
 obtain⟨g,hg⟩:=Ac3 (l:=bc x) (n:=32) (by rw[Aa7,h])
 unfold cR;simp only[];rw[hg];exact BY5 g n
theorem BY6(g:Nat->V)(R v:Int):au TP 123 [(0,.int .i64 1),(1,.int .i64 R),(3,.int .i64 v),(4,.agg ((List.range 32).map g))]=some (.agg (.int .i64 1::.int .i64 R::.int .i64 0::.int .i64 v::(List.range 32).map g)):=by kernel_rfl
theorem BY7{x:Bts}(h:x.length=32)(R v:Int):au TP 123 [(0,.int .i64 1),(1,.int .i64 R),(3,.int .i64 v),(4,.agg (bc x))]=some (.agg (aX ⟨1,R,0,v,x⟩)):=by
 obtain⟨g,hg⟩:=Ac3 (l:=bc x) (n:=32) (by rw[Aa7,h])
 unfold aX;simp only[];rw[hg];exact BY6 g R v
theorem BY8(g:Nat->V)(R k:Int):au TP 123 [(0,.int .i64 2),(1,.int .i64 R),(2,.int .i64 k),(4,.agg ((List.range 32).map g))]=some (.agg (.int .i64 2::.int .i64 R::.int .i64 k::.int .i64 0::(List.range 32).map g)):=by kernel_rfl
theorem Cg9{x:Bts}(h:x.length=32)(R k:Int):au TP 123 [(0,.int .i64 2),(1,.int .i64 R),(2,.int .i64 k),(4,.agg (bc x))]=some (.agg (aX ⟨2,R,k,0,x⟩)):=by
 obtain⟨g,hg⟩:=Ac3 (l:=bc x) (n:=32) (by rw[Aa7,h])
 unfold aX;simp only[];rw[hg];exact BY8 g R k
theorem Ch0(R k:Int):au TP 123 [(0,.int .i64 3),(1,.int .i64 R),(2,.int .i64 k)]=some (.agg (aX ⟨3,R,k,0,z32⟩)):=by kernel_rfl
theorem BY9(g:Nat->V)(R:Int):au TP 123 [(0,.int .i64 4),(1,.int .i64 R),(4,.agg ((List.range 32).map g))]=some (.agg (.int .i64 4::.int .i64 R::.int .i64 0::.int .i64 0::(List.range 32).map g)):=by kernel_rfl
theorem Ch1{x:Bts}(h:x.length=32)(R:Int):au TP 123 [(0,.int .i64 4),(1,.int .i64 R),(4,.agg (bc x))]=some (.agg (aX ⟨4,R,0,0,x⟩)):=by
 obtain⟨g,hg⟩:=Ac3 (l:=bc x) (n:=32) (by rw[Aa7,h])
 unfold aX;simp only[];rw[hg];exact BY9 g R
theorem eqZ{x y:Bts}(hx:x.length=32)(hy:y.length=32):fO TP 30 (.agg (bc x)) (.agg (bc y))=some (decide (x=y)):=
 A93 (n:=32) (by kernel_rfl) Av4 (by kernel_rfl) hx hy
theorem Ai8{A:AS}{b:Nat}{k:BK}{x:Bts}(h:A.blk[b]?=some ⟨bc x,k⟩)(hx:x.length=32):aa TP 30 (.ptr b 0) A=some (.agg (bc x)):=At.load h (At.all _) Av4 Ap3 (by rw[Aa7,hx])
theorem AN5{A:AS}{x:Bts}(hx:x.length=32):∃A',ag TP 30 (.ptr A.blk.length 0) (.agg (bc x)) (A.push ⟨bc z32,.var⟩)=some A'/\Fr S0 A A'/\A'.blk[A.blk.length]?=some ⟨bc x,.var⟩:=by
 obtain⟨A2,s1,s2,s3,s4⟩:=Ag5 (P:=TP) A (z:=bc z32) (t:=30) (x:=.agg (bc x)) (cs:=bc x) rfl (BY3 hx) (by rw[Aa7,Aa7,hx];rfl) (Ac9 _)
 exact⟨A2,s1,s2,s3⟩
theorem AJ0{A:AS}{b:Nat}{x y:Bts}(h:A.blk[b]?=some ⟨bc x,.var⟩)(hx:x.length=32)(hy:y.length=32):∃A',ag TP 30 (.ptr b 0) (.agg (bc y)) A=some A'/\Fr (·=.row b) A A'/\A'.blk[b]?=some ⟨bc y,.var⟩:=by
 obtain⟨A',s1,s2,s3,s4⟩:=Ab1 (P:=TP) (t:=30) (o:=0) (x:=.agg (bc y)) (cs:=bc y) h rfl (BY3 hy) (by rw[Aa7,Aa7];omega) (Ac9 _)
 exact⟨A',s1,s2,by rw[s3,Ah3 (by rw[Aa7,Aa7,hx,hy])]⟩
theorem A59:(aC TP 30).bind V.cells=some (bc z32):=Cg2
section
variable {A A':AS} {cp n:Nat} {v:Vt} {vb:Nat->Nat}
theorem Ap5(hl:∀a b c,(v a b c).length=32)(r k w:Int):(dN n v r k w).length=32:=by
 unfold dN;split
 . exact hl _ _ _
 . exact Aa9
set_option maxHeartbeats 4000000 in
theorem AN6(h:bq A cp n v vb)(r k w:Int):∃x A',EvF TP HH 76 [.ptr cp 0,.int .i64 r,.int .i64 k,.int .i64 w] A x A'/\Fr S0 A A'/\x=.agg (bc (dN n v r k w)):=by
 refine Aa4 rfl Tryz.func76 (by unfold Tryz.f76;rfl) Tryz.ntmps76 (by unfold Tryz.f76;rfl) (by simp) ?_
 simp only[RT,Q0,Q1,Q2,Q3,Q4,Q5,Q6,Q7,Q8,A59]
 obtain⟨A1,e1,f1,r1,n1⟩:=Aa3 A (bc z32)
 rw[<- e1]
 have h1:=h.fr0 f1
 obtain⟨_,_,k1,rfl,rfl⟩:=Ay1 h1 r k w
 refine Aa0 k1 ?_
 by_cases q:right n r k w
 rotate_left
 . obtain⟨A2,s1,s2,s3⟩:=AJ0 r1 Aa9 Aa9
   simp only[RT,Q0,Q1,Q2,Q3,Q4,Q5,Q6,Q7,Q8,DF q,Ad8,s1,Ai8 s3 Aa9]
   exact⟨f1.ar s2 (Nat.le_refl _),by unfold dN;rw[if_neg q]⟩
 obtain⟨i,rfl⟩:=Int.eq_ofNat_of_zero_le q.1
 obtain⟨w,rfl⟩:=Int.eq_ofNat_of_zero_le q.2.2.2.1
 obtain⟨j,hj,rfl⟩:∃j:Nat,j<2/\k=j:=by rcases q.2.2.1 with rfl |rfl;exact⟨0,by omega,rfl⟩;exact⟨1,by omega,rfl⟩
 have hi:i<12:=by have:=q.2.1;omega
 have hw:w<n:=by have:=q.2.2.2.2;omega
 have dx:=Bg0 h1 hi hj
 have ld:=ldV dx (fun w=>h1.len i j w) hw
 obtain⟨A2,s1,s2,s3⟩:=AJ0 r1 Aa9 (h.len i j w)
 simp only[RT,Q0,Q1,Q2,Q3,Q4,Q5,Q6,Q7,Q8,DT q,Br7 cp,Br8 hi,BF0 hj,ldS h1 hi hj,BF1 hw,BI1 _ _,ld,s1,Ai8 s3 (h.len i j w)]
 exact⟨f1.ar s2 (Nat.le_refl _),by unfold dN;rw[if_pos q];rfl⟩
theorem Bs0{f:Nat->Bts}(hl:∀w,(f w).length=32){w:Nat}(hw:w<n){x:Bts}(hx:x.length=32)(hz:x≠z32):putAt (hU n f) (w*33) (.bool true::bc x)=hU n (fun c=>if c=w then x else f c):=by
 have e:(.bool true::bc x:List V)=ec x:=by unfold ec;rw[DT hz]
 unfold hU
 rw[e,Ay0 (k:=33) (fun i _=>Ak9 (hl i)) hw (Ak9 hx)]
 exact Ao9 fun c _=>by by_cases q:c=w<;>simp[q]
set_option maxHeartbeats 4000000 in
theorem AN7(hW:WF A)(h:bq A cp n v vb)(r k w:Int){id:Bts}(hid:id.length=32):∃x A',EvF TP HH 77 [.ptr cp 0,.int .i64 r,.int .i64 k,.int .i64 w,.agg (bc id)] A x A'/\Fr (vbS vb) A A'/\x=.int .i64 (cT n v r k w id)/\bq A' cp n (dG n v r k w id) vb:=by
 refine Aa4 rfl Tryz.func77 (by unfold Tryz.f77;rfl) Tryz.ntmps77 (by unfold Tryz.f77;rfl) (by simp) ?_
 simp only[RT,Q0,Q1,Q2,Q3,Q4,Q5,Q6,Q7,Q8]
 obtain⟨A1,e1,f1,r1,n1⟩:=Aa3 A (bc id)
 rw[<- e1]
 have h1:=h.fr0 f1
 obtain⟨_,_,k1,hA,rfl⟩:=Ay1 h1 r k w
 rw[hA]at k1
 refine Aa0 k1 ?_
 have ld1:=Ai8 r1 hid
 have f1':Fr (vbS vb) A A1:=f1.mono fun _ q=>q.elim
 by_cases q:right n r k w
 rotate_left
 . have e:cT n v r k w id=1:=by unfold cT;rw[if_pos (.inl q)]
   simp only[RT,Q0,Q1,Q2,Q3,Q4,Q5,Q6,Q7,Q8,DF q]
   exact⟨f1',by rw[e],by unfold dG;rw[e,if_neg (by omega)];exact h1⟩
 by_cases qz:id=z32
 . have e:cT n v r k w id=1:=by unfold cT;rw[if_pos (.inr qz)]
   simp only[RT,Q0,Q1,Q2,Q3,Q4,Q5,Q6,Q7,Q8,DT q,ld1,Ad8,eqZ hid Aa9,DT qz]
   exact⟨f1',by rw[e],by unfold dG;rw[e,if_neg (by omega)];exact h1⟩
 obtain⟨i,rfl⟩:=Int.eq_ofNat_of_zero_le q.1
 obtain⟨w,rfl⟩:=Int.eq_ofNat_of_zero_le q.2.2.2.1
 obtain⟨j,hj,rfl⟩:∃j:Nat,j<2/\k=j:=by rcases q.2.2.1 with rfl |rfl;exact⟨0,by omega,rfl⟩;exact⟨1,by omega,rfl⟩
 have hi:i<12:=by have:=q.2.1;omega
 have hw:w<n:=by have:=q.2.2.2.2;omega
 have dx:=Bg0 h1 hi hj
 have hl:=fun w=>h1.len i j w
 have ld:=ldV dx hl hw
 have e0:cT n v i j w id=if v i j w≠z32 then 5 else 0:=by
  unfold cT;rw[if_neg (by rintro(z |z);exact z q;exact qz z)];rfl
 by_cases qc:v i j w≠z32
 . rw[if_pos qc]at e0
   simp only[RT,Q0,Q1,Q2,Q3,Q4,Q5,Q6,Q7,Q8,DT q,ld1,Ad8,eqZ hid Aa9,DF qz,Br7 cp,Br8 hi,BF0 hj,ldS h1 hi hj,BF1 hw,BI1 _ _,ld,DT qc]
   exact⟨f1',by rw[e0],by unfold dG;rw[e0,if_neg (by omega)];exact h1⟩
 . rw[if_neg qc]at e0
   have px:i*2+j<24:=by omega
   have hat:=(atV hl hw).le
   rw[Ak9 (hl w)]at hat
   have hbl:(.bool true::bc id:List V).length=33:=by simp[Aa7,hid]
   obtain⟨A2,s1,s2,s3,s4,s5⟩:=AA1 (P:=TP) (t:=180) (o:=w*33) (x:=.agg (.bool true::bc id)) (h1.mN _ px) dx rfl (by rw[hbl];exact BE6) (by rw[hbl];exact hat) (by simp only[List.all_cons,Ac9];rfl)
   rw[Bs0 hl hw hid qz]at s3
   simp only[RT,Q0,Q1,Q2,Q3,Q4,Q5,Q6,Q7,Q8,DT q,ld1,Ad8,eqZ hid Aa9,DF qz,Br7 cp,Br8 hi,BF0 hj,ldS h1 hi hj,BF1 hw,BI1 _ _,ld,DF qc]
   rw[BV8,Aa2 (by rfl)]
   simp only[RT,Q0,Q1,Q2,Q3,Q4,Q5,Q6,Q7,Q8,ld1,Br7 cp,Br8 hi,BF0 hj,ldS h1 hi hj,BF1 hw,Cg8 hid,s1]
   have hne:∀a,a<24->a≠i*2+j->vb a≠vb (i*2+j):=fun a ha hne z=>hne (h.inj _ _ ha px z)
   refine⟨f1'.trans s2 fun z q=>.inl (by subst q;exact⟨_,px,rfl⟩),by rw[e0],?_⟩
   have ev:dG n v i j w id=eF v i j w id:=by unfold dG;rw[e0,if_pos rfl];rfl
   rw[ev]
   have sy:cp≠vb (i*2+j):=fun z=>by have:=h1.box;rw[z,dx]at this;simp at this
   refine { box:=s2.row _ _ h1.box (fun z=>sy (by injection z)),row:=fun a ha=>?_,mN:=fun a ha=>?_,inj:=h.inj,ok:=h.ok,len:=fun a b c=>?_ }
   . by_cases z:a=i*2+j
     . subst z
       have e:eF v i j w id i j=fun c=>if c=w then id else v i j c:=by funext c;simp[eF]
       rw[show(i*2+j)/2=i by omega,show(i*2+j)%2=j by omega]
       show A2.blk[vb (i*2+j)]?=some ⟨hU n (eF v i j w id i j),_⟩
       rw[e];exact s3
     . have e:eF v i j w id (a/2) (a%2)=v (a/2) (a%2):=by funext c;unfold eF;rw[if_neg (by omega)]
       show A2.blk[vb a]?=some ⟨hU n (eF v i j w id (a/2) (a%2)),_⟩
       rw[e]
       exact s2.row _ _ (h1.row a ha) (fun y=>hne a ha z (by injection y))
   . by_cases z:a=i*2+j
     . subst z;exact s5
     . exact(h1.mN a ha).fr s2 fun y=>by cases y
   . unfold eF;split
     . exact hid
     . exact h.len a b c
end
end Go.Sv.Tryz
namespace Go.Sv.Tryz
open Go Go.Proofs
def rvC(p:RV):List V:=.int .i64 p.1::.int .i64 p.2.1::.int .i64 p.2.2.1::bc p.2.2.2
theorem AZ4{p:RV}(h:p.2.2.2.length=32):(rvC p).length=35:=by simp[rvC,Aa7,h]
theorem BI2(p:RV):(rvC p).all V.one=true:=by simp only[rvC,List.all_cons,Ac9];rfl
def eRV:Enc RV:=⟨35,true,fun _ cs x=>cs=rvC x/\x.2.2.2.length=32,fun h=>by rw[h.1,AZ4 h.2],fun h=>by simp at h,fun h=>by rw[h.1,BI2],fun _ h=>h⟩
theorem Ch2{m:Hp}{w:V}{x:RV}:eRV.W m w x↔w=.agg (rvC x)/\x.2.2.2.length=32:=by
 unfold Enc.W;rw[if_pos (by rfl)]
 exact⟨fun⟨cs,h,h1,h2⟩=>⟨by rw[h,h1],h2⟩,fun⟨h,h2⟩=>⟨_,h,rfl,h2⟩⟩
section
variable {m:Hp} {A B:AS} {l:List RV} {v:V} {n:Nat}
theorem BX7(b o:Nat):ae TP 155 (.ptr b o) 0=some (.ptr b o)/\ae TP 155 (.ptr b o) 1=some (.ptr b (o+1))/\ae TP 155 (.ptr b o) 2=some (.ptr b (o+2))/\ae TP 155 (.ptr b o) 3=some (.ptr b (o+3)):=⟨by kernel_rfl,by kernel_rfl,by kernel_rfl,by kernel_rfl⟩
theorem BX8{b o:Nat}{p:RV}(h:jh A b o (rvC p))(hp:p.2.2.2.length=32):aa TP 3 (.ptr b o) A=some (.int .i64 p.1)/\aa TP 3 (.ptr b (o+1)) A=some (.int .i64 p.2.1)/\aa TP 3 (.ptr b (o+2)) A=some (.int .i64 p.2.2.1)/\aa TP 30 (.ptr b (o+3)) A=some (.agg (bc p.2.2.2)):=
 ⟨h.cC (j:=0) rfl ag3,h.cC (j:=1) rfl ag3,h.cC (j:=2) rfl ag3,h.kS (j:=3) ⟨[.int .i64 p.1,.int .i64 p.2.1,.int .i64 p.2.2.1],[],by simp[rvC],rfl⟩ Av4 Ap3 (by rw[Aa7,hp])⟩
theorem BI3(hm:m.on A)(h:Slc eRV m v l){i:Nat}{p:RV}(hp:l[i]?=some p):∃b o,aj TP 33 v (.int .i64 (i:Int))=some (.ptr b o)/\jh A b o (rvC p)/\p.2.2.2.length=32:=by
 obtain⟨b,o,w,g1,g2,g3⟩:=h.at (P:=TP) (k:=.i64) hm Tryz.underlying33 Br1 BX1 hp
 obtain⟨rfl,h2⟩:=Ch2.1 g3
 exact⟨b,o,g1,(AD8 BX1 Br1 g2).1,h2⟩
theorem Al9(A:AS){n:Int}:∃w A',EvF TP HH 63 [.int .i64 n] A w A'/\A'=A/\w=.int .i64 (fT n):=by
 refine Aa4 rfl Tryz.func63 (by unfold Tryz.f63;rfl) Tryz.ntmps63 (by unfold Tryz.f63;rfl) (by simp) ?_
 unfold fT
 by_cases c1:n=1
 . subst c1;simp only[RT,Q0,Q1,Q2,Q3,Q4,Q5,Q6,Q7,Q8]
   rfl
 by_cases c4:n=4
 . subst c4;simp only[RT,Q0,Q1,Q2,Q3,Q4,Q5,Q6,Q7,Q8]
   rfl
 by_cases c7:n=7
 . subst c7;simp only[RT,Q0,Q1,Q2,Q3,Q4,Q5,Q6,Q7,Q8]
   rfl
 simp only[RT,Q0,Q1,Q2,Q3,Q4,Q5,Q6,Q7,Q8,DF c1,DF c4,DF c7]
 rw[if_pos ⟨c1,c4,c7⟩]
theorem AS8{r k:Int}(hm:m.on A)(h:Slc eRV m v l)(hl:l.length<=1000000):∃w A',EvF TP HH 112 [v,.int .i64 r,.int .i64 k] A w A'/\A'=A/\w=.int .i64 (jg l r k):=by
 refine Aa4 rfl Tryz.func112 (by unfold Tryz.f112;rfl) Tryz.ntmps112 (by unfold Tryz.f112;rfl) (by simp) ?_
 have hln:=fun B=>h.len (P:=TP) Tryz.underlying33 B
 simp only[RT,Q0,Q1,Q2,Q3,Q4,Q5,Q6,Q7,Q8]
 refine Aa6 (fun z e B=>∃(j:Nat),z=l.length-j/\j<=l.length/\e.get 8=.int .i64 j/\e.get 7=.int .i64 (jg (l.take j) r k)/\e.get 0=v/\e.get 1=.int .i64 r/\e.get 2=.int .i64 k/\B=A)
  (fun z e B=>Is z (.exit 0)/\e.get 7=.int .i64 (jg l r k)/\B=A)
  ⟨_,0,rfl,by omega,rfl,rfl,rfl,rfl,rfl,rfl⟩ ?_ ?_
 rotate_left
 . rintro z e B hz ⟨rfl,h7,rfl⟩
   simp only[RT,Q0,Q1,Q2,Q3,Q4,Q5,Q6,Q7,Q8,h7]
 rintro z e B ⟨j,rfl,hj,h8,h7,h0,h1,h2,rfl⟩
 simp only[RT,Q0,Q1,Q2,Q3,Q4,Q5,Q6,Q7,Q8,h8,h0,hln]
 refine Aa8 (fun q1=>?_) (fun q1=>?_)
 rotate_left
 . have:j=l.length:=by omega
   subst this
   rw[List.take_length]at h7
   simp only[RT,Q0,Q1,Q2,Q3,Q4,Q5,Q6,Q7,Q8]
   exact⟨rfl,h7⟩
 obtain⟨p,hp⟩:=Ac7 (l:=l) (i:=j) (by omega)
 obtain⟨b,o,g1,g2,g3⟩:=BI3 hm h hp
 have fa:=BX7 b o
 have ld:=BX8 g2 g3
 have hwi:IntKind.i64.wrap ((j:Int)+1)=((j+1:Nat):Int):=by rw[Ac2 (by omega)]
 have hle:jg (l.take j) r k<=j:=Nat.le_trans List.countP_le_length (by rw[List.length_take];omega)
 have hwa:IntKind.i64.wrap ((jg (l.take j) r k:Int)+1)=((jg (l.take j) r k+1:Nat):Int):=by rw[Ac2 (by omega)]
 have en:jg (l.take (j+1)) r k=jg (l.take j) r k+(if p.1=r/\p.2.1=k then 1 else 0):=by
  unfold jg
  rw[Ab6 hp,List.countP_append,List.countP_singleton]
  simp only[decide_eq_true_eq]
 by_cases c1:p.1=r
 . by_cases c2:p.2.1=k
   . simp only[RT,Q0,Q1,Q2,Q3,Q4,Q5,Q6,Q7,Q8,h8,h0,h1,h2,g1,fa,ld,DT c1,DT c2,h7,hwa,hwi]
     refine⟨l.length-(j+1),by omega,j+1,rfl,by omega,rfl,?_⟩
     rw[en,if_pos ⟨c1,c2⟩]
   . simp only[RT,Q0,Q1,Q2,Q3,Q4,Q5,Q6,Q7,Q8,h8,h0,h1,h2,g1,fa,ld,DT c1,DF c2,hwi]
     refine⟨l.length-(j+1),by omega,j+1,rfl,by omega,rfl,?_⟩
     rw[en,if_neg (fun z=>c2 z.2),Nat.add_zero]
     exact h7
 . simp only[RT,Q0,Q1,Q2,Q3,Q4,Q5,Q6,Q7,Q8,h8,h0,h1,h2,g1,fa,ld,DF c1,hwi]
   refine⟨l.length-(j+1),by omega,j+1,rfl,by omega,rfl,?_⟩
   rw[en,if_neg (fun z=>c1 z.1),Nat.add_zero]
   exact h7
end
end Go.Sv.Tryz
namespace Go.Sv
open Go
abbrev W32:=BitVec 32
def rot(x:W32)(n:Nat):W32:=x >>> n ||| x <<< (32-n)
def jK(x:W32):W32:=rot x 7 ^^^ rot x 18 ^^^ x >>> 3
def iM(x:W32):W32:=rot x 17 ^^^ rot x 19 ^^^ x >>> 10
def shK:List W32:=[1116352408,1899447441,3049323471,3921009573,961987163,1508970993,2453635748,2870763221,3624381080,310598401,607225278,1426881987,1925078388,2162078206,2614888103,3248222580,3835390401,4022224774,264347078,604807628,770255983,1249150122,1555081692,1996064986,2554220882,2821834349,2952996808,3210313671,3336571891,3584528711,113926993,338241895,666307205,773529912,1294757372,1396182291,1695183700,1986661051,2177026350,2456956037,2730485921,2820302411,3259730800,3345764771,3516065817,3600352804,4094571909,275423344,430227734,506948616,659060556,883997877,958139571,1322822218,1537002063,1747873779,1955562222,2024104815,2227730452,2361852424,2428436474,2756734187,3204031479,3329325298]
def gw(l:List W32)(i:Nat):W32:=l.getD i 0
def gb(l:Bts)(i:Nat):Nat:=(l.getD i 0).toNat
def be4(b:Bts)(i:Nat):W32:=BitVec.ofNat 32 (((gb b (4*i)*256+gb b (4*i+1))*256+gb b (4*i+2))*256+gb b (4*i+3))
def wl(b:Bts):Nat->List W32
 | 0=>[]
 |i+1=>wl b i++[if i<16 then be4 b i else gw (wl b i) (i-16)+jK (gw (wl b i) (i-15))+gw (wl b i) (i-7)+iM (gw (wl b i) (i-2))]
theorem Bg1(b:Bts):∀i,(wl b i).length=i
 | 0=>rfl
 |i+1=>by rw[wl,List.length_append,Bg1 b i];rfl
structure S8 where
 a:W32
 b:W32
 c:W32
 d:W32
 e:W32
 f:W32
 g:W32
 h:W32
def s8l(s:S8):List W32:=[s.a,s.b,s.c,s.d,s.e,s.f,s.g,s.h]
def chs(e f g:W32):W32:=g ^^^ e &&& (f ^^^ g)
def maj(a b c:W32):W32:=a &&& b ||| c &&& (a ||| b)
def sg1(e:W32):W32:=rot e 6 ^^^ rot e 11 ^^^ rot e 25
def sg0(a:W32):W32:=rot a 2 ^^^ rot a 13 ^^^ rot a 22
def kU(k w:W32)(s:S8):W32:=s.h+sg1 s.e+chs s.e s.f s.g+k+w
def nj(s:S8):W32:=sg0 s.a+maj s.a s.b s.c
def rnd(k w:W32)(s:S8):S8:=⟨kU k w s+nj s,s.a,s.b,s.c,s.d+kU k w s,s.e,s.f,s.g⟩
def rl(ws:List W32)(s:S8):Nat->S8
 | 0=>s
 |i+1=>rnd (gw shK i) (gw ws i) (rl ws s i)
def np(s v:S8):S8:=⟨s.a+v.a,s.b+v.b,s.c+v.c,s.d+v.d,s.e+v.e,s.f+v.f,s.g+v.g,s.h+v.h⟩
def comp(s:S8)(b:Bts):S8:=np s (rl (wl b 64) s 64)
def iN:S8:=⟨1779033703,3144134277,1013904242,2773480762,1359893119,2600822924,528734635,1541459225⟩
def jA(s:S8):Bts:=(List.range 32).map fun i=>UInt8.ofNat ((gw (s8l s) (i/4)).toNat >>> (24-8*(i%4)))
def be8(n:Nat):Bts:=(List.range 8).map fun i=>UInt8.ofNat (n/256^(7-i))
def gg(n:Nat):Nat:=(119-n%64)%64
def fP(l:Bts):Bts:=l++[128]++List.replicate (gg l.length) 0++be8 (l.length*8)
def chunks(l:Bts):List Bts:=(List.range (l.length/64)).map fun i=>(l.drop (64*i)).take 64
def sha(l:Bts):Bts:=jA ((chunks (fP l)).foldl comp iN)
theorem Ai9(n:Nat):(be8 n).length=8:=by simp[be8]
theorem Ag3(s:S8):(jA s).length=32:=by simp[jA]
theorem AD9(l:Bts):(sha l).length=32:=Ag3 _
theorem Aj3(l:Bts):(fP l).length=l.length+1+gg l.length+8:=by
 simp[fP,Ai9];omega
theorem Bs1(l:Bts):(fP l).length%64=0:=by
 rw[Aj3];unfold gg;omega
theorem AZ5(n:Nat):gg n<64:=Nat.mod_lt _ (by omega)
theorem As4(l:Bts):(chunks l).length=l.length/64:=by simp[chunks]
theorem AK4{l:Bts}{i:Nat}{x:Bts}(h:(chunks l)[i]?=some x):i<l.length/64/\x=(l.drop (64*i)).take 64/\x.length=64:=by
 have hi:i<l.length/64:=by have:=(LG.1 h).1;rwa[As4]at this
 unfold chunks at h
 rw[List.getElem?_map,List.getElem?_range hi]at h
 cases h
 refine⟨hi,rfl,?_⟩
 rw[List.length_take,List.length_drop]
 omega
def wc(k:IntKind)(l:List W32):List V:=l.map fun x=>.int k (x.toNat:Int)
theorem Aq5(k:IntKind)(l:List W32):(wc k l).length=l.length:=by simp[wc]
theorem Bg2(k:IntKind)(l:List W32):(wc k l).all V.one=true:=by simp[wc,V.one]
theorem BF2{k:IntKind}{l:List W32}{i:Nat}(h:i<l.length):(wc k l)[i]?=some (.int k ((gw l i).toNat:Int)):=by
 unfold wc gw
 rw[List.getElem?_map,LH h,List.getD_eq_getElem?_getD,LH h];rfl
theorem AS9{l:List V}{i:Nat}{x:V}(h:i<l.length):putAt l i [x]=l.set i x:=by
 unfold putAt
 rw[List.set_eq_take_append_cons_drop,if_pos h];simp
theorem BF3{k:IntKind}{l:List W32}{i:Nat}{x:W32}(h:i<l.length):putAt (wc k l) i [.int k (x.toNat:Int)]=wc k (l.set i x):=by
 rw[AS9 (by rw[Aq5];exact h)]
 unfold wc;rw[List.map_set]
theorem Bg3{l l':List W32}{i:Nat}(h:i<l.length):gw (l++l') i=gw l i:=by
 unfold gw;rw[List.getD_eq_getElem?_getD,List.getElem?_append_left h,List.getD_eq_getElem?_getD]
theorem AC5(n:Int):IntKind.u32.wrap n=n%4294967296:=by simp[IntKind.wrap,IntKind.signed,IntKind.bits]
theorem Ad1(n:Int):IntKind.u64.wrap n=n%18446744073709551616:=by simp[IntKind.wrap,IntKind.signed,IntKind.bits]
theorem AN8(x y:W32):IntKind.u32.wrap ((x.toNat:Int)+(y.toNat:Int))=((x+y).toNat:Int):=by
 rw[BitVec.toNat_add,AC5];simp
theorem At2(x:W32):x.toNat<4294967296:=x.isLt
theorem Ay2{n:Nat}(x:W32)(h:32<=n):BitVec.ofInt n (x.toNat:Int)=x.setWidth n:=by
 rw[BitVec.ofInt_natCast]
 apply BitVec.eq_of_toNat_eq
 rw[BitVec.toNat_ofNat,BitVec.toNat_setWidth]
theorem Bs2{k:IntKind}(hk:k=.u32∨k=.u64){x:Nat}(h:x<2^k.bits):k.wrap (x:Int)=x:=by
 rcases hk with rfl |rfl
 . rw[AC5];have h:x<4294967296:=h;omega
 . rw[Ad1];have h:x<18446744073709551616:=h;omega
theorem b32{k:IntKind}(hk:k=.u32∨k=.u64):32<=k.bits:=by rcases hk with rfl |rfl<;>decide
theorem BF4{k:IntKind}(hk:k=.u32∨k=.u64)(x y:W32):ck .xor k (x.toNat:Int) (y.toNat:Int)=some (.int k ((x ^^^ y).toNat:Int)):=by
 unfold ck
 simp only[Ay2 _ (b32 hk)]
 have hb:=b32 hk
 have e:(x.setWidth k.bits ^^^ y.setWidth k.bits).toNat=(x ^^^ y).toNat:=by
  rw[<- BitVec.setWidth_xor,BitVec.toNat_setWidth,Nat.mod_eq_of_lt]
  exact Nat.lt_of_lt_of_le (x ^^^ y).isLt (Nat.pow_le_pow_right (by omega) hb)
 rw[e,Bs2 hk]
 exact Nat.lt_of_lt_of_le (x ^^^ y).isLt (Nat.pow_le_pow_right (by omega) hb)
theorem BF5{k:IntKind}(hk:k=.u32∨k=.u64)(x y:W32):ck .and k (x.toNat:Int) (y.toNat:Int)=some (.int k ((x &&& y).toNat:Int)):=by
 unfold ck
 simp only[Ay2 _ (b32 hk)]
 have hb:=b32 hk
 have e:(x.setWidth k.bits &&& y.setWidth k.bits).toNat=(x &&& y).toNat:=by
  rw[<- BitVec.setWidth_and,BitVec.toNat_setWidth,Nat.mod_eq_of_lt]
  exact Nat.lt_of_lt_of_le (x &&& y).isLt (Nat.pow_le_pow_right (by omega) hb)
 rw[e,Bs2 hk]
 exact Nat.lt_of_lt_of_le (x &&& y).isLt (Nat.pow_le_pow_right (by omega) hb)
theorem BZ0{k:IntKind}(hk:k=.u32∨k=.u64)(x y:W32):ck .or k (x.toNat:Int) (y.toNat:Int)=some (.int k ((x ||| y).toNat:Int)):=by
 unfold ck
 simp only[Ay2 _ (b32 hk)]
 have hb:=b32 hk
 have e:(x.setWidth k.bits ||| y.setWidth k.bits).toNat=(x ||| y).toNat:=by
  rw[<- BitVec.setWidth_or,BitVec.toNat_setWidth,Nat.mod_eq_of_lt]
  exact Nat.lt_of_lt_of_le (x ||| y).isLt (Nat.pow_le_pow_right (by omega) hb)
 rw[e,Bs2 hk]
 exact Nat.lt_of_lt_of_le (x ||| y).isLt (Nat.pow_le_pow_right (by omega) hb)
theorem Bg4{k:IntKind}(hk:k=.u32∨k=.u64)(x:W32){n:Nat}(h:n<=32):bg .shr k (x.toNat:Int) (n:Int)=some (.int k ((x >>> n).toNat:Int)):=by
 have hb:=b32 hk
 rw[A51 x.toNat n (by omega),BitVec.toNat_ushiftRight,Nat.shiftRight_eq_div_pow]
theorem A60(x:W32){n:Nat}(h:n<=32):bg .shl .u32 (x.toNat:Int) (n:Int)=some (.int .u32 ((x <<< n).toNat:Int)):=by
 unfold bg
 rw[if_neg (by omega)]
 have e:min ((n:Int).toNat) IntKind.u32.bits=n:=by rw[Int.toNat_natCast];show min n 32=n;omega
 simp only[e]
 congr 2
 rw[BitVec.toNat_shiftLeft,Nat.shiftLeft_eq,AC5]
 simp
theorem Ch3(e f g:W32):e &&& f ||| ~~~e &&& g=chs e f g:=by
 unfold chs
 apply BitVec.eq_of_getLsbD_eq
 intro i hi
 simp only[BitVec.getLsbD_or,BitVec.getLsbD_and,BitVec.getLsbD_xor,BitVec.getLsbD_not,hi,decide_true,Bool.true_and]
 cases e.getLsbD i<;>cases f.getLsbD i<;>cases g.getLsbD i<;>rfl
theorem BZ1(a b c:W32):a &&& b ||| a &&& c ||| b &&& c=maj a b c:=by
 unfold maj
 apply BitVec.eq_of_getLsbD_eq
 intro i hi
 simp only[BitVec.getLsbD_or,BitVec.getLsbD_and]
 cases a.getLsbD i<;>cases b.getLsbD i<;>cases c.getLsbD i<;>rfl
end Go.Sv
namespace Go.Sv
open Go
theorem BZ2(x y z w:Nat)(hx:x<256)(hy:y<256)(hz:z<256)(hw:w<256):BitVec.ofNat 32 x <<< 24 ||| BitVec.ofNat 32 y <<< 16 ||| BitVec.ofNat 32 z <<< 8 ||| BitVec.ofNat 32 w=(BitVec.ofNat 32 (((x*256+y)*256+z)*256+w):W32):=by
 apply BitVec.eq_of_toNat_eq
 simp only[BitVec.toNat_or,BitVec.toNat_shiftLeft,BitVec.toNat_ofNat]
 have e1:(x%2^32) <<< 24%2^32=x <<< 24:=by simp only[Nat.shiftLeft_eq];omega
 have e2:(y%2^32) <<< 16%2^32=y <<< 16:=by simp only[Nat.shiftLeft_eq];omega
 have e3:(z%2^32) <<< 8%2^32=z <<< 8:=by simp only[Nat.shiftLeft_eq];omega
 have e4:w%2^32=w:=by omega
 rw[e1,e2,e3,e4]
 rw[<- Nat.shiftLeft_add_eq_or_of_lt (b:=y <<< 16) (i:=24) (by simp only[Nat.shiftLeft_eq];omega) x]
 have e5:x <<< 24+y <<< 16=(x*256+y) <<< 16:=by simp only[Nat.shiftLeft_eq];omega
 rw[e5,<- Nat.shiftLeft_add_eq_or_of_lt (b:=z <<< 8) (i:=16) (by simp only[Nat.shiftLeft_eq];omega)]
 have e6:(x*256+y) <<< 16+z <<< 8=((x*256+y)*256+z) <<< 8:=by simp only[Nat.shiftLeft_eq];omega
 rw[e6,<- Nat.shiftLeft_add_eq_or_of_lt (b:=w) (i:=8) (by omega)]
 simp only[Nat.shiftLeft_eq];omega
theorem AN9(l:Bts)(i:Nat):gb l i<256:=UInt8.toNat_lt _
theorem BZ3(l:Bts)(i:Nat):(BitVec.ofNat 32 (gb l i):W32).toNat=gb l i:=by
 rw[BitVec.toNat_ofNat];have:=AN9 l i;omega
theorem AO0{l:List W32}{i n:Nat}(h:l.length=i)(hi:i<n)(x z:W32):(l++List.replicate (n-i) z).set i x=l++[x]++List.replicate (n-(i+1)) z:=by
 obtain⟨k,hk⟩:∃k,n-i=k+1:=⟨n-i-1,by omega⟩
 rw[hk,show n-(i+1)=k by omega,List.replicate_succ,List.set_append,if_neg (by omega),<- h,Nat.sub_self]
 simp
def mx8(s v:S8)(i:Nat):List W32:=(s8l (np s v)).take i++(s8l s).drop i
theorem AZ6{s v:S8}{i:Nat}(h:i<=8):(mx8 s v i).length=8:=by simp[mx8,s8l];omega
theorem A61{s v:S8}{i:Nat}(h:i<8):gw (mx8 s v i) i=gw (s8l s) i/\(mx8 s v i).set i (gw (s8l s) i+gw (s8l v) i)=mx8 s v (i+1):=by
 have:i=0∨i=1∨i=2∨i=3∨i=4∨i=5∨i=6∨i=7:=by omega
 rcases this with rfl |rfl |rfl |rfl |rfl |rfl |rfl |rfl<;>exact⟨rfl,rfl⟩
end Go.Sv
namespace Go.Sv.Tryz
open Go Go.Proofs
section
variable {A:AS} {r:Nat} {k:BK}
theorem AZ7(x y:W32):ck .xor .u32 (x.toNat:Int) (y.toNat:Int)=some (.int .u32 ((x ^^^ y).toNat:Int)):=BF4 (.inl rfl) x y
theorem BZ4(x y:W32):ck .and .u32 (x.toNat:Int) (y.toNat:Int)=some (.int .u32 ((x &&& y).toNat:Int)):=BF5 (.inl rfl) x y
theorem Ch4(x y:W32):ck .or .u32 (x.toNat:Int) (y.toNat:Int)=some (.int .u32 ((x ||| y).toNat:Int)):=BZ0 (.inl rfl) x y
theorem Bs3(x:W32){n:Nat}(h:n<=32):bg .shr .u32 (x.toNat:Int) (n:Int)=some (.int .u32 ((x >>> n).toNat:Int)):=Bg4 (.inl rfl) x h
theorem Cy1(n:Int)(A:AS):cnv TP 3 174 (some (.int .i64 n)) A=some (.val (.int .u64 (IntKind.u64.wrap n))):=As0 (by decide) Tryz.underlying3 Tryz.underlying174
theorem Ch5(l:Bts)(j:Nat)(A:AS):cnv TP 5 187 (some (.int .u8 (gb l j:Int))) A=some (.val (.int .u32 ((BitVec.ofNat 32 (gb l j):W32).toNat:Int))):=by
 rw[As0 (by decide) Tryz.underlying5 Tryz.underlying187,BZ3,AC5]
 have:=AN9 l j
 rw[Int.emod_eq_of_lt (by omega) (by omega)]
theorem Ag1{x:W32}{n:Nat}(h1:1<=n)(h2:n<=31){y:Int}(hy:y = -(n:Int)):EvF TP HH 121 [.int .u32 (x.toNat:Int),.int .i64 y] A (.int .u32 ((rot x n).toNat:Int)) A:=by
 suffices h:∃w A',EvF TP HH 121 [.int .u32 (x.toNat:Int),.int .i64 y] A w A'/\A'=A/\w=.int .u32 ((rot x n).toNat:Int) by
  obtain⟨w,A',h,rfl,rfl⟩:=h;exact h
 have e1:ck .and .u64 (IntKind.u64.wrap y) 31=some (.int .u64 ((32-n:Nat):Int)):=by
  rw[Ad1,hy]
  unfold ck
  have a1:BitVec.ofInt IntKind.u64.bits (-(n:Int)%18446744073709551616)=BitVec.ofNat IntKind.u64.bits (18446744073709551616-n):=by
   rw[show -(n:Int)%18446744073709551616=((18446744073709551616-n:Nat):Int) by omega,BitVec.ofInt_natCast]
  have a2:(BitVec.ofNat IntKind.u64.bits (18446744073709551616-n) &&& BitVec.ofInt IntKind.u64.bits 31).toNat=32-n:=by
   show((BitVec.ofNat 64 (18446744073709551616-n):BitVec 64) &&& (BitVec.ofNat 64 31:BitVec 64)).toNat=32-n
   rw[BitVec.toNat_and,BitVec.toNat_ofNat,BitVec.toNat_ofNat,Nat.mod_eq_of_lt (by omega),show(31:Nat)%2^64=2^5-1 by rfl,Nat.and_two_pow_sub_one_eq_mod]
   omega
  simp only[a1,a2]
  rw[Ad1];congr 2;omega
 have e2:IntKind.u64.wrap (32-((32-n:Nat):Int))=(n:Int):=by rw[Ad1];omega
 refine Aa4 rfl Tryz.func121 (by unfold Tryz.f121;rfl) Tryz.ntmps121 (by unfold Tryz.f121;rfl) (by simp) ?_
 simp only[RT,Q0,Q1,Q2,Q3,Q4,Q5,Q6,Q7,Q8,Cy1,AN1,e1,AY7,A60 x (n:=32-n) (by omega),Ax9,e2,Bs3 x (n:=n) (by omega),A48,Ch4]
 unfold rot
 rw[BitVec.or_comm]
theorem BF6{r j:Nat}(h:j<64):aj TP 211 (.ptr r 0) (.int .i64 (j:Int))=some (.ptr r j):=by
 rw[Ak1 Tryz.underlying211 BX2 h,Nat.zero_add,Nat.mul_one]
theorem AT0{r j:Nat}(h:j<64):aj TP 193 (.ptr r 0) (.int .i64 (j:Int))=some (.ptr r j):=by
 rw[Ak1 Tryz.underlying193 sz5 h,Nat.zero_add,Nat.mul_one]
theorem ax8{r j:Nat}(h:j<8):aj TP 189 (.ptr r 0) (.int .i64 (j:Int))=some (.ptr r j):=by
 rw[Ak1 Tryz.underlying189 BX2 h,Nat.zero_add,Nat.mul_one]
theorem Cy2(r:Nat):aj TP 189 (.ptr r 0) (.int .i64 0)=some (.ptr r 0)/\aj TP 189 (.ptr r 0) (.int .i64 1)=some (.ptr r 1)/\aj TP 189 (.ptr r 0) (.int .i64 2)=some (.ptr r 2)/\aj TP 189 (.ptr r 0) (.int .i64 3)=some (.ptr r 3)/\aj TP 189 (.ptr r 0) (.int .i64 4)=some (.ptr r 4)/\aj TP 189 (.ptr r 0) (.int .i64 5)=some (.ptr r 5)/\aj TP 189 (.ptr r 0) (.int .i64 6)=some (.ptr r 6)/\aj TP 189 (.ptr r 0) (.int .i64 7)=some (.ptr r 7):=
 ⟨ax8 (j:=0) (by decide),ax8 (j:=1) (by decide),ax8 (j:=2) (by decide),ax8 (j:=3) (by decide),ax8 (j:=4) (by decide),ax8 (j:=5) (by decide),ax8 (j:=6) (by decide),ax8 (j:=7) (by decide)⟩
theorem ldW{l:List W32}(hb:A.blk[r]?=some ⟨wc .u32 l,k⟩){j:Nat}(h:j<l.length):aa TP 187 (.ptr r j) A=some (.int .u32 ((gw l j).toNat:Int)):=by
 rw[Ab2 Cs9 hb,BF2 h]
theorem ld8{s:S8}(hb:A.blk[r]?=some ⟨wc .u32 (s8l s),k⟩):aa TP 187 (.ptr r 0) A=some (.int .u32 (s.a.toNat:Int))/\aa TP 187 (.ptr r 1) A=some (.int .u32 (s.b.toNat:Int))/\aa TP 187 (.ptr r 2) A=some (.int .u32 (s.c.toNat:Int))/\aa TP 187 (.ptr r 3) A=some (.int .u32 (s.d.toNat:Int))/\aa TP 187 (.ptr r 4) A=some (.int .u32 (s.e.toNat:Int))/\aa TP 187 (.ptr r 5) A=some (.int .u32 (s.f.toNat:Int))/\aa TP 187 (.ptr r 6) A=some (.int .u32 (s.g.toNat:Int))/\aa TP 187 (.ptr r 7) A=some (.int .u32 (s.h.toNat:Int)):=
 ⟨ldW hb (j:=0) (by decide:0<8),ldW hb (j:=1) (by decide:1<8),ldW hb (j:=2) (by decide:2<8),ldW hb (j:=3) (by decide:3<8),ldW hb (j:=4) (by decide:4<8),ldW hb (j:=5) (by decide:5<8),ldW hb (j:=6) (by decide:6<8),ldW hb (j:=7) (by decide:7<8)⟩
theorem ldB{l:Bts}(hb:A.blk[r]?=some ⟨bc l,k⟩){j:Nat}(h:j<l.length):aa TP 5 (.ptr r j) A=some (.int .u8 (gb l j:Int)):=by
 rw[Ab2 ag5 hb,A92,LH h]
 unfold gb
 rw[List.getD_eq_getElem?_getD,LH h];rfl
theorem stW{l:List W32}(hb:A.blk[r]?=some ⟨wc .u32 l,.var⟩){j:Nat}(h:j<l.length)(x:W32):∃A',ag TP 187 (.ptr r j) (.int .u32 (x.toNat:Int)) A=some A'/\Fr (·=.row r) A A'/\A'.blk[r]?=some ⟨wc .u32 (l.set j x),.var⟩:=by
 obtain⟨A',s1,s2,s3,s4⟩:=Ab1 (P:=TP) (t:=187) (o:=j) (x:=.int .u32 (x.toNat:Int)) (cs:=[.int .u32 (x.toNat:Int)]) hb rfl BX2 (by rw[Aq5];exact h) rfl
 rw[BF3 h]at s3
 exact⟨A',s1,s2,s3⟩
theorem Cy3:au TP 211 [(0,.int .u32 1116352408),(1,.int .u32 1899447441),(2,.int .u32 3049323471),(3,.int .u32 3921009573),(4,.int .u32 961987163),(5,.int .u32 1508970993),(6,.int .u32 2453635748),(7,.int .u32 2870763221),(8,.int .u32 3624381080),(9,.int .u32 310598401),(10,.int .u32 607225278),(11,.int .u32 1426881987),(12,.int .u32 1925078388),(13,.int .u32 2162078206),(14,.int .u32 2614888103),(15,.int .u32 3248222580),(16,.int .u32 3835390401),(17,.int .u32 4022224774),(18,.int .u32 264347078),(19,.int .u32 604807628),(20,.int .u32 770255983),(21,.int .u32 1249150122),(22,.int .u32 1555081692),(23,.int .u32 1996064986),(24,.int .u32 2554220882),(25,.int .u32 2821834349),(26,.int .u32 2952996808),(27,.int .u32 3210313671),(28,.int .u32 3336571891),(29,.int .u32 3584528711),(30,.int .u32 113926993),(31,.int .u32 338241895),(32,.int .u32 666307205),(33,.int .u32 773529912),(34,.int .u32 1294757372),(35,.int .u32 1396182291),(36,.int .u32 1695183700),(37,.int .u32 1986661051),(38,.int .u32 2177026350),(39,.int .u32 2456956037),(40,.int .u32 2730485921),(41,.int .u32 2820302411),(42,.int .u32 3259730800),(43,.int .u32 3345764771),(44,.int .u32 3516065817),(45,.int .u32 3600352804),(46,.int .u32 4094571909),(47,.int .u32 275423344),(48,.int .u32 430227734),(49,.int .u32 506948616),(50,.int .u32 659060556),(51,.int .u32 883997877),(52,.int .u32 958139571),(53,.int .u32 1322822218),(54,.int .u32 1537002063),(55,.int .u32 1747873779),(56,.int .u32 1955562222),(57,.int .u32 2024104815),(58,.int .u32 2227730452),(59,.int .u32 2361852424),(60,.int .u32 2428436474),(61,.int .u32 2756734187),(62,.int .u32 3204031479),(63,.int .u32 3329325298)]=some (.agg (wc .u32 shK)):=by kernel_rfl
theorem zcW:(aC TP 211).bind V.cells=some (wc .u32 (List.replicate 64 0)):=by kernel_rfl
theorem zcS:(aC TP 189).bind V.cells=some (wc .u32 (List.replicate 8 0)):=by kernel_rfl
theorem Cy4(a b c d e f g h:Int):au TP 189 [(0,.int .u32 a),(1,.int .u32 b),(2,.int .u32 c),(3,.int .u32 d),(4,.int .u32 e),(5,.int .u32 f),(6,.int .u32 g),(7,.int .u32 h)]=some (.agg [.int .u32 a,.int .u32 b,.int .u32 c,.int .u32 d,.int .u32 e,.int .u32 f,.int .u32 g,.int .u32 h]):=by kernel_rfl
theorem Ch6(l0 l:List W32){n:Nat}{t:TypeId}(h0:l0.length=n)(h1:l.length=n)(hs:szT TP t=some n):∃A',ag TP t (.ptr A.blk.length 0) (.agg (wc .u32 l)) (A.push ⟨wc .u32 l0,.var⟩)=some A'/\Fr S0 A A'/\A'.blk[A.blk.length]?=some ⟨wc .u32 l,.var⟩:=by
 obtain⟨A2,s1,s2,s3,s4⟩:=Ag5 (P:=TP) A (z:=wc .u32 l0) (t:=t) (x:=.agg (wc .u32 l)) (cs:=wc .u32 l) rfl (by rw[Aq5,h1];exact hs) (by rw[Aq5,Aq5,h0,h1]) (Bg2 _ _)
 exact⟨A2,s1,s2,s3⟩
end
end Go.Sv.Tryz
namespace Go.Sv.Tryz
open Go Go.Proofs
section
variable {A:AS} {r:Nat} {k:BK}
set_option maxRecDepth 20000 in
set_option maxHeartbeats 32000000 in
theorem Ba2{bs bb:Nat}{s:S8}{b:Bts}(hs:A.blk[bs]?=some ⟨wc .u32 (s8l s),.var⟩)(hb:A.blk[bb]?=some ⟨bc b,.var⟩)(hl:b.length=64)(hne:bs≠bb):
 ∃w A',EvF TP HH 106 [.ptr bs 0,.ptr bb 0] A w A'/\Fr (·=.row bs) A A'/\A'.blk[bs]?=some ⟨wc .u32 (s8l (comp s b)),.var⟩:=by
 refine Aa4 rfl Tryz.func106 (by unfold Tryz.f106;rfl) Tryz.ntmps106 (by unfold Tryz.f106;rfl) (by simp) ?_
 obtain⟨A1,e1,f1,r4⟩:=Ch6 (A:=A) (List.replicate 64 0) shK (n:=64) (t:=211) rfl rfl Ct5
 simp only[RT,Q0,Q1,Q2,Q3,Q4,Q5,Q6,Q7,Q8,Cy3,zcW,e1]
 obtain⟨b4,hb4⟩:∃x,x=A.blk.length:=⟨_,rfl⟩
 rw[<- hb4]at r4 ⊢
 obtain⟨A2,e2,f2,r5,n5⟩:=Aa3 A1 (wc .u32 (List.replicate 64 0))
 rw[<- e2]
 obtain⟨b5,hb5⟩:∃x,x=A1.blk.length:=⟨_,rfl⟩
 rw[<- hb5]at r5 ⊢
 have lts:=Ab3 hs
 have ltb:=Ab3 hb
 have lt4:b4<A1.blk.length:=Ab3 r4
 have f12:=f1.ab f2
 obtain⟨W,hW⟩:∃W:Nat->List W32,W=wl b:=⟨_,rfl⟩
 have hWl:∀i,(W i).length=i:=fun i=>by rw[hW,Bg1]
 have hWs:∀i,W (i+1)=W i++[if i<16 then be4 b i else gw (W i) (i-16)+jK (gw (W i) (i-15))+gw (W i) (i-7)+iM (gw (W i) (i-2))]:=fun i=>by rw[hW];rfl
 obtain⟨R,hRd⟩:∃R:Nat->S8,R=rl (W 64) s:=⟨_,rfl⟩
 have hRs:∀i,R (i+1)=rnd (gw shK i) (gw (W 64) i) (R i):=fun i=>by rw[hRd];rfl
 have hR0:R 0=s:=by rw[hRd];rfl
 have kV:comp s b=np s (R 64):=by rw[hRd,hW];rfl
 have r5':A2.blk[b5]?=some ⟨wc .u32 (W 0++List.replicate (64-0) 0),.var⟩:=by rw[show W 0=[] by rw[hW];rfl,List.nil_append,Nat.sub_zero];exact r5
 refine Aa6 (fun z e B=>∃i:Nat,z=64-i/\i<=64/\e.get 19=.int .i64 i/\e.get 0=.ptr bs 0/\e.get 1=.ptr bb 0/\e.get 4=.ptr b4 0/\e.get 5=.ptr b5 0/\Fr (·=.row b5) A2 B/\B.blk[b5]?=some ⟨wc .u32 (W i++List.replicate (64-i) 0),.var⟩)
  (fun z e B=>Is z (.exit 0)/\e.get 0=.ptr bs 0/\e.get 4=.ptr b4 0/\e.get 5=.ptr b5 0/\Fr (·=.row b5) A2 B/\B.blk[b5]?=some ⟨wc .u32 (W 64),.var⟩)
  ⟨_,0,rfl,by omega,rfl,rfl,rfl,rfl,rfl,.refl _ _,r5'⟩ ?_ ?_
 . rintro z e B ⟨i,rfl,hi,h19,h0,h1,h4,h5,hF,hB⟩
   simp only[RT,Q0,Q1,Q2,Q3,Q4,Q5,Q6,Q7,Q8,h19]
   refine Aa8 (fun q1=>?_) (fun q1=>?_)
   rotate_left
   . have:i=64:=by omega
     subst this
     rw[Nat.sub_self,List.replicate_zero,List.append_nil]at hB
     simp only[RT,Q0,Q1,Q2,Q3,Q4,Q5,Q6,Q7,Q8]
     exact⟨rfl,h0,h4,h5,hF,hB⟩
   have hi:i<64:=by omega
   have hbB:=hF.row _ _ (f12.af hb) (fun q=>by cases q;omega)
   have hll:(W i++List.replicate (64-i) (0:W32)).length=64:=by rw[List.length_append,hWl,List.length_replicate];omega
   have hwi:IntKind.i64.wrap ((i:Int)+1)=((i+1:Nat):Int):=by rw[Ac2 (by omega)]
   by_cases q16:i<16
   . simp only[RT,Q0,Q1,Q2,Q3,Q4,Q5,Q6,Q7,Q8,h19,DT (show((i:Int)<16) by omega)]
     rw[BD4,Aa2 (by rfl)]
     have w0:IntKind.i64.wrap (4*(i:Int))=((4*i:Nat):Int):=by rw[Ac6 (by omega) (by omega)];omega
     have w1:IntKind.i64.wrap (((4*i:Nat):Int)+1)=((4*i+1:Nat):Int):=by rw[Ac6 (by omega) (by omega)];omega
     have w2:IntKind.i64.wrap (((4*i:Nat):Int)+2)=((4*i+2:Nat):Int):=by rw[Ac6 (by omega) (by omega)];omega
     have w3:IntKind.i64.wrap (((4*i:Nat):Int)+3)=((4*i+3:Nat):Int):=by rw[Ac6 (by omega) (by omega)];omega
     have s24:∀x:W32,bg .shl .u32 (x.toNat:Int) 24=some (.int .u32 ((x <<< 24).toNat:Int)):=fun x=>A60 x (n:=24) (by decide)
     have s16:∀x:W32,bg .shl .u32 (x.toNat:Int) 16=some (.int .u32 ((x <<< 16).toNat:Int)):=fun x=>A60 x (n:=16) (by decide)
     have s8:∀x:W32,bg .shl .u32 (x.toNat:Int) 8=some (.int .u32 ((x <<< 8).toNat:Int)):=fun x=>A60 x (n:=8) (by decide)
     obtain⟨C,t1,t2,t3⟩:=stW hB (j:=i) (by omega) (be4 b i)
     rw[AO0 (hWl i) hi]at t3
     have hbe:=BZ2 (gb b (4*i)) (gb b (4*i+1)) (gb b (4*i+2)) (gb b (4*i+3)) (AN9 _ _) (AN9 _ _) (AN9 _ _) (AN9 _ _)
     simp only[RT,Q0,Q1,Q2,Q3,Q4,Q5,Q6,Q7,Q8,h1,h5,w0,w1,w2,w3,AT0 (r:=bb) (show 4*i<64 by omega),AT0 (r:=bb) (show 4*i+1<64 by omega),AT0 (r:=bb) (show 4*i+2<64 by omega),AT0 (r:=bb) (show 4*i+3<64 by omega),ldB hbB (show 4*i<b.length by omega),ldB hbB (show 4*i+1<b.length by omega),ldB hbB (show 4*i+2<b.length by omega),ldB hbB (show 4*i+3<b.length by omega),Ch5,AY7,A48,s24,s16,s8,Ch4,BF6 (r:=b5) hi,hbe]
     have t1':ag TP 187 (.ptr b5 i) (.int .u32 ((BitVec.ofNat 32 (((gb b (4*i)*256+gb b (4*i+1))*256+gb b (4*i+2))*256+gb b (4*i+3)):W32).toNat:Int)) B=some C:=t1
     simp only[RT,Q0,Q1,Q2,Q3,Q4,Q5,Q6,Q7,Q8,t1',h19,hwi]
     refine⟨64-(i+1),by omega,i+1,rfl,by omega,rfl,h0,h1,h4,h5,hF.trans t2 fun x q=>.inl q,?_⟩
     rw[hWs,if_pos q16];exact t3
   . simp only[RT,Q0,Q1,Q2,Q3,Q4,Q5,Q6,Q7,Q8,h19,DF (show ¬((i:Int)<16) by omega)]
     have w15:IntKind.i64.wrap ((i:Int)-15)=((i-15:Nat):Int):=by rw[Ac6 (by omega) (by omega)];omega
     have w2:IntKind.i64.wrap ((i:Int)-2)=((i-2:Nat):Int):=by rw[Ac6 (by omega) (by omega)];omega
     have w16:IntKind.i64.wrap ((i:Int)-16)=((i-16:Nat):Int):=by rw[Ac6 (by omega) (by omega)];omega
     have w7:IntKind.i64.wrap ((i:Int)-7)=((i-7:Nat):Int):=by rw[Ac6 (by omega) (by omega)];omega
     have s3:∀x:W32,bg .shr .u32 (x.toNat:Int) 3=some (.int .u32 ((x >>> 3).toNat:Int)):=fun x=>Bs3 x (n:=3) (by decide)
     have s10:∀x:W32,bg .shr .u32 (x.toNat:Int) 10=some (.int .u32 ((x >>> 10).toNat:Int)):=fun x=>Bs3 x (n:=10) (by decide)
     have g:∀j,j<i->aa TP 187 (.ptr b5 j) B=some (.int .u32 ((gw (W i) j).toNat:Int)):=fun j hj=>by
      rw[ldW hB (by omega),Bg3 (by rw[hWl];exact hj)]
     rw[BD5,Aa2 (by rfl)]
     simp only[RT,Q0,Q1,Q2,Q3,Q4,Q5,Q6,Q7,Q8,h19,w15,w2,BF6 (r:=b5) (show i-15<64 by omega),BF6 (r:=b5) (show i-2<64 by omega),h5,g (i-15) (by omega),g (i-2) (by omega)]
     refine Aa0 (Ag1 (n:=7) (by decide) (by decide) rfl) ?_
     simp only[RT,Q0,Q1,Q2,Q3,Q4,Q5,Q6,Q7,Q8]
     refine Aa0 (Ag1 (n:=18) (by decide) (by decide) rfl) ?_
     simp only[RT,Q0,Q1,Q2,Q3,Q4,Q5,Q6,Q7,Q8,Am5,AZ7,Ax9,s3]
     refine Aa0 (Ag1 (n:=17) (by decide) (by decide) rfl) ?_
     simp only[RT,Q0,Q1,Q2,Q3,Q4,Q5,Q6,Q7,Q8]
     refine Aa0 (Ag1 (n:=19) (by decide) (by decide) rfl) ?_
     simp only[RT,Q0,Q1,Q2,Q3,Q4,Q5,Q6,Q7,Q8,Am5,AZ7,Ax9,s10]
     rw[Bq3,Aa2 (by rfl)]
     obtain⟨C,t1,t2,t3⟩:=stW hB (j:=i) (by omega) (gw (W i) (i-16)+jK (gw (W i) (i-15))+gw (W i) (i-7)+iM (gw (W i) (i-2)))
     rw[AO0 (hWl i) hi]at t3
     unfold jK iM at t1
     simp only[RT,Q0,Q1,Q2,Q3,Q4,Q5,Q6,Q7,Q8,h19,w16,w7,BF6 (r:=b5) (show i-16<64 by omega),BF6 (r:=b5) (show i-7<64 by omega),h5,g (i-16) (by omega),g (i-7) (by omega),AN8,BF6 (r:=b5) hi,t1,hwi]
     refine⟨64-(i+1),by omega,i+1,rfl,by omega,rfl,h0,h1,h4,hF.trans t2 fun x q=>.inl q,?_⟩
     rw[hWs,if_neg q16];exact t3
 rintro z e B hz ⟨rfl,h0,h4,h5,hF,hB⟩
 have hsB:=hF.row _ _ (f12.af hs) (fun q=>by cases q;omega)
 have hkB:=hF.row _ _ (f2.af r4) (fun q=>by cases q;omega)
 have ltB:A2.blk.length<=B.blk.length:=hF.len
 have lst:aa TP 189 (.ptr bs 0) B=some (.agg (wc .u32 (s8l s))):=At.load hsB (At.all _) Ct0 BE7 rfl
 obtain⟨C,u1,u2,u3⟩:=Ch6 (A:=B) (List.replicate 8 0) (s8l s) (n:=8) (t:=189) rfl rfl BE7
 simp only[RT,Q0,Q1,Q2,Q3,Q4,Q5,Q6,Q7,Q8,h0,lst,zcS,u1]
 obtain⟨b11,ka⟩:∃x,x=B.blk.length:=⟨_,rfl⟩
 rw[<- ka]at u3 ⊢
 have hB5:=u2.af hB
 have hK4:=u2.af hkB
 have hs2:=u2.af hsB
 have lt5:b5<B.blk.length:=Ab3 hB
 have lt4':b4<B.blk.length:=Ab3 hkB
 have lts':bs<B.blk.length:=Ab3 hsB
 have ax:=Cy2 b11
 refine Aa6 (fun z e D=>∃i:Nat,z=64-i/\i<=64/\e.get 106=.int .i64 i/\e.get 0=.ptr bs 0/\e.get 4=.ptr b4 0/\e.get 5=.ptr b5 0/\e.get 11=.ptr b11 0/\Fr (·=.row b11) C D/\D.blk[b11]?=some ⟨wc .u32 (s8l (R i)),.var⟩)
  (fun z e D=>Is z (.exit 2)/\e.get 0=.ptr bs 0/\e.get 11=.ptr b11 0/\Fr (·=.row b11) C D/\D.blk[b11]?=some ⟨wc .u32 (s8l (R 64)),.var⟩)
  ⟨_,0,rfl,by omega,rfl,h0,h4,h5,rfl,.refl _ _,by rw[hR0];exact u3⟩ ?_ ?_
 . rintro z e D ⟨i,rfl,hi,ow,h0,h4,h5,h11,hG,hD⟩
   simp only[RT,Q0,Q1,Q2,Q3,Q4,Q5,Q6,Q7,Q8,ow]
   refine Aa8 (fun q1=>?_) (fun q1=>?_)
   rotate_left
   . have:i=64:=by omega
     subst this
     simp only[RT,Q0,Q1,Q2,Q3,Q4,Q5,Q6,Q7,Q8]
     exact⟨rfl,h0,h11,hG,hD⟩
   have hi:i<64:=by omega
   have hwi:IntKind.i64.wrap ((i:Int)+1)=((i+1:Nat):Int):=by rw[Ac2 (by omega)]
   obtain⟨v,hv⟩:∃v,v=R i:=⟨_,rfl⟩
   rw[<- hv]at hD
   have l8:=ld8 hD
   have lw:=ldW (hG.row _ _ hB5 (fun q=>by cases q;omega)) (j:=i) (by rw[hWl];exact hi)
   have lk:=ldW (hG.row _ _ hK4 (fun q=>by cases q;omega)) (j:=i) (show i<64 from hi)
   obtain⟨E,v1,v2,v3,v4⟩:=Ab1 (P:=TP) (t:=189) (o:=0) (x:=.agg (wc .u32 (s8l (rnd (gw shK i) (gw (W 64) i) v)))) (cs:=wc .u32 (s8l (rnd (gw shK i) (gw (W 64) i) v))) hD rfl BE7 (by rw[Aq5,Aq5];exact Nat.le_refl _) (Bg2 _ _)
   rw[Ah3 (by rw[Aq5,Aq5];rfl)]at v3
   have v1':ag TP 189 (.ptr b11 0) (.agg [.int .u32 ((kU (gw shK i) (gw (W 64) i) v+nj v).toNat:Int),.int .u32 (v.a.toNat:Int),.int .u32 (v.b.toNat:Int),.int .u32 (v.c.toNat:Int),.int .u32 ((v.d+kU (gw shK i) (gw (W 64) i) v).toNat:Int),.int .u32 (v.e.toNat:Int),.int .u32 (v.f.toNat:Int),.int .u32 (v.g.toNat:Int)]) D=some E:=v1
   unfold kU nj sg0 sg1 chs maj at v1'
   simp only[RT,Q0,Q1,Q2,Q3,Q4,Q5,Q6,Q7,Q8,ow]
   rw[Bq4,Aa2 (by rfl)]
   simp only[RT,Q0,Q1,Q2,Q3,Q4,Q5,Q6,Q7,Q8,h11,ax,l8,Bq5,ow,h4,h5,Am5,AZ7,AN1,BZ4,BF6 (r:=b4) hi,BF6 (r:=b5) hi,lw,lk,Aa1]
   refine Aa0 (Ag1 (n:=6) (by decide) (by decide) rfl) ?_
   simp only[RT,Q0,Q1,Q2,Q3,Q4,Q5,Q6,Q7,Q8,Aa1]
   refine⟨Aa5 (ha:=rfl) rfl l8.2.2.2.2.2.2.2 rfl (Aa5 (ha:=rfl) rfl l8.2.2.2.2.2.2.1 rfl (Aa5 (ha:=rfl) rfl l8.2.2.2.2.2.1 rfl (Aa5 (ha:=rfl) rfl l8.2.2.2.2.2.2.1 rfl (Aa5 (ha:=rfl) rfl lk rfl (Aa5 (ha:=rfl) rfl lw rfl Aa1))))),?_⟩
   refine Aa0 (Ag1 (n:=11) (by decide) (by decide) rfl) ?_
   simp only[RT,Q0,Q1,Q2,Q3,Q4,Q5,Q6,Q7,Q8,Aa1]
   refine⟨Aa5 (ha:=rfl) rfl l8.2.2.2.2.2.2.2 rfl (Aa5 (ha:=rfl) rfl l8.2.2.2.2.2.2.1 rfl (Aa5 (ha:=rfl) rfl l8.2.2.2.2.2.1 rfl (Aa5 (ha:=rfl) rfl l8.2.2.2.2.2.2.1 rfl (Aa5 (ha:=rfl) rfl lk rfl (Aa5 (ha:=rfl) rfl lw rfl Aa1))))),?_⟩
   simp only[RT,Q0,Q1,Q2,Q3,Q4,Q5,Q6,Q7,Q8,Aa1,Am5,AZ7]
   refine Aa0 (Ag1 (n:=25) (by decide) (by decide) rfl) ?_
   simp only[RT,Q0,Q1,Q2,Q3,Q4,Q5,Q6,Q7,Q8,Aa1]
   refine⟨Aa5 (ha:=rfl) rfl l8.2.2.2.2.2.2.2 rfl (Aa5 (ha:=rfl) rfl l8.2.2.2.2.2.2.1 rfl (Aa5 (ha:=rfl) rfl l8.2.2.2.2.2.1 rfl (Aa5 (ha:=rfl) rfl l8.2.2.2.2.2.2.1 rfl (Aa5 (ha:=rfl) rfl lk rfl (Aa5 (ha:=rfl) rfl lw rfl Aa1))))),?_⟩
   simp only[RT,Q0,Q1,Q2,Q3,Q4,Q5,Q6,Q7,Q8,Aa1,Am5,AZ7,AN8,Bq6,h11,ax,l8,AN1,BZ4,A48,Ch4]
   refine Aa0 (Ag1 (n:=2) (by decide) (by decide) rfl) ?_
   simp only[RT,Q0,Q1,Q2,Q3,Q4,Q5,Q6,Q7,Q8,Aa1]
   refine⟨Aa5 (ha:=rfl) rfl l8.2.1 rfl (Aa5 (ha:=rfl) rfl l8.2.2.1 rfl (Aa5 (ha:=rfl) rfl l8.2.1 rfl Aa1)),?_⟩
   refine Aa0 (Ag1 (n:=13) (by decide) (by decide) rfl) ?_
   simp only[RT,Q0,Q1,Q2,Q3,Q4,Q5,Q6,Q7,Q8,Aa1]
   refine⟨Aa5 (ha:=rfl) rfl l8.2.1 rfl (Aa5 (ha:=rfl) rfl l8.2.2.1 rfl (Aa5 (ha:=rfl) rfl l8.2.1 rfl Aa1)),?_⟩
   simp only[RT,Q0,Q1,Q2,Q3,Q4,Q5,Q6,Q7,Q8,Aa1,Am5,AZ7]
   refine Aa0 (Ag1 (n:=22) (by decide) (by decide) rfl) ?_
   simp only[RT,Q0,Q1,Q2,Q3,Q4,Q5,Q6,Q7,Q8,Aa1]
   refine⟨Aa5 (ha:=rfl) rfl l8.2.1 rfl (Aa5 (ha:=rfl) rfl l8.2.2.1 rfl (Aa5 (ha:=rfl) rfl l8.2.1 rfl Aa1)),?_⟩
   simp only[RT,Q0,Q1,Q2,Q3,Q4,Q5,Q6,Q7,Q8,Aa1,Am5,AZ7,AN8,h11,ax,l8,Cy4,v1']
   simp only[RT,Q0,Q1,Q2,Q3,Q4,Q5,Q6,Q7,Q8,ow,hwi]
   refine⟨64-(i+1),by omega,i+1,rfl,by omega,rfl,h0,h4,h5,h11,hG.trans v2 fun x q=>.inl q,?_⟩
   rw[hRs,<- hv];exact v3
 rintro z e D hz ⟨rfl,h0,h11,hG,hD⟩
 have hsD:=hG.row _ _ hs2 (fun q=>by cases q;omega)
 have ltD:b11<D.blk.length:=Ab3 hD
 obtain⟨v,hv⟩:∃v,v=R 64:=⟨_,rfl⟩
 rw[<- hv]at hD kV
 simp only[RT,Q0,Q1,Q2,Q3,Q4,Q5,Q6,Q7,Q8]
 refine Aa6 (fun z e E=>∃i:Nat,z=8-i/\i<=8/\e.get 183=.int .i64 i/\e.get 0=.ptr bs 0/\e.get 11=.ptr b11 0/\Fr (·=.row bs) D E/\E.blk[b11]?=some ⟨wc .u32 (s8l v),.var⟩/\E.blk[bs]?=some ⟨wc .u32 (mx8 s v i),.var⟩)
  (fun z e E=>Is z (.exit 4)/\Fr (·=.row bs) D E/\E.blk[bs]?=some ⟨wc .u32 (s8l (np s v)),.var⟩)
  ⟨_,0,rfl,by omega,rfl,h0,h11,.refl _ _,hD,hsD⟩ ?_ ?_
 . rintro z e E ⟨i,rfl,hi,py,h0,h11,hE,hv1,hs1⟩
   simp only[RT,Q0,Q1,Q2,Q3,Q4,Q5,Q6,Q7,Q8,py]
   refine Aa8 (fun q1=>?_) (fun q1=>?_)
   rotate_left
   . have:i=8:=by omega
     subst this
     simp only[RT,Q0,Q1,Q2,Q3,Q4,Q5,Q6,Q7,Q8]
     exact⟨rfl,hE,hs1⟩
   have hi:i<8:=by omega
   have hwi:IntKind.i64.wrap ((i:Int)+1)=((i+1:Nat):Int):=by rw[Ac2 (by omega)]
   obtain⟨m1,m2⟩:=A61 (s:=s) (v:=v) hi
   obtain⟨F,t1,t2,t3⟩:=stW hs1 (j:=i) (by rw[AZ6 (by omega)];exact hi) (gw (s8l s) i+gw (s8l v) i)
   rw[m2]at t3
   have l1:=ldW hs1 (j:=i) (by rw[AZ6 (by omega)];exact hi)
   rw[m1]at l1
   simp only[RT,Q0,Q1,Q2,Q3,Q4,Q5,Q6,Q7,Q8,py]
   rw[Bq7,Aa2 (by rfl)]
   simp only[RT,Q0,Q1,Q2,Q3,Q4,Q5,Q6,Q7,Q8,h0,h11,ax8 (r:=bs) hi,ax8 (r:=b11) hi,l1,ldW hv1 (j:=i) (show i<8 from hi),AN8,t1]
   simp only[RT,Q0,Q1,Q2,Q3,Q4,Q5,Q6,Q7,Q8,py,hwi]
   refine⟨8-(i+1),by omega,i+1,rfl,by omega,rfl,h0,h11,hE.trans t2 fun x q=>.inl q,t2.row _ _ hv1 (fun q=>by cases q;omega),t3⟩
 rintro z e E hz ⟨rfl,hE,hs1⟩
 simp only[RT,Q0,Q1,Q2,Q3,Q4,Q5,Q6,Q7,Q8]
 rw[kV]
 have lA:=f1.len
 have lA2:=f2.len
 exact⟨(((f12.ar hF (by omega)).ab u2).ar hG (by omega)).jL hE,hs1⟩
end
end Go.Sv.Tryz
namespace Go.Sv
open Go
structure M where
 kind:Int
 who:Int
 ai:Int
 round:Int
 valid:Int
 num:Int
 id:Bts
 data:Bts
 ids:List Bts
 list:List Bts
def M.o0(x:M):List Int:=[x.kind,x.who,x.ai,x.round,x.valid,x.num]
def mc(x:M)(dv iv lv:V):List V:=.int .i64 x.kind::.int .i64 x.who::.int .i64 x.ai::.int .i64 x.round::.int .i64 x.valid::.int .i64 x.num::(bc x.id++[dv,iv,lv])
theorem Am0{x:M}{dv iv lv:V}(h:x.id.length=32):(mc x dv iv lv).length=41:=by simp[mc,Aa7,h]
structure cw(m:Hp)(x:M)(dv iv lv:V):Prop where
 id:x.id.length=32
 data:Slc eU8 m dv x.data
 ids:Slc eId m iv x.ids
 list:Slc (eSl eU8) m lv x.list
theorem cw.mono{m m':Hp}{x:M}{dv iv lv:V}(hm:m.le m')(h:cw m x dv iv lv):cw m' x dv iv lv:=⟨h.id,h.data.mono hm,h.ids.mono hm,h.list.mono hm⟩
theorem AO1{k:IntKind}{n:Int}:V.one (.int k n)=true:=rfl
theorem At3{m:Hp}{x:M}{dv iv lv:V}(h:cw m x dv iv lv):(mc x dv iv lv).all V.one=true:=by
 simp only[mc,List.all_cons,List.all_append,Ac9,h.data.one,h.ids.one,h.list.one,AO1,List.all_nil,Bool.and_self]
def eMsg:Enc M:=⟨41,true,fun m cs x=>∃dv iv lv,cs=mc x dv iv lv/\cw m x dv iv lv,fun⟨_,_,_,h,q⟩=>by rw[h,Am0 q.id],fun h=>by simp at h,fun⟨_,_,_,h,q⟩=>by rw[h];exact At3 q,fun hm ⟨a,b,c,h,q⟩=>⟨a,b,c,h,q.mono hm⟩⟩
def lens(l:List Bts):Nat:=dB List.length l
def gF:Bts:=List.replicate 32 0
theorem AT1(b:Bts)(l:List Bts):lens (b::l)=b.length+lens l:=rfl
end Go.Sv
namespace Go.Sv.Tryz
open Go Go.Proofs
theorem faM(b:Nat):ae TP 48 (.ptr b 0) 0=some (.ptr b 0)/\ae TP 48 (.ptr b 0) 1=some (.ptr b 1)/\ae TP 48 (.ptr b 0) 2=some (.ptr b 2)/\ae TP 48 (.ptr b 0) 3=some (.ptr b 3)/\ae TP 48 (.ptr b 0) 4=some (.ptr b 4)
 /\ ae TP 48 (.ptr b 0) 5=some (.ptr b 5)/\ae TP 48 (.ptr b 0) 6=some (.ptr b 6)/\ae TP 48 (.ptr b 0) 7=some (.ptr b 38)/\ae TP 48 (.ptr b 0) 8=some (.ptr b 39)/\ae TP 48 (.ptr b 0) 9=some (.ptr b 40):=
 ⟨by kernel_rfl,by kernel_rfl,by kernel_rfl,by kernel_rfl,by kernel_rfl,by kernel_rfl,by kernel_rfl,by kernel_rfl,by kernel_rfl,by kernel_rfl⟩
theorem BI4{x:M}{dv iv lv:V}(h:x.id.length=32):(mc x dv iv lv)[38]?=some dv/\(mc x dv iv lv)[39]?=some iv/\(mc x dv iv lv)[40]?=some lv:=by
 have e:(bc x.id).length=32:=by rw[Aa7,h]
 have key:∀j,(mc x dv iv lv)[38+j]?=[dv,iv,lv][j]?:=fun j=>by
  have:38+j=(32+j)+6:=by omega
  rw[this]
  show(bc x.id++[dv,iv,lv])[32+j]?=_
  rw[List.getElem?_append_right (by omega),e];congr 1;omega
 exact⟨key 0,key 1,key 2⟩
theorem ldM{x:M}{dv iv lv:V}{A:AS}{b:Nat}{k:BK}(hb:A.blk[b]?=some ⟨mc x dv iv lv,k⟩)(h:x.id.length=32):
 aa TP 3 (.ptr b 0) A=some (.int .i64 x.kind)/\aa TP 3 (.ptr b 1) A=some (.int .i64 x.who)/\aa TP 3 (.ptr b 2) A=some (.int .i64 x.ai)/\aa TP 3 (.ptr b 3) A=some (.int .i64 x.round)
 /\ aa TP 3 (.ptr b 4) A=some (.int .i64 x.valid)/\aa TP 3 (.ptr b 5) A=some (.int .i64 x.num)/\aa TP 30 (.ptr b 6) A=some (.agg (bc x.id))/\aa TP 45 (.ptr b 38) A=some dv
 /\ aa TP 32 (.ptr b 39) A=some iv/\aa TP 46 (.ptr b 40) A=some lv/\aa TP 48 (.ptr b 0) A=some (.agg (mc x dv iv lv)):=by
 have hl:=Am0 (dv:=dv) (iv:=iv) (lv:=lv) h
 obtain⟨e1,e2,e3⟩:=BI4 (dv:=dv) (iv:=iv) (lv:=lv) h
 refine⟨?_,?_,?_,?_,?_,?_,?_,?_,?_,?_,?_⟩
 . rw[Ab2 ag3 hb];rfl
 . rw[Ab2 ag3 hb];rfl
 . rw[Ab2 ag3 hb];rfl
 . rw[Ab2 ag3 hb];rfl
 . rw[Ab2 ag3 hb];rfl
 . rw[Ab2 ag3 hb];rfl
 . rw[Aq4 Av4 Ap3]
   unfold AS.range
   rw[hb]
   simp only[hl]
   rw[if_pos (by decide)]
   have:(List.drop 6 (mc x dv iv lv)).take 32=bc x.id:=by
    show(bc x.id++[dv,iv,lv]).take 32=_
    rw[List.take_left' (by rw[Aa7,h])]
   rw[this];rfl
 . rw[Ab2 BW6 hb,e1]
 . rw[Ab2 Ce2 hb,e2]
 . rw[Ab2 Cx0 hb,e3]
 . rw[Aq4 BY2 Br4]
   unfold AS.range
   rw[hb]
   simp only[hl]
   rw[if_pos (by decide)]
   rw[List.drop_zero,List.take_of_length_le (by rw[hl];decide)];rfl
theorem Cy5(n:Int)(A:AS):cnv TP 3 5 (some (.int .i64 n)) A=some (.val (.int .u8 (IntKind.u8.wrap n))):=As0 (by decide) Tryz.underlying3 Tryz.underlying5
end Go.Sv.Tryz
namespace Go.Sv.Tryz
open Go Go.Proofs
end Go.Sv.Tryz
namespace Go.Sv.Tryz
open Go Go.Proofs
theorem eqI{l r:Bts}(hl:l.length=32)(hr:r.length=32):fO TP 30 (.agg (bc l)) (.agg (bc r))=some (decide (l=r)):=
 A93 (n:=32) (by kernel_rfl) Av4 (by kernel_rfl) hl hr
end Go.Sv.Tryz
namespace Go.Sv.Tryz
open Go Go.Proofs
structure qF(x:M):Prop where
 ids:x.ids.length<=9223372036854775807
 data:x.data.length<=9223372036854775807
 list:x.list.length<=9223372036854775807
 each:∀b∈x.list,b.length<=9223372036854775807
end Go.Sv.Tryz
namespace Go.Sv.Tryz
open Go Go.Proofs
end Go.Sv.Tryz
namespace Go.Sv.Tryz
open Go Go.Proofs
end Go.Sv.Tryz
namespace Go.Sv.Tryz
open Go Go.Proofs
theorem Reads.bytes(n:Nat)(hn:0<n):Reads (eB n hn) (.arr n (.int .u8) 1) (fun _=>True) (fun _=>1):=by
 intro A d cs h
 cases h with
 | @arr n sz e l vs hl hv hh =>
  obtain⟨r,h1,h2⟩:=Av0 (R:=fun i (d:Dat) (x:UInt8)=>cs[i]?=some (.int .u8 x.toNat)) l 0 fun i d q=>by
   obtain⟨x,q1,_⟩:=Reads.u8 A d _ (hh i d q)
   refine⟨x,?_⟩
   have q1:(cs.drop (i*1)).take 1=[.int .u8 x.toNat]:=q1
   rw[Nat.mul_one,List.take_one,List.head?_drop]at q1
   rw[Nat.zero_add]
   cases hc:cs[i]? with
   |none=>rw[hc]at q1;simp at q1
   |some c=>rw[hc]at q1;simpa using q1
  refine⟨r,⟨AR6 (by rw[Aa7];omega) fun i x hx=>?_,by omega⟩,trivial,by simp[Dat.eL]⟩
  rw[A92]at hx
  cases hr:r[i]? with
  |none=>rw[hr]at hx;simp at hx
  |some y =>
   rw[hr]at hx;simp at hx;subst hx
   have hi:=(LG.1 hr).1
   have:=h2 i l[i] y (LH (by omega)) hr
   rwa[Nat.zero_add]at this
def shM:Sh:=.struct [(.int .i64,0,1),(.int .i64,1,1),(.int .i64,2,1),(.int .i64,3,1),(.int .i64,4,1),(.int .i64,5,1),(.arr 32 (.int .u8) 1,6,32),(.sl (.int .u8) 1,38,1),(.sl (.arr 32 (.int .u8) 1) 32,39,1),(.sl (.sl (.int .u8) 1) 1,40,1)] 41
def o4(x:M):Nat:=x.data.length+x.ids.length+x.list.length+lens x.list
theorem AE0:∀l:List Bts,lens l<=dB (fun b=>dB (fun _=>1) b+1) l
 |[]=>by simp[lens,dB]
 |x::l=>by
  have:=AE0 l
  have h2:=Ae9 (μ:=fun _:UInt8=>1) (fun _=>Nat.le_refl _) x
  simp only[AT1,dB];omega
theorem Reads.msg:Reads eMsg shM (fun x=>qF x/\∀n∈x.o0,IntIn .i64 n) o4:=by
 intro A d cs hd
 unfold shM at hd
 cases hd with
 | @struct fs total l vs hl hv hh =>
  match l,hl with
  |[d0,d1,d2,d3,d4,d5,d6,d7,d8,d9],_ =>
   obtain⟨n0,p0,q0,_⟩:=Reads.int .i64 A _ _ (hh 0 _ _ rfl rfl)
   obtain⟨n1,p1,q1,_⟩:=Reads.int .i64 A _ _ (hh 1 _ _ rfl rfl)
   obtain⟨n2,p2,q2,_⟩:=Reads.int .i64 A _ _ (hh 2 _ _ rfl rfl)
   obtain⟨n3,p3,q3,_⟩:=Reads.int .i64 A _ _ (hh 3 _ _ rfl rfl)
   obtain⟨n4,p4,q4,_⟩:=Reads.int .i64 A _ _ (hh 4 _ _ rfl rfl)
   obtain⟨n5,p5,q5,_⟩:=Reads.int .i64 A _ _ (hh 5 _ _ rfl rfl)
   obtain⟨id,⟨p6,p6'⟩,_,_⟩:=Reads.bytes 32 (by decide) A _ _ (hh 6 _ _ rfl rfl)
   obtain⟨data,⟨dv,p7,p7'⟩,⟨q7,_⟩,b7⟩:=Reads.u8.sl A _ _ (hh 7 _ _ rfl rfl)
   obtain⟨ids,⟨iv,p8,p8'⟩,⟨q8,_⟩,b8⟩:=(Reads.bytes 32 (by decide)).sl A _ _ (hh 8 _ _ rfl rfl)
   obtain⟨list,⟨lv,p9,p9'⟩,⟨q9,q9'⟩,b9⟩:=Reads.u8.sl.sl A _ _ (hh 9 _ _ rfl rfl)
   have e:cs=mc ⟨n0,n1,n2,n3,n4,n5,id,data,ids,list⟩ dv iv lv:=by
    have step:∀a k,cs.drop a=(cs.drop a).take k++cs.drop (a+k):=fun a k=>by
     conv=>lhs;rw[<- List.take_append_drop k (cs.drop a)]
     rw[List.drop_drop]
    have p0:(cs.drop 0).take 1=[.int .i64 n0]:=p0
    have p1:(cs.drop 1).take 1=[.int .i64 n1]:=p1
    have p2:(cs.drop 2).take 1=[.int .i64 n2]:=p2
    have p3:(cs.drop 3).take 1=[.int .i64 n3]:=p3
    have p4:(cs.drop 4).take 1=[.int .i64 n4]:=p4
    have p5:(cs.drop 5).take 1=[.int .i64 n5]:=p5
    have p6:(cs.drop 6).take 32=bc id:=p6
    have p7:(cs.drop 38).take 1=[dv]:=p7
    have p8:(cs.drop 39).take 1=[iv]:=p8
    have p9:(cs.drop 40).take 1=[lv]:=p9
    have e0:=step 0 1;have e1:=step 1 1;have e2:=step 2 1;have e3:=step 3 1;have e4:=step 4 1;have e5:=step 5 1
    have e6:=step 6 32;have e7:=step 38 1;have e8:=step 39 1;have e9:=step 40 1
    have e10:cs.drop 41=[]:=List.drop_eq_nil_of_le (by omega)
    rw[p0]at e0;rw[p1]at e1;rw[p2]at e2;rw[p3]at e3;rw[p4]at e4;rw[p5]at e5;rw[p6]at e6;rw[p7]at e7;rw[p8]at e8;rw[p9]at e9
    rw[e10]at e9;rw[e9]at e8;rw[e8]at e7;rw[e7]at e6;rw[e6]at e5;rw[e5]at e4;rw[e4]at e3;rw[e3]at e2;rw[e2]at e1;rw[e1]at e0
    rw[List.drop_zero]at e0
    rw[e0];rfl
   refine⟨⟨n0,n1,n2,n3,n4,n5,id,data,ids,list⟩,⟨dv,iv,lv,e,⟨p6',p7',p8',p9'⟩⟩,⟨⟨q8,q7,q9,fun b hb=>(q9' b hb).1⟩,?_⟩,?_⟩
   . simp only[M.o0,List.mem_cons,List.mem_nil_iff,or_false,forall_eq_or_imp,forall_eq]
     exact⟨q0,q1,q2,q3,q4,q5⟩
   . have h7:=Ae9 (μ:=fun _:UInt8=>1) (fun _=>Nat.le_refl _) data
     have h8:=Ae9 (μ:=fun _:Bts=>1) (fun _=>Nat.le_refl _) ids
     have h9:=Ae9 (μ:=fun b:Bts=>dB (fun _=>1) b+1) (fun _=>by omega) list
     have h10:=AE0 list
     have h11:list.length+lens list<=dB (fun b:Bts=>dB (fun _=>1) b+1) list:=by
      clear h9 h10 b9 q9 q9' p9' e
      induction list with
      |nil=>simp[lens,dB]
      |cons b l ih =>
       have h2:=Ae9 (μ:=fun _:UInt8=>1) (fun _=>Nat.le_refl _) b
       simp only[AT1,dB,List.length_cons];omega
     have b7:dB (fun _=>1) data+1<=d7.eL:=b7
     have b8:dB (fun _=>1) ids+1<=d8.eL:=b8
     have b9:dB (fun b:Bts=>dB (fun _=>1) b+1) list+1<=d9.eL:=b9
     simp only[o4,Dat.eL,eJ]
     omega
end Go.Sv.Tryz
namespace Go.Sv
open Go
def nq:Bts->Option (Bts×Bts)
 |a::b::c::r=>if a.toNat*65536+b.toNat*256+c.toNat>r.length then none else some (r.take (a.toNat*65536+b.toNat*256+c.toNat),r.drop (a.toNat*65536+b.toNat*256+c.toNat))
 | _=>none
theorem Bg5{s x r:Bts}(h:nq s=some (x,r)):s.length=x.length+r.length+3/\x.length<=16777215:=by
 match s,h with
 |a::b::c::q,h =>
  simp only[nq]at h
  split at h
  . simp at h
  . simp only[Option.some.injEq,Prod.mk.injEq]at h
    obtain⟨rfl,rfl⟩:=h
    have h1:=a.toNat_lt;have h2:=b.toNat_lt;have h3:=c.toNat_lt
    simp only[List.length_cons,List.length_take,List.length_drop]
    omega
def items(last:Nat)(s:Bts):List (Nat×Bts)×Int:=match s with
 |[]=>([],0)
 |t::r=>if t.toNat<=last∨t.toNat>9 then([],21)else match h:nq r with
  |none=>([],20)
  |some (x,r')=>((t.toNat,x)::(items t.toNat r').1,(items t.toNat r').2)
termination_by s.length
decreasing_by
 all_goals (have:=Bg5 h;simp only[List.length_cons];omega)
def eU(k:Int):M:=⟨k,0,0,0,0,0,gF,[],[],[]⟩
end Go.Sv
namespace Go.Sv.Tryz
open Go Go.Proofs
theorem BI5{m:Hp}{A:AS}{v:V}{l:Bts}(h:Slc eU8 m v l)(hm:m.on A){i:Nat}{x:UInt8}(hx:l[i]?=some x):∃b o,aj TP 45 v (.int .i64 (i:Int))=some (.ptr b o)/\aa TP 5 (.ptr b o) A=some (.int .u8 x.toNat):=by
 obtain⟨b,o,w,h1,h2,h3⟩:=h.at (P:=TP) (k:=.i64) hm Tryz.underlying45 sz5 ag5 hx
 rw[Co3]at h3
 subst h3
 exact⟨b,o,h1,h2⟩
end Go.Sv.Tryz
namespace Go.Sv
open Go
theorem Av7{l:Bts}{k:Nat}(h:k<l.length/64):(chunks l)[k]?=some ((l.drop (64*k)).take 64):=by
 unfold chunks;rw[List.getElem?_map,List.getElem?_range h];rfl
section
variable (L:Bts)
theorem Ba3{k:Nat}(h:k<L.length/64):(chunks (fP L))[k]?=some ((L.drop (64*k)).take 64):=by
 rw[Av7 (by rw[Aj3];omega)]
 unfold fP
 rw[List.append_assoc,List.append_assoc,List.drop_append_of_le_length (by omega),List.take_append_of_le_length (by rw[List.length_drop];omega)]
theorem A62:(fP L).drop (64*(L.length/64))=L.drop (64*(L.length/64))++([128]++List.replicate (gg L.length) 0++be8 (L.length*8)):=by
 unfold fP
 rw[List.append_assoc,List.append_assoc,List.drop_append_of_le_length (by omega),List.append_assoc]
theorem Bg6(h:L.length%64<56):(chunks (fP L))[L.length/64]?=some (L.drop (64*(L.length/64))++[128]++List.replicate (55-L.length%64) 0++be8 (L.length*8))/\(chunks (fP L)).length=L.length/64+1:=by
 have hz:gg L.length=55-L.length%64:=by unfold gg;omega
 constructor
 . rw[Av7 (by rw[Aj3,hz];omega),A62,List.take_of_length_le (by simp[Ai9,hz];omega),hz]
   simp only[List.append_assoc]
 . rw[As4,Aj3,hz];omega
theorem Bg7(h:56<=L.length%64):(chunks (fP L))[L.length/64]?=some (L.drop (64*(L.length/64))++[128]++List.replicate (63-L.length%64) 0)/\(chunks (fP L))[L.length/64+1]?=some (List.replicate 56 0++be8 (L.length*8))/\(chunks (fP L)).length=L.length/64+2:=by
 have hz:gg L.length=(63-L.length%64)+56:=by unfold gg;omega
 have hl:(L.drop (64*(L.length/64))++[128]++List.replicate (63-L.length%64) (0:UInt8)).length=64:=by simp;omega
 have e:(fP L).drop (64*(L.length/64))=(L.drop (64*(L.length/64))++[128]++List.replicate (63-L.length%64) 0)++(List.replicate 56 0++be8 (L.length*8)):=by
  rw[A62,hz,<- List.replicate_append_replicate];simp only[List.append_assoc]
 refine⟨?_,?_,?_⟩
 . rw[Av7 (by rw[Aj3,hz];omega),e,List.take_left' hl]
 . rw[Av7 (by rw[Aj3,hz];omega),show 64*(L.length/64+1)=64*(L.length/64)+64 by omega,<- List.drop_drop,e,List.drop_left' hl,List.take_of_length_le (by simp[Ai9])]
 . rw[As4,Aj3,hz];omega
end
def jt(p w:Bts):Prop:=w.length=64/\w.take (p.length%64)=p.drop (64*(p.length/64))
theorem take_set{α:Type}(w:List α){n:Nat}{x:α}(h:n<w.length):(w.set n x).take (n+1)=w.take n++[x]:=by
 rw[List.take_set,List.take_add_one,LH h]
 rw[List.set_append,if_neg (by rw[List.length_take];omega)]
 rw[show n-(w.take n).length=0 by rw[List.length_take];omega];rfl
theorem jt.step{p w:Bts}(h:jt p w)(x:UInt8):((p.length+1)%64≠0->jt (p++[x]) (w.set (p.length%64) x))/\((p.length+1)%64=0->w.set (p.length%64) x=((p++[x]).drop (64*(p.length/64))).take 64/\jt (p++[x]) (w.set (p.length%64) x)/\(p++[x]).length/64=p.length/64+1):=by
 have e1:(w.set (p.length%64) x).take (p.length%64+1)=(p++[x]).drop (64*(p.length/64)):=by
  rw[take_set _ (by rw[h.1];omega),h.2,List.drop_append_of_le_length (by omega)]
 refine⟨fun q=>⟨by rw[List.length_set];exact h.1,?_⟩,fun q=>⟨?_,⟨by rw[List.length_set];exact h.1,?_⟩,?_⟩⟩
 . rw[List.length_append,List.length_singleton,show(p.length+1)%64=p.length%64+1 by omega,show(p.length+1)/64=p.length/64 by omega]
   exact e1
 . have hl:(w.set (p.length%64) x).length=64:=by rw[List.length_set];exact h.1
   have e2:(w.set (p.length%64) x).take (p.length%64+1)=w.set (p.length%64) x:=List.take_of_length_le (by omega)
   rw[<- e1,e2,List.take_of_length_le (by omega)]
 . rw[List.length_append,List.length_singleton,q,List.take_zero,List.drop_of_length_le (by rw[List.length_append,List.length_singleton];omega)]
 . rw[List.length_append,List.length_singleton];omega
theorem AT2{w:Bts}{i:Nat}{x:UInt8}(h:i<w.length):putAt (bc w) i [.int .u8 (x.toNat:Int)]=bc (w.set i x):=by
 rw[AS9 (by rw[Aa7];exact h)]
 unfold bc;rw[List.map_set]
def iR(q:Bts)(n i:Nat):Bts:=q++List.replicate (8-i) 0++(be8 n).drop (8-i)
theorem Bg8{q:Bts}{n i:Nat}(hq:q.length=56)(hi:i<8):(iR q n i).set (63-i) (UInt8.ofNat (n/256^i))=iR q n (i+1):=by
 unfold iR
 have hr:List.replicate (8-i) (0:UInt8)=List.replicate (7-i) 0++[0]:=by
  rw[show 8-i=(7-i)+1 by omega,List.replicate_succ']
 have hd:(be8 n).drop (8-(i+1))=UInt8.ofNat (n/256^i)::(be8 n).drop (8-i):=by
  rw[show 8-i=(8-(i+1))+1 by omega]
  rw[List.drop_eq_getElem_cons (by rw[Ai9];omega)]
  congr 1
  unfold be8
  rw[List.getElem_map,List.getElem_range]
  rw[show 7-(8-(i+1))=i by omega]
 rw[hd,hr,List.append_assoc,List.append_assoc,List.set_append,if_neg (by omega),hq,show 63-i-56=7-i by omega,List.set_append,if_neg (by simp),List.length_replicate,Nat.sub_self,show 8-(i+1)=7-i by omega]
 simp
theorem AT3{q:Bts}{n:Nat}:iR q n 0=q++List.replicate 8 0:=by
 unfold iR;rw[List.drop_of_length_le (by rw[Ai9];omega)];simp
theorem Bs4{q:Bts}{n:Nat}:iR q n 8=q++be8 n:=by unfold iR;simp
theorem Bs5{q:Bts}{n i:Nat}(hq:q.length=56)(hi:i<=8):(iR q n i).length=64:=by
 unfold iR;simp only[List.length_append,List.length_replicate,List.length_drop,Ai9,hq];omega
theorem Bs6{P:Program}{A:AS}{t e:TypeId}{b b' o' n n':Nat}{cells cs:List V}(hu:P.underlying t=some (.slice e))(hs:szT P e=some 1)(hb:A.blk[b]?=some ⟨cells,.var⟩)(hr:A.range b' o' n'=some cs)(hl:cs.length=n')(h1:cs.all V.one=true)(hn:n'<=n)(hc:n'<=cells.length):
 ∃A',gH P t (.sl b 0 n 1) (.sl b' o' n' 1) A=some (.int .i64 (n':Int),A')/\Fr (·=.row b) A A'/\A'.blk[b]?=some ⟨cs++cells.drop n',.var⟩:=by
 have ho:0+cs.length<=cells.length:=by omega
 refine⟨A.bN b (putAt cells 0 cs),?_,Fr.bN hb (Af0 ho),?_⟩
 . unfold gH
   simp only[hu,hs]
   rw[if_pos ⟨trivial,trivial⟩,Nat.min_eq_left hn,Nat.mul_one,hr]
   simp only[]
   unfold AS.put
   rw[hb]
   simp only[]
   rw[if_pos ⟨ho,h1⟩];rfl
 . rw[Ak7,hb]
   simp[putAt,hl]
theorem BZ5{P:Program}{A:AS}{t e:TypeId}{n b o z j:Nat}{k:Blk}{kd:IntKind}(hu:P.underlying t=some (.array n e))(hs:szT P e=some (z+1))(hb:A.blk[b]?=some k)(hl:o+n*(z+1)<=k.cells.length)(hj:j<=n):
 aE P t (.ptr b o) none (some (.int kd (j:Int))) none A=some (.sl b o j (z+1)):=by
 unfold aE
 have e2:(j:Int)<=n:=by omega
 simp only[hu,hs,aV]
 unfold AS.range
 rw[hb];simp[hl,e2]
end Go.Sv
