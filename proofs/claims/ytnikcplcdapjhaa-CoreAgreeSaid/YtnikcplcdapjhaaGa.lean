/- Rounds of agreement, without the program: what somebody does, as values. -/
import Derived.Test.YtnikcplcdapjhaaSv4
import Derived.Test.YtnikcplcdapjhaaSvBase
set_option linter.unusedSimpArgs false
set_option linter.unusedVariables false
open Nat renaming reduceLT → Q0, reduceBEq → Q1, reduceEqDiff → Q2, reduceAdd → Q3
open Int renaming reduceEq → Q4, reduceLT → Q5, reduceLE → Q6, reduceGT → Q7, reduceGE → Q8
namespace Go.Sv
def z32:Bts:=List.replicate 32 0
def n32:Bts:=List.replicate 31 0++[1]
theorem A30:z32≠n32:=by decide
theorem Ab2:z32.length=32:=by decide
theorem Ag3:n32.length=32:=by decide
structure Act where
 kind:Int
 round:Int
 num:Int
 valid:Int
 id:Bts
 deriving DecidableEq
structure Ofr where
 there:Bool
 valid:Int
 id:Bts
 deriving DecidableEq
abbrev Vt:=Nat->Nat->Nat->Bts
def v0:Vt:=fun _ _ _=>z32
def off0:Ofr:=⟨false,0,z32⟩
def fltsI (n:Int):Int:=if n≠1/\n≠4/\n≠7 then -1 else n.tdiv 3
def okN (n:Nat):Prop:=n=1∨n=4∨n=7
instance (n:Nat):Decidable (okN n):=by unfold okN;infer_instance
def flts (n:Nat):Nat:=n / 3
def need (n:Nat):Nat:=2 * (n / 3)+1
theorem AX7 {n:Nat} (h:okN n):fltsI n=flts n:=by rcases h with rfl | rfl | rfl <;> decide
theorem Bn0 {n:Int} (h:fltsI n < 0):¬ (n=1∨n=4∨n=7):=by
 intro q;rcases q with rfl | rfl | rfl <;> revert h <;> decide
theorem Bc0 {n:Int} (h:¬ fltsI n < 0):∃ m:Nat,n=m/\okN m:=by
 unfold fltsI at h
 split at h
 . omega
 . exact ⟨n.toNat,by omega,by unfold okN;omega⟩
def right (n:Nat) (r k w:Int):Prop:=0<=r/\r < 12/\(k=0∨k=1)/\0<=w/\w < n
instance (n:Nat) (r k w:Int):Decidable (right n r k w):=by unfold right;infer_instance
def putC (n:Nat) (v:Vt) (r k w:Int) (id:Bts):Int:=if ¬ right n r k w∨id=z32 then 1 else if v r.toNat k.toNat w.toNat≠z32 then 5 else 0
def setV (v:Vt) (r k w:Nat) (id:Bts):Vt:=fun a b c=>if a=r/\b=k/\c=w then id else v a b c
def putV (n:Nat) (v:Vt) (r k w:Int) (id:Bts):Vt:=if putC n v r k w id=0 then setV v r.toNat k.toNat w.toNat id else v
def getV (n:Nat) (v:Vt) (r k w:Int):Bts:=if right n r k w then v r.toNat k.toNat w.toNat else z32
def castL (n:Nat) (v:Vt) (r k:Nat):List (Nat×Bts):=((List.range n).map fun w=>(w,v r k w)).filter fun p=>p.2≠z32
def castI (n:Nat) (v:Vt) (r k:Int):List (Nat×Bts):=if right n r k 0 then castL n v r.toNat k.toNat else []
def forL (l:List (Nat×Bts)) (id:Bts):Nat:=l.countP fun p=>p.2=id
def forI (n:Nat) (v:Vt) (r k:Int) (id:Bts):Nat:=forL (castI n v r k) id
def allI (n:Nat) (v:Vt) (r k:Int):Nat:=(castI n v r k).length
def sureI (n:Nat) (v:Vt) (r k:Int):Option Bts:=((castI n v r k).find? fun p=>need n<=forI n v r k p.2).map (·.2)
def voted (v:Vt) (r w:Nat):Prop:=v r 0 w≠z32∨v r 1 w≠z32
instance (v:Vt) (r w:Nat):Decidable (voted v r w):=by unfold voted;infer_instance
def aheadW (n:Nat) (v:Vt) (r:Nat):(fuel w left:Nat)->Bool
 | 0,_,_=>false
 | k+1,w,left =>
  if voted v r w then (if left - 1=0 then true else if left - 1 > n - 1 - w then false else aheadW n v r k (w+1) (left - 1)) else aheadW n v r k (w+1) left
def aheadR (n:Nat) (v:Vt) (now:Int):Nat->Option Nat
 | 0=>none
 | r+1=>if (r:Int) > now then (if aheadW n v r n 0 (flts n+1) then some r else aheadR n v now r) else none
def aheadI (n:Nat) (v:Vt) (now:Int):Option Nat:=aheadR n v now 12
structure Rd where
 n:Nat
 me:Nat
 height:Int
 now:Int
 step:Int
 locked:Int
 valid:Int
 lock:Bts
 best:Bts
 fresh:Bts
 offers:Nat->Ofr
 known:List Bts
 v:Vt
 timed:Nat->Nat->Bool
 acts:List Act
def rd0 (n me:Nat) (height:Int):Rd:=⟨n,me,height,-1,3,0,0,z32,z32,z32,fun _=>off0,[],v0,fun _ _=>false,[]⟩
def proposer (n h r:Int):Int :=
 if n < 1∨h < 0∨r < 0 then 0 else if h.tmod n >= n - r.tmod n then h.tmod n - (n - r.tmod n) else h.tmod n+r.tmod n
def Rd.do_ (r:Rd) (a:Act):Rd:={ r with acts:=r.acts++[a] }
def set2 {α:Type} (f:Nat->Nat->α) (a b:Nat) (x:α):Nat->Nat->α:=fun i j=>if i=a/\j=b then x else f i j
def set1 {α:Type} (f:Nat->α) (a:Nat) (x:α):Nat->α:=fun i=>if i=a then x else f i
def Rd.timer (r:Rd) (step:Nat):Rd :=
 if r.timed r.now.toNat step=true then r else ({ r with timed:=set2 r.timed r.now.toNat step true }:Rd).do_ ⟨3,r.now,step,0,z32⟩
def Rd.vote (r:Rd) (kind:Nat) (id:Bts):Rd :=
 let r1:=if putC r.n r.v r.now kind r.me id=0 then ({ r with v:=putV r.n r.v r.now kind r.me id }:Rd).do_ ⟨2,r.now,kind,0,id⟩ else r
 { r1 with step:=1+kind }
def Rd.begin (r:Rd) (round:Int):Rd :=
 if 12<=round then { r with step:=3 } else
 let r1:Rd:={ r with now:=round,step:=0 }
 if proposer r.n r.height round≠r.me then r1.timer 0 else
 let id:=if r.valid > 0 then r.best else r.fresh
 if (r.offers round.toNat).there=true then r1
 else if id=z32∨r.valid > 0/\¬ id∈r.known then r1.timer 0
 else ({ r1 with offers:=set1 r1.offers round.toNat ⟨true,r.valid,id⟩ }:Rd).do_ ⟨1,round,0,r.valid,id⟩
def Rd.sure (r:Rd) (round:Int) (kind:Int):Option Bts:=match sureI r.n r.v round kind with
 | some id=>if id=n32 then none else some id
 | none=>none
def Rd.agreed (r:Rd):Option (Nat×Bts):=(List.range 12).findSome? fun (k:Nat)=>match r.sure (k:Int) 1 with
 | some id=>if id∈r.known then some (k,id) else none
 | none=>none
def Rd.rest (r:Rd):Rd×Bool :=
 let last:Rd×Bool :=
  if r.step=1/\need r.n<=forI r.n r.v r.now 0 n32 then (r.vote 1 n32,true) else
  let r1:=if r.step=1/\need r.n<=allI r.n r.v r.now 0 then r.timer 1 else r
  (if need r.n<=allI r.n r.v r.now 1 then r1.timer 2 else r1,false)
 match r.sure r.now 0 with
 | some id=>if id∈r.known/\r.step >= 1/\r.valid≠r.now+1 then
  let r1:Rd:={ r with valid:=r.now+1,best:=id }
  (if r.step=1 then ({ r1 with locked:=r.now+1,lock:=id }:Rd).vote 1 id else r1,true)
  else last
 | none=>last
def Rd.choice (r:Rd) (o:Ofr):Option Bts :=
 if o.valid=0/\(r.locked=0∨r.lock=o.id) then some o.id
 else if o.valid > 0/\o.valid<=r.now then
  (if r.sure (o.valid - 1) 0≠some o.id then none else if r.locked<=o.valid∨r.lock=o.id then some o.id else some n32)
 else some n32
def Rd.rule (r:Rd):Rd×Bool :=
 if r.now < 0∨r.step=3 then (r,false) else
 match r.agreed with
 | some (k,id)=>(({ r with step:=3 }:Rd).do_ ⟨4,k,0,0,id⟩,true)
 | none =>
  match aheadI r.n r.v r.now with
  | some k=>(r.begin k,true)
  | none =>
   if r.step=0/\(r.offers r.now.toNat).there=true/\(r.offers r.now.toNat).id∈r.known then
    (match r.choice (r.offers r.now.toNat) with
    | some id=>(r.vote 0 id,true)
    | none=>r.rest)
   else r.rest
def Rd.rules:Nat->Rd->Rd
 | 0,r=>r
 | k+1,r=>if r.rule.2=true then Rd.rules k r.rule.1 else r.rule.1
def Rd.settle (r:Rd):Rd×List Act:=({ Rd.rules 1000 r with acts:=[] },(Rd.rules 1000 r).acts)
def Rd.Begin (r:Rd) (fresh:Bts):Rd×List Act :=
 if r.now >= 0 then r.settle else (({ r with fresh:=if fresh=z32 then r.fresh else fresh }:Rd).begin 0).settle
def Rd.Recall (r:Rd) (a:Act):Rd :=
 if a.round < 0∨a.round >= 12∨a.id=z32 then r
 else if a.kind=1 then (if (r.offers a.round.toNat).there=false/\a.valid >= 0/\a.valid<=a.round then { r with offers:=set1 r.offers a.round.toNat ⟨true,a.valid,a.id⟩ } else r)
 else if a.kind=2 then
  (if putC r.n r.v a.round a.num r.me a.id≠0 then r else
   let r1:Rd:={ r with v:=putV r.n r.v a.round a.num r.me a.id }
   if a.round < r.now then r1 else
   let r2:Rd:={ r1 with now:=a.round,step:=1+a.num }
   if a.num=1/\a.id≠n32 then { r2 with locked:=a.round+1,lock:=a.id,valid:=a.round+1,best:=a.id } else r2)
 else r
def Rd.Remember (r:Rd) (id:Bts):Rd:=if id≠z32/\¬ id∈r.known/\r.known.length < 32 then { r with known:=r.known++[id] } else r
def Rd.Know (r:Rd) (id:Bts):Rd×List Act:=(r.Remember id).settle
def Rd.Offered (r:Rd) (round valid:Int) (id:Bts):Rd×List Act :=
 (if 0<=round/\round < 12/\0<=valid/\valid<=round/\id≠z32/\id≠n32/\(r.offers round.toNat).there=false then ({ r with offers:=set1 r.offers round.toNat ⟨true,valid,id⟩ }:Rd) else r).settle
def Rd.Voted (r:Rd) (round kind who:Int) (id:Bts):Rd×List Act :=
 (if who≠r.me then ({ r with v:=putV r.n r.v round kind who id }:Rd) else r).settle
def Rd.Timeout (r:Rd) (round step:Int):Rd×List Act :=
 (if round=r.now/\r.step≠3 then
  (if step=0/\r.step=0 then r.vote 0 n32 else if step=1/\r.step=1 then r.vote 1 n32 else if step=2 then r.begin (round+1) else r)
 else r).settle
structure RIn where
 kind:Int
 round:Int
 num:Int
 who:Int
 valid:Int
 id:Bts
def Rd.give (r:Rd) (i:RIn):Rd×List Act :=
 if i.kind=0 then r.Begin i.id else if i.kind=1 then r.Know i.id else if i.kind=2 then r.Offered i.round i.valid i.id
 else if i.kind=3 then r.Voted i.round i.num i.who i.id else if i.kind=4 then r.Timeout i.round i.num
 else if i.kind=5 then ({ r with fresh:=i.id },[]) else if i.kind=7 then (r.Remember i.id,[])
 else if i.kind=6 then (r.Recall ⟨i.who,i.round,i.num,i.valid,i.id⟩,[]) else (r,[])
end Go.Sv
namespace Go.Sv
def sureN (n:Nat) (v:Vt) (r k:Int):Option Bts:=match sureI n v r k with
 | some id=>if id=n32 then none else some id
 | none=>none
theorem Rd.sure_eq (r:Rd) (a k:Int):r.sure a k=sureN r.n r.v a k:=rfl
structure Led where
 v:Vt
 off:Nat->Bool
 tim:Nat->Nat->Bool
 lk:Int×Bts
 top:Int
 done:Bool
def Led.after (me:Nat) (s:Led) (a:Act):Led :=
 if a.kind=1 then { s with off:=set1 s.off a.round.toNat true }
 else if a.kind=2 then { s with v:=setV s.v a.round.toNat a.num.toNat me a.id,top:=a.round,lk:=if a.num=1/\a.id≠n32 then (a.round+1,a.id) else s.lk }
 else if a.kind=3 then { s with tim:=set2 s.tim a.round.toNat a.num.toNat true }
 else { s with done:=true }
inductive Led.ok (n me:Nat) (known:List Bts) (s:Led):Act->Prop where
 | send (R val:Int) (id:Bts) (h:s.done=false) (h1:0<=R) (h2:R < 12) (h3:s.off R.toNat=false):Led.ok n me known s ⟨1,R,0,val,id⟩
 | vote (R K:Int) (id:Bts) (h:s.done=false) (h1:putC n s.v R K me id=0) (h2:s.top<=R)
  (h3:id=n32∨(K=1/\sureN n s.v R 0=some id)∨(K=0/\s.lk.1<=R/\(s.lk.1=0∨s.lk.2=id∨∃ k:Int,s.lk.1 - 1<=k/\k < R/\0<=k/\sureN n s.v k 0=some id))) (h4:K=0->s.v R.toNat 1 me=z32):Led.ok n me known s ⟨2,R,K,0,id⟩
 | tim (R K:Int) (h:s.done=false) (h1:0<=R) (h2:R < 12) (h3:0<=K) (h4:K < 3) (h5:s.tim R.toNat K.toNat=false):Led.ok n me known s ⟨3,R,K,0,z32⟩
 | done (R:Int) (id:Bts) (h:s.done=false) (h1:sureN n s.v R 1=some id) (h2:id∈known):Led.ok n me known s ⟨4,R,0,0,id⟩
def Led.good (n me:Nat) (known:List Bts):Led->List Act->Prop
 | _,[]=>True
 | s,a::l=>s.ok n me known a/\Led.good n me known (s.after me a) l
theorem Led.good_app {n me:Nat} {known:List Bts}:∀ {s:Led} {l l':List Act},Led.good n me known s (l++l') ↔ Led.good n me known s l/\Led.good n me known (l.foldl (Led.after me) s) l'
 | s,[],l'=>by simp [Led.good]
 | s,a::l,l'=>by simp only [List.cons_append,Led.good,List.foldl_cons];rw [Led.good_app,and_assoc]
structure Mt (s:Led) (r:Rd):Prop where
 v:s.v=r.v
 off:∀ i,s.off i=(r.offers i).there
 tim:s.tim=r.timed
 lk:s.lk=(r.locked,r.lock)
 top:s.top<=r.now
 done:s.done=true->r.step=3/\0<=r.now
 nokn:z32 ∉ r.known
 okn:okN r.n
 me:r.me < r.n
 now:-1<=r.now/\r.now < 12
 neg:r.now < 0->r.step=3
 later:∀ (R K:Nat),r.now < R->r.v R K r.me=z32
 s0:r.step=0->∀ K,r.v r.now.toNat K r.me=z32
 s1:r.step=1->r.v r.now.toNat 1 r.me=z32
 lockle:r.locked<=r.now+1
 lock0:r.step=0->r.locked<=r.now
 lockp:0<=r.locked
def MA (s:Led) (r:Rd):Prop:=Led.good r.n r.me r.known s r.acts/\Mt (r.acts.foldl (Led.after r.me) s) r
theorem A31 {n:Nat} {v:Vt} {r k:Nat} {p:Nat×Bts} (h:p∈castL n v r k):p.2≠z32/\p.1 < n/\p.2=v r k p.1:=by
 unfold castL at h
 rw [List.mem_filter,List.mem_map]at h
 obtain ⟨⟨w,h1,rfl⟩,h2⟩:=h
 exact ⟨by simpa using h2,List.mem_range.1 h1,rfl⟩
theorem AI4 {n:Nat} {v:Vt} {r k:Int} {id:Bts} (h:sureI n v r k=some id):right n r k 0/\id≠z32/\need n<=forI n v r k id:=by
 unfold sureI at h
 rw [Option.map_eq_some_iff]at h
 obtain ⟨p,h1,rfl⟩:=h
 have h2:=List.find?_some h1
 have h3:=List.mem_of_find?_eq_some h1
 unfold castI at h3
 split at h3
 . rename_i q
   exact ⟨q,(A31 h3).1,by simpa using h2⟩
 . simp at h3
theorem Ag7 {n:Nat} {v:Vt} {r k:Int} {id:Bts} (h:sureN n v r k=some id):sureI n v r k=some id/\id≠n32:=by
 unfold sureN at h
 split at h
 . rename_i x hx
   split at h
   . simp at h
   . cases h;exact ⟨hx,‹_›⟩
 . simp at h
theorem At8 {n:Nat} {v:Vt} {now:Int}:∀ {r k:Nat},aheadR n v now r=some k->now < k/\k < r
 | 0,k,h=>by simp [aheadR]at h
 | r+1,k,h=>by
  unfold aheadR at h
  split at h
  . split at h
    . cases h;omega
    . have:=At8 h;omega
  . simp at h
section
variable {s:Led} {r:Rd}
theorem MA.snoc {a:Act} {r':Rd} (h:MA s r) (hn:r'.n=r.n) (hm:r'.me=r.me) (hk:r'.known=r.known) (ha:r'.acts=r.acts++[a])
 (ho:(r.acts.foldl (Led.after r.me) s).ok r.n r.me r.known a) (hM:Mt ((r.acts.foldl (Led.after r.me) s).after r.me a) r'):MA s r':=by
 unfold MA
 rw [hn,hm,hk,ha,Led.good_app,List.foldl_append]
 exact ⟨⟨h.1,ho,trivial⟩,hM⟩
theorem MA.same {r':Rd} (h:MA s r) (hn:r'.n=r.n) (hm:r'.me=r.me) (hk:r'.known=r.known) (ha:r'.acts=r.acts) (hM:Mt (r.acts.foldl (Led.after r.me) s) r'):MA s r':=by
 unfold MA
 rw [hn,hm,hk,ha]
 exact ⟨h.1,hM⟩
theorem MA.nodone (h:MA s r) (hs:r.step≠3∨r.now < 0):(r.acts.foldl (Led.after r.me) s).done=false:=by
 cases q:(r.acts.foldl (Led.after r.me) s).done with
 | false=>rfl
 | true=>have:=h.2.done q;omega
theorem Am1 (me:Nat) (s:Led) (R val:Int) (id:Bts):s.after me ⟨1,R,0,val,id⟩={ s with off:=set1 s.off R.toNat true }:=by simp [Led.after]
theorem Am2 (me:Nat) (s:Led) (R K:Int) (id:Bts):s.after me ⟨2,R,K,0,id⟩={ s with v:=setV s.v R.toNat K.toNat me id,top:=R,lk:=if K=1/\id≠n32 then (R+1,id) else s.lk }:=by simp [Led.after]
theorem Aq1 (me:Nat) (s:Led) (R K:Int):s.after me ⟨3,R,K,0,z32⟩={ s with tim:=set2 s.tim R.toNat K.toNat true }:=by simp [Led.after]
theorem Am3 (me:Nat) (s:Led) (R:Int) (id:Bts):s.after me ⟨4,R,0,0,id⟩={ s with done:=true }:=by simp [Led.after]
theorem MA.timer (h:MA s r) {k:Nat} (hk:k < 3) (h3:r.step≠3) (h0:0<=r.now):MA s (r.timer k)/\(r.timer k).step=r.step/\(r.timer k).now=r.now:=by
 unfold Rd.timer
 split
 . exact ⟨h,rfl,rfl⟩
 . rename_i q
   refine ⟨h.snoc rfl rfl rfl rfl (.tim _ _ (h.nodone (.inl h3)) h0 h.2.now.2 (by omega) (by omega) ?_) ?_,rfl,rfl⟩
   . rw [h.2.tim];simpa using q
   . rw [Aq1]
     have m:=h.2
     exact { m with tim:=by simp only [m.tim];rfl }
theorem MA.vote (h:MA s r) {k:Nat} (hk:k < 2) (hs:r.step=k) (h0:0<=r.now) {id:Bts} (hid:id≠z32)
 (h3:id=n32∨(k=1/\sureN r.n r.v r.now 0=some id)∨(k=0/\(r.locked=0∨r.lock=id∨∃ j:Int,r.locked - 1<=j/\j < r.now/\0<=j/\sureN r.n r.v j 0=some id))) :
 MA s (({ r with locked:=if k=1/\id≠n32 then r.now+1 else r.locked,lock:=if k=1/\id≠n32 then id else r.lock }:Rd).vote k id):=by
 have m:=h.2
 have hv:r.v r.now.toNat k r.me=z32:=by
  match k,hk with
  | 0,_=>exact m.s0 hs 0
  | 1,_=>exact m.s1 hs
 have hp:putC r.n r.v r.now k r.me id=0:=by
  unfold putC
  rw [if_neg,if_neg]
  . rw [Int.toNat_natCast,Int.toNat_natCast,hv];simp
  . rintro (q | q)
    . refine q ⟨h0, m.now.2, ?_, by omega, by have := m.me; omega⟩
      omega
    . exact hid q
 have nd:=h.nodone (.inl (fun q=>by rw [hs]at q;omega))
 unfold Rd.vote
 simp only []
 rw [if_pos hp]
 refine MA.snoc (a:=⟨2,r.now,k,0,id⟩) h rfl rfl rfl rfl (.vote _ _ _ nd (by rw [m.v];exact hp) m.top ?_ (fun q=>by rw [m.v];exact m.s0 (by omega) 1)) ?_
 . rw [m.v, m.lk]
   rcases h3 with q | ⟨q1,q2⟩ | ⟨q1,q2⟩
   . exact .inl q
   . exact .inr (.inl ⟨by omega,q2⟩)
   . exact .inr (.inr ⟨by omega,m.lock0 (by omega),q2⟩)
 . rw [Am2]
   have hpv:putV r.n r.v r.now k r.me id=setV r.v r.now.toNat k r.me id:=by unfold putV;rw [if_pos hp,Int.toNat_natCast,Int.toNat_natCast]
   have hk':((k:Int)=1/\id≠n32) ↔ (k=1/\id≠n32):=⟨fun q=>⟨by omega,q.2⟩,fun q=>⟨by omega,q.2⟩⟩
   refine { m with v:=?_,lk:=?_,top:=by show r.now<=r.now;omega,done:=?_,neg:=?_,later:=?_,s0:=?_,s1:=?_,lockle:=?_,lock0:=?_,lockp:=?_ }
   . show setV _ _ _ _ _ = putV _ _ _ _ _ _
     rw [hpv,m.v,Int.toNat_natCast]
   . show (if _ then _ else _) = (_, _)
     simp only [hk']
     split
     . rfl
     . exact m.lk
   . intro q
     have:(r.acts.foldl (Led.after r.me) s).done=true:=q
     rw [nd]at this;simp at this
   . intro q;have q:r.now < 0:=q;omega
   . intro R K q
     show putV _ _ _ _ _ _ R K r.me=z32
     have q:r.now < (R:Int):=q
     rw [hpv];unfold setV
     rw [if_neg (by omega)]
     exact m.later R K q
   . intro q
     have q:(1:Int)+k=0:=q
     omega
   . intro q
     have q:(1:Int)+k=1:=q
     show putV _ _ _ _ _ _ r.now.toNat 1 r.me=z32
     have hk0:k=0:=by omega
     rw [hpv];unfold setV
     rw [if_neg (by omega)]
     exact m.s0 (by omega) 1
   . have q : (if k = 1 /\ id ≠ n32 then r.now + 1 else r.locked) <= r.now + 1 := by
      split
      . exact Int.le_refl _
      . exact m.lockle
     exact q
   . intro q
     have q:(1:Int)+k=0:=q
     omega
   . have q : 0 <= (if k = 1 /\ id ≠ n32 then r.now + 1 else r.locked) := by
      have:=m.lockp
      split
      . exact Int.le_trans h0 (by exact Int.le_add_one (Int.le_refl _))
      . exact this
     exact q
theorem MA.vote0 (h:MA s r) {k:Nat} (hk:k < 2) (hs:r.step=k) (h0:0<=r.now) {id:Bts} (hid:id≠z32)
 (h3:id=n32∨(k=0/\(r.locked=0∨r.lock=id∨∃ j:Int,r.locked - 1<=j/\j < r.now/\0<=j/\sureN r.n r.v j 0=some id))):MA s (r.vote k id):=by
 have:=h.vote hk hs h0 hid (h3.imp (fun q=>q) .inr)
 have e:¬ (k=1/\id≠n32):=by rcases h3 with q | q <;> simp [q] <;> omega
 rw [if_neg e,if_neg e]at this
 exact this
theorem MA.begin (h:MA s r) {R:Int} (hR:r.now < R) (hs:r.step≠3∨r.now < 0) (hR0:0<=R) (h12:R >= 12->0<=r.now):MA s (r.begin R):=by
 have m:=h.2
 have nd:=h.nodone hs
 unfold Rd.begin
 split
 . rename_i q
   refine h.same rfl rfl rfl rfl { m with done:=fun q=>by rw [nd]at q;simp at q,neg:=fun _=>rfl,s0:=fun q=>by simp at q,s1:=fun q=>by simp at q,lock0:=fun q=>by simp at q }
 . rename_i q
   have m1:Mt (r.acts.foldl (Led.after r.me) s) { r with now:=R,step:=0 } :=
    { m with top := Int.le_trans m.top (by show r.now <= R; omega), done := fun q => by rw [nd] at q; simp at q, now := ⟨by show -1 <= R; omega, by show R < 12; omega⟩, neg := fun q => by have q : R < 0 := q; omega
             later:=fun a K w=>m.later a K (by have w:R < (a:Int):=w;omega),s0:=fun _ K=>by show r.v R.toNat K r.me=z32;exact m.later _ K (by omega),s1:=fun q=>by simp at q
             lockle:=by show r.locked<=R+1;have:=m.lockle;omega,lock0:=fun _=>by show r.locked<=R;have:=m.lockle;omega }
   have h1:MA s { r with now:=R,step:=0 }:=h.same rfl rfl rfl rfl m1
   simp only []
   generalize (if r.valid > 0 then r.best else r.fresh)=id
   split
   . exact (h1.timer (k:=0) (by omega) (by simp) hR0).1
   split
   . exact h1
   rename_i w
   split
   . exact (h1.timer (k:=0) (by omega) (by simp) hR0).1
   . refine h1.snoc rfl rfl rfl rfl (.send R _ _ nd hR0 (by omega) (by rw [m1.off]; simpa using w)) ?_
     rw [Am1]
     refine { m1 with off:=fun i=>?_ }
     show set1 _ _ _ i=(set1 r.offers _ _ i).there
     unfold set1
     split
     . rfl
     . exact m1.off i
theorem Bc1 {o:Ofr} {id:Bts} (h:r.choice o=some id):id=n32∨(id=o.id/\(r.locked=0∨r.lock=id∨∃ j:Int,r.locked - 1<=j/\j < r.now/\0<=j/\sureN r.n r.v j 0=some id)):=by
 unfold Rd.choice at h
 split at h
 . rename_i q
   cases h
   exact .inr ⟨rfl,q.2.imp (fun w=>w) .inl⟩
 split at h
 . rename_i q
   split at h
   . simp at h
   . rename_i w
     split at h
     . rename_i z
       cases h
       refine .inr ⟨rfl,?_⟩
       rcases z with z | z
       . refine .inr (.inr ⟨o.valid - 1, by omega, by omega, by omega, ?_⟩)
         rw [<- Rd.sure_eq];exact Decidable.not_not.1 w
       . exact .inr (.inl z)
     . cases h;exact .inl rfl
 . cases h;exact .inl rfl
theorem MA.rest (h:MA s r) (h3:r.step≠3) (h0:0<=r.now):MA s r.rest.1:=by
 have last:MA s (if r.step=1/\need r.n<=forI r.n r.v r.now 0 n32 then (r.vote 1 n32,true) else
  (if need r.n<=allI r.n r.v r.now 1 then (if r.step=1/\need r.n<=allI r.n r.v r.now 0 then r.timer 1 else r).timer 2 else (if r.step=1/\need r.n<=allI r.n r.v r.now 0 then r.timer 1 else r),false):Rd×Bool).1:=by
  split
  . rename_i q
    exact h.vote0 (k:=1) (by omega) q.1 h0 (fun q=>A30 q.symm) (.inl rfl)
  . have h1 : MA s (if r.step = 1 /\ need r.n <= allI r.n r.v r.now 0 then r.timer 1 else r) /\ (if r.step = 1 /\ need r.n <= allI r.n r.v r.now 0 then r.timer 1 else r).step = r.step /\ (if r.step = 1 /\ need r.n <= allI r.n r.v r.now 0 then r.timer 1 else r).now = r.now := by
     split
     . exact h.timer (by omega) h3 h0
     . exact ⟨h,rfl,rfl⟩
    show MA s (if _ then _ else _)
    split
    . exact (h1.1.timer (k:=2) (by omega) (by rw [h1.2.1];exact h3) (by rw [h1.2.2];exact h0)).1
    . exact h1.1
 unfold Rd.rest
 simp only []
 split
 . rename_i id hid
   rw [Rd.sure_eq]at hid
   split
   . rename_i q
     have h1:MA s { r with valid:=r.now+1,best:=id }:=h.same rfl rfl rfl rfl { h.2 with }
     show MA s (if _ then _ else _)
     split
     . rename_i w
       have hn:=(Ag7 hid).2
       have:=h1.vote (k:=1) (by omega) w h0 (id:=id) (AI4 (Ag7 hid).1).2.1 (.inr (.inl ⟨rfl,hid⟩))
       rw [if_pos ⟨rfl,hn⟩,if_pos ⟨rfl,hn⟩]at this
       exact this
     . exact h1
   . exact last
 . exact last
theorem AX8 {k:Nat} {id:Bts} (h:r.agreed=some (k,id)):sureN r.n r.v k 1=some id/\id∈r.known/\k < 12:=by
 unfold Rd.agreed at h
 obtain ⟨j,h1,h2⟩:=List.exists_of_findSome?_eq_some h
 rw [Rd.sure_eq]at h2
 split at h2
 . rename_i x hx
   split at h2
   . cases h2;exact ⟨hx,‹_›,List.mem_range.1 h1⟩
   . simp at h2
 . simp at h2
theorem MA.rule (h:MA s r):MA s r.rule.1:=by
 unfold Rd.rule
 split
 . exact h
 rename_i q
 have h3:r.step≠3:=by omega
 have h0:0<=r.now:=by omega
 have m:=h.2
 split
 . rename_i k id hk
   obtain ⟨k1,k2,k3⟩:=AX8 hk
   refine h.snoc rfl rfl rfl rfl (.done _ _ (h.nodone (.inl h3)) (by rw [m.v];exact k1) k2) ?_
   rw [Am3]
   exact { m with done:=fun _=>⟨rfl,h0⟩,neg:=fun _=>rfl,s0:=fun q=>by simp [Rd.do_]at q,s1:=fun q=>by simp [Rd.do_]at q,lock0:=fun q=>by simp [Rd.do_]at q }
 . split
   . rename_i k hk
     have:=At8 hk
     exact h.begin this.1 (.inl h3) (by omega) (fun _=>h0)
   . split
     . rename_i w
       split
       . rename_i id hid
         rcases Bc1 hid with e | ⟨e,e2⟩
         . exact h.vote0 (k:=0) (by omega) w.1 h0 (fun z=>A30 (by rw [<- z,e])) (.inl e)
         . exact h.vote0 (k:=0) (by omega) w.1 h0 (fun z=>m.nokn (by rw [<- z,e];exact w.2.2)) (.inr ⟨rfl,e2⟩)
       . exact h.rest h3 h0
     . exact h.rest h3 h0
theorem MA.rules:∀ {k:Nat} {r:Rd},MA s r->MA s (Rd.rules k r)
 | 0,r,h=>h
 | k+1,r,h=>by
  unfold Rd.rules
  split
  . exact MA.rules h.rule
  . exact h.rule
end
end Go.Sv
namespace Go.Sv
structure Kp (r r':Rd):Prop where
 n:r'.n=r.n
 me:r'.me=r.me
 height:r'.height=r.height
 known:r'.known=r.known
theorem Kp.rfl' (r:Rd):Kp r r:=⟨rfl,rfl,rfl,rfl⟩
theorem Kp.trans {a b c:Rd} (h:Kp a b) (k:Kp b c):Kp a c:=⟨k.n.trans h.n,k.me.trans h.me,k.height.trans h.height,k.known.trans h.known⟩
theorem AB9 (r:Rd) (k:Nat):Kp r (r.timer k):=by unfold Rd.timer;split <;> exact ⟨rfl,rfl,rfl,rfl⟩
theorem At9 (r:Rd) (k:Nat) (id:Bts):Kp r (r.vote k id):=by unfold Rd.vote;simp only [];split <;> exact ⟨rfl,rfl,rfl,rfl⟩
theorem Au8 (r:Rd) (R:Int):Kp r (r.begin R):=by
 unfold Rd.begin
 split
 . exact ⟨rfl,rfl,rfl,rfl⟩
 . simp only []
   have h1:Kp r { r with now:=R,step:=0 }:=⟨rfl,rfl,rfl,rfl⟩
   generalize (if r.valid > 0 then r.best else r.fresh)=id
   split
   . exact h1.trans (AB9 _ _)
   split
   . exact h1
   split
   . exact h1.trans (AB9 _ _)
   . exact ⟨rfl,rfl,rfl,rfl⟩
theorem Bc2 (r:Rd):Kp r r.rest.1:=by
 unfold Rd.rest
 simp only []
 have last:Kp r (if r.step=1/\need r.n<=forI r.n r.v r.now 0 n32 then (r.vote 1 n32,true) else
  (if need r.n<=allI r.n r.v r.now 1 then (if r.step=1/\need r.n<=allI r.n r.v r.now 0 then r.timer 1 else r).timer 2 else (if r.step=1/\need r.n<=allI r.n r.v r.now 0 then r.timer 1 else r),false):Rd×Bool).1:=by
  split
  . exact At9 _ _ _
  . have h1 : Kp r (if r.step = 1 /\ need r.n <= allI r.n r.v r.now 0 then r.timer 1 else r) := by
     split
     . exact AB9 _ _
     . exact .rfl' r
    show Kp r (if _ then _ else _)
    split
    . exact h1.trans (AB9 _ _)
    . exact h1
 split
 . split
   . show Kp r (if _ then _ else _)
     split
     . exact Kp.trans (b:={ r with valid:=r.now+1,best:=_,locked:=r.now+1,lock:=_ }) ⟨rfl,rfl,rfl,rfl⟩ (At9 _ _ _)
     . exact ⟨rfl,rfl,rfl,rfl⟩
   . exact last
 . exact last
theorem Bc3 (r:Rd):Kp r r.rule.1:=by
 unfold Rd.rule
 split
 . exact .rfl' r
 split
 . exact ⟨rfl,rfl,rfl,rfl⟩
 split
 . exact Au8 _ _
 split
 . split
   . exact At9 _ _ _
   . exact Bc2 r
 . exact Bc2 r
theorem AL8:∀ (k:Nat) (r:Rd),Kp r (Rd.rules k r)
 | 0,r=>.rfl' r
 | k+1,r=>by
  unfold Rd.rules
  split
  . exact (Bc3 r).trans (AL8 k _)
  . exact Bc3 r
section
variable {s:Led} {r:Rd}
theorem Mt.ma (h:Mt s r) (ha:r.acts=[]):MA s r:=by unfold MA;rw [ha];exact ⟨trivial,h⟩
structure Told (s:Led) (r:Rd) (x:Rd×List Act):Prop where
 good:Led.good r.n r.me r.known s x.2
 mt:Mt (x.2.foldl (Led.after r.me) s) x.1
 acts:x.1.acts=[]
 kp:Kp r x.1
theorem MA.settle (h:MA s r):Told s r r.settle:=by
 have h1:=h.rules (k:=1000)
 have k:=AL8 1000 r
 refine ⟨?_,?_,rfl,⟨k.n,k.me,k.height,k.known⟩⟩
 . have := h1.1
   rw [k.n,k.me,k.known]at this;exact this
 . have := h1.2
   rw [k.me]at this
   exact { this with }
theorem Told.of {x:Rd×List Act} {r':Rd} (h:Told s r' x) (k:Kp r r'):Told s r x:=by
 refine ⟨?_,?_,h.acts,k.trans h.kp⟩
 . have:=h.good;rw [k.n,k.me,k.known]at this;exact this
 . have:=h.mt;rw [k.me]at this;exact this
theorem Aj5 (h:r.now < 0) (ha:r.acts=[]):r.settle.2=[]/\r.settle.1=r:=by
 have e:Rd.rules 1000 r=r:=by
  show Rd.rules (999+1) r=r
  have:r.rule=(r,false):=by unfold Rd.rule;rw [if_pos (.inl h)]
  unfold Rd.rules;rw [this];simp
 unfold Rd.settle
 rw [e]
 exact ⟨ha,by rw [<- ha]⟩
theorem Ax4 {v:Vt} {a b c:Nat} {id:Bts} {x y z:Nat} (h:z≠c):setV v a b c id x y z=v x y z:=by unfold setV;rw [if_neg (by omega)]
theorem Ax5 {n:Nat} {v:Vt} {a b c:Int} {id:Bts} {x y z:Nat} (h:c≠z):putV n v a b c id x y z=v x y z:=by
 unfold putV
 split
 . rename_i q
   refine Ax4 fun w=>?_
   unfold putC at q
   split at q
   . simp at q
   . rename_i w2
     have:right n a b c:=by
      apply Decidable.not_not.1;intro w3;exact w2 (.inl w3)
     have:=this.2.2.2.1
     omega
 . rfl
def giveV (n me:Nat) (v:Vt) (i:RIn):Vt:=if i.kind=3/\i.who≠me then putV n v i.round i.num i.who i.id else v
theorem Mt.v_ (h:Mt s r) {v:Vt} (hv:∀ R K,v R K r.me=r.v R K r.me):Mt { s with v:=v } { r with v:=v } :=
 { h with v:=rfl,later:=fun R K q=>(hv R K).trans (h.later R K q),s0:=fun q K=>(hv _ K).trans (h.s0 q K),s1:=fun q=>(hv _ 1).trans (h.s1 q) }
theorem Ah3 (r:Rd) (id:Bts):(r.Remember id)={ r with known:=(r.Remember id).known }:=by unfold Rd.Remember;split <;> rfl
theorem Aq2 (h:z32 ∉ r.known) (id:Bts):z32 ∉ (r.Remember id).known:=by
 unfold Rd.Remember
 split
 . rename_i q
   show z32 ∉ r.known++[id]
   simp only [List.mem_append,List.mem_singleton,not_or]
   exact ⟨h,fun w=>q.1 w.symm⟩
 . exact h
def giveK (r:Rd) (i:RIn):List Bts:=if i.kind=1∨i.kind=7 then (r.Remember i.id).known else r.known
theorem BA2 (h:Mt s r) (ha:r.acts=[]) {i:RIn} (hi:i.kind≠6):∃ s1:Led,s1.v=giveV r.n r.me s.v i/\(∀ j,s.off j=true->s1.off j=true)/\s1.tim=s.tim/\s1.lk=s.lk/\s1.top=s.top/\s1.done=s.done /\
 Told s1 { r with known:=giveK r i } (r.give i)/\(r.now < 0->i.kind≠0->(r.give i).2=[]):=by
 unfold Rd.give giveV giveK
 by_cases h0:i.kind=0
 . rw [if_pos h0, if_neg (show ¬ (i.kind = 3 /\ i.who ≠ r.me) by intro q; omega), if_neg (show ¬ (i.kind = 1 ∨ i.kind = 7) by omega)]
   refine ⟨s,rfl,fun _ q=>q,rfl,rfl,rfl,rfl,?_,fun _ q=>absurd h0 q⟩
   unfold Rd.Begin
   split
   . exact (h.ma ha).settle
   . rename_i q
     have h1:MA s { r with fresh:=if i.id=z32 then r.fresh else i.id }:=(h.ma ha).same rfl rfl rfl rfl { (h.ma ha).2 with }
     have:=(h1.begin (R:=0) (by show r.now < 0;omega) (.inr (by show r.now < 0;omega)) (by omega) (by omega))
     exact this.settle.of (Kp.trans (b:={ r with fresh:=if i.id=z32 then r.fresh else i.id }) ⟨rfl,rfl,rfl,rfl⟩ (Au8 _ _))
 rw [if_neg h0]
 by_cases h1:i.kind=1
 . rw [if_pos h1, if_neg (show ¬ (i.kind = 3 /\ i.who ≠ r.me) by intro q; omega), if_pos (.inl h1)]
   have e:=Ah3 r i.id
   have hm:Mt s (r.Remember i.id):=by rw [e];exact { h with nokn:=Aq2 h.nokn i.id }
   have hac:(r.Remember i.id).acts=[]:=by rw [e];exact ha
   refine ⟨s,rfl,fun _ q=>q,rfl,rfl,rfl,rfl,?_,fun q _=>?_⟩
   . rw [<- e];exact (hm.ma hac).settle
   . exact (Aj5 (r:=r.Remember i.id) (by rw [e];exact q) hac).1
 rw [if_neg h1]
 by_cases h2:i.kind=2
 . rw [if_pos h2, if_neg (show ¬ (i.kind = 3 /\ i.who ≠ r.me) by intro q; omega), if_neg (show ¬ (i.kind = 1 ∨ i.kind = 7) by omega)]
   unfold Rd.Offered
   split
   . rename_i q
     have hm:Mt { s with off:=set1 s.off i.round.toNat true } { r with offers:=set1 r.offers i.round.toNat ⟨true,i.valid,i.id⟩ }:=by
      refine { h with off:=fun j=>?_ }
      show set1 s.off i.round.toNat true j=(set1 r.offers i.round.toNat ⟨true,i.valid,i.id⟩ j).there
      unfold set1;split
      . rfl
      . exact h.off j
     refine ⟨{ s with off:=set1 s.off i.round.toNat true },rfl,fun j w=>?_,rfl,rfl,rfl,rfl,(hm.ma ha).settle.of ⟨rfl,rfl,rfl,rfl⟩,fun w _=>(Aj5 (r:={ r with offers:=set1 r.offers i.round.toNat ⟨true,i.valid,i.id⟩ }) w ha).1⟩
     show set1 s.off i.round.toNat true j=true
     unfold set1;split
     . rfl
     . exact w
   . exact ⟨s,rfl,fun _ q=>q,rfl,rfl,rfl,rfl,(h.ma ha).settle,fun w _=>(Aj5 w ha).1⟩
 rw [if_neg h2]
 by_cases h3:i.kind=3
 . rw [if_pos h3, if_neg (show ¬ (i.kind = 1 ∨ i.kind = 7) by omega)]
   unfold Rd.Voted
   by_cases hw:i.who≠r.me
   . rw [if_pos hw, if_pos ⟨h3, hw⟩]
     have hm:Mt { s with v:=putV r.n s.v i.round i.num i.who i.id } { r with v:=putV r.n r.v i.round i.num i.who i.id }:=by
      rw [h.v];exact h.v_ fun R K=>Ax5 hw
     exact ⟨{ s with v:=putV r.n s.v i.round i.num i.who i.id },rfl,fun _ q=>q,rfl,rfl,rfl,rfl,(hm.ma ha).settle.of ⟨rfl,rfl,rfl,rfl⟩,fun w _=>(Aj5 (r:={ r with v:=putV r.n r.v i.round i.num i.who i.id }) w ha).1⟩
   . rw [if_neg hw, if_neg (by intro q; exact hw q.2)]
     exact ⟨s,rfl,fun _ q=>q,rfl,rfl,rfl,rfl,(h.ma ha).settle,fun w _=>(Aj5 w ha).1⟩
 rw [if_neg h3,if_neg (show ¬ (i.kind=3/\i.who≠r.me) from fun q=>h3 q.1)]
 by_cases h4:i.kind=4
 . rw [if_pos h4, if_neg (show ¬ (i.kind = 1 ∨ i.kind = 7) by omega)]
   refine ⟨s,rfl,fun _ q=>q,rfl,rfl,rfl,rfl,?_,fun w _=>?_⟩
   . unfold Rd.Timeout
     have hma:=h.ma ha
     split
     . rename_i q
       have hn0:0<=r.now:=by
        apply Int.not_lt.1;intro w;exact q.2 (h.neg w)
       split
       . rename_i w
         exact (hma.vote0 (k:=0) (by omega) w.2 hn0 (fun z=>A30 z.symm) (.inl rfl)).settle.of (At9 _ _ _)
       split
       . rename_i w
         exact (hma.vote0 (k:=1) (by omega) w.2 hn0 (fun z=>A30 z.symm) (.inl rfl)).settle.of (At9 _ _ _)
       split
       . exact (hma.begin (R:=i.round+1) (by omega) (.inl q.2) (by omega) (fun _=>hn0)).settle.of (Au8 _ _)
       . exact hma.settle
     . exact hma.settle
   . unfold Rd.Timeout
     rw [if_neg (fun q=>q.2 (h.neg w))]
     exact (Aj5 w ha).1
 rw [if_neg h4]
 by_cases h5:i.kind=5
 . rw [if_pos h5, if_neg (show ¬ (i.kind = 1 ∨ i.kind = 7) by omega)]
   exact ⟨s,rfl,fun _ q=>q,rfl,rfl,rfl,rfl,⟨trivial,{ h with },ha,⟨rfl,rfl,rfl,rfl⟩⟩,fun _ _=>rfl⟩
 rw [if_neg h5]
 by_cases h7:i.kind=7
 . rw [if_pos h7, if_pos (.inr h7)]
   have e:=Ah3 r i.id
   refine ⟨s,rfl,fun _ q=>q,rfl,rfl,rfl,rfl,⟨trivial,?_,?_,?_⟩,fun _ _=>rfl⟩
   . show Mt s (r.Remember i.id)
     rw [e];exact { h with nokn:=Aq2 h.nokn i.id }
   . show (r.Remember i.id).acts = []
     rw [e];exact ha
   . show Kp _ (r.Remember i.id)
     rw [<- e];exact .rfl' _
 rw [if_neg h7,if_neg (show ¬ (i.kind=1∨i.kind=7) by omega),if_neg hi]
 exact ⟨s,rfl,fun _ q=>q,rfl,rfl,rfl,rfl,⟨trivial,h,ha,⟨rfl,rfl,rfl,rfl⟩⟩,fun _ _=>rfl⟩
end
def led0:Led:=⟨v0,fun _=>false,fun _ _=>false,(0,z32),-1,false⟩
theorem mt0 {n me:Nat} {height:Int} (hn:okN n) (hm:me < n):Mt led0 (rd0 n me height) :=
 { v := rfl, off := fun _ => rfl, tim := rfl, lk := rfl, top := by show (-1 : Int) <= -1; omega, done := fun q => by simp [led0] at q, nokn := by simp [rd0], okn := hn, me := hm, now := ⟨by show (-1 : Int) <= -1; omega, by show (-1 : Int) < 12; omega⟩
   neg:=fun _=>rfl,later:=fun _ _ _=>rfl,s0:=fun q=>by simp [rd0]at q,s1:=fun q=>by simp [rd0]at q,lockle:=by show (0:Int)<=-1+1;omega,lock0:=fun q=>by simp [rd0]at q,lockp:=by show (0:Int)<=0;omega }
end Go.Sv
namespace Go.Sv.Try
open Go Go.Proofs
def voteC (x:Bts):List V:=.bool (decide (x≠z32))::bc x
def rowV (n:Nat) (f:Nat->Bts):List V:=reps n fun w=>voteC (f w)
def offC (o:Ofr):List V:=.bool o.there::.int .i64 o.valid::bc o.id
def actC (a:Act):List V:=.int .i64 a.kind::.int .i64 a.round::.int .i64 a.num::.int .i64 a.valid::bc a.id
def timC (f:Nat->Bool):List V:=[.bool (f 0),.bool (f 1),.bool (f 2)]
def rdL (r:Rd) (kv av:V) (cp:Nat):List (List V) :=
 [[.int .i64 r.n],[.int .i64 r.me],[.int .i64 r.height],[.int .i64 r.now],[.int .i64 r.step],[.int .i64 r.locked],[.int .i64 r.valid],bc r.lock,bc r.best,bc r.fresh,
  reps 12 fun i=>offC (r.offers i),[kv],[.ptr cp 0],reps 12 fun i=>timC (r.timed i),[av]]
def encR (r:Rd) (kv av:V) (cp:Nat):List V:=(rdL r kv av cp).flatten
def eAct:Enc Act:=⟨36,true,fun _ cs x=>cs=actC x/\x.id.length=32,fun h=>by rw [h.1];simp [actC,Aa5,h.2],fun h=>by simp at h,fun h=>by rw [h.1];simp only [actC,List.all_cons,Ae6];rfl,fun _ h=>h⟩
theorem BO6 {m:Hp} {w:V} {x:Act}:eAct.W m w x ↔ w=.agg (actC x)/\x.id.length=32:=by
 unfold Enc.W;rw [if_pos (by rfl)]
 exact ⟨fun ⟨cs,h,h1,h2⟩=>⟨by rw [h,h1],h2⟩,fun ⟨h,h2⟩=>⟨_,h,rfl,h2⟩⟩
theorem BA3 {m:Hp} {w:V} {x:Bts}:eId.W m w x ↔ w=.agg (bc x)/\x.length=32:=Ch7
structure Rok (r:Rd):Prop where
 lock:r.lock.length=32
 best:r.best.length=32
 fresh:r.fresh.length=32
 offers:∀ i,(r.offers i).id.length=32
 v:∀ a b c,(r.v a b c).length=32
theorem Ad0 {o:Ofr} (h:o.id.length=32):(offC o).length=34:=by simp [offC,Aa5,h]
theorem AL9 (o:Ofr):(offC o).all V.one=true:=by simp only [offC,List.all_cons,Ae6];rfl
theorem Ar8 {a:Act} (h:a.id.length=32):(actC a).length=36:=by simp [actC,Aa5,h]
theorem Ak1 {x:Bts} (h:x.length=32):(voteC x).length=33:=by simp [voteC,Aa5,h]
theorem Bc4 (x:Bts):(voteC x).all V.one=true:=by simp only [voteC,List.all_cons,Ae6];rfl
theorem AC0 {r:Rd} {kv av:V} {cp:Nat} (h:Rok r):(rdL r kv av cp).map List.length=[1,1,1,1,1,1,1,32,32,32,408,1,1,36,1]:=by
 have h1:=Ae7 (n:=12) (k:=34) (f:=fun i=>offC (r.offers i)) (fun i _=>Ad0 (h.offers i))
 have h2:=Ae7 (n:=12) (k:=3) (f:=fun i=>timC (r.timed i)) (fun i _=>rfl)
 simp only [rdL,List.map_cons,List.map_nil,Aa5,h.lock,h.best,h.fresh,h1,h2,List.length_singleton]
theorem AC1 (b:Nat):evFieldAddr Try.prog 119 (.ptr b 0) 0=some (.ptr b 0)/\evFieldAddr Try.prog 119 (.ptr b 0) 1=some (.ptr b 1)/\evFieldAddr Try.prog 119 (.ptr b 0) 2=some (.ptr b 2)/\evFieldAddr Try.prog 119 (.ptr b 0) 3=some (.ptr b 3)/\evFieldAddr Try.prog 119 (.ptr b 0) 4=some (.ptr b 4)
 /\ evFieldAddr Try.prog 119 (.ptr b 0) 5=some (.ptr b 5)/\evFieldAddr Try.prog 119 (.ptr b 0) 6=some (.ptr b 6)/\evFieldAddr Try.prog 119 (.ptr b 0) 7=some (.ptr b 7)/\evFieldAddr Try.prog 119 (.ptr b 0) 8=some (.ptr b 39)/\evFieldAddr Try.prog 119 (.ptr b 0) 9=some (.ptr b 71)
 /\ evFieldAddr Try.prog 119 (.ptr b 0) 10=some (.ptr b 103)/\evFieldAddr Try.prog 119 (.ptr b 0) 11=some (.ptr b 511)/\evFieldAddr Try.prog 119 (.ptr b 0) 12=some (.ptr b 512)/\evFieldAddr Try.prog 119 (.ptr b 0) 13=some (.ptr b 513)/\evFieldAddr Try.prog 119 (.ptr b 0) 14=some (.ptr b 549) :=
 ⟨by kernel_rfl,by kernel_rfl,by kernel_rfl,by kernel_rfl,by kernel_rfl,by kernel_rfl,by kernel_rfl,by kernel_rfl,by kernel_rfl,by kernel_rfl,by kernel_rfl,by kernel_rfl,by kernel_rfl,by kernel_rfl,by kernel_rfl⟩
theorem B26 (b o:Nat):evFieldAddr Try.prog 85 (.ptr b o) 0=some (.ptr b o)/\evFieldAddr Try.prog 85 (.ptr b o) 1=some (.ptr b (o+1))/\evFieldAddr Try.prog 85 (.ptr b o) 2=some (.ptr b (o+2)):=⟨by kernel_rfl,by kernel_rfl,by kernel_rfl⟩
theorem BA4 (b o:Nat):evFieldAddr Try.prog 141 (.ptr b o) 0=some (.ptr b o)/\evFieldAddr Try.prog 141 (.ptr b o) 1=some (.ptr b (o+1)):=⟨by kernel_rfl,by kernel_rfl⟩
theorem Bn1 (b:Nat):evFieldAddr Try.prog 138 (.ptr b 0) 0=some (.ptr b 0)/\evFieldAddr Try.prog 138 (.ptr b 0) 1=some (.ptr b 1):=⟨by kernel_rfl,by kernel_rfl⟩
theorem Bb7 {b i:Nat} (hi:i < 12):evIndexAddr Try.prog 115 (.ptr b 103) (.int .i64 (i:Int))=some (.ptr b (103+i * 34)):=Aj4 Try.underlying115 BN8 hi
theorem Cb7 {b i:Nat} (hi:i < 12):evIndexAddr Try.prog 117 (.ptr b 513) (.int .i64 (i:Int))=some (.ptr b (513+i * 3)):=Aj4 Try.underlying117 Ca7 hi
theorem Cb8 {b i j:Nat} (hj:j < 3):evIndexAddr Try.prog 116 (.ptr b (513+i * 3)) (.int .i64 (j:Int))=some (.ptr b (513+i * 3+j)):=by
 have:=Aj4 (P:=Try.prog) (b:=b) (o:=513+i * 3) (k:=.i64) Try.underlying116 sz4 hj
 rw [Nat.mul_one]at this;exact this
theorem Bn2 {b i:Nat} (hi:i < 12):evIndexAddr Try.prog 136 (.ptr b 1) (.int .i64 (i:Int))=some (.ptr b (1+i * 2)):=Aj4 Try.underlying136 Cb0 hi
theorem By3 {b i j:Nat} (hj:j < 2):evIndexAddr Try.prog 135 (.ptr b (1+i * 2)) (.int .i64 (j:Int))=some (.ptr b (1+i * 2+j)):=by
 have:=Aj4 (P:=Try.prog) (b:=b) (o:=1+i * 2) (k:=.i64) Try.underlying135 B09 hj
 rw [Nat.mul_one]at this;exact this
theorem By4 {b n i:Nat} (hi:i < n):evIndexAddr Try.prog 134 (.sl b 0 n 33) (.int .i64 (i:Int))=some (.ptr b (i * 33)):=by
 have:=AQ3 (P:=Try.prog) (b:=b) (o:=0) (k:=.i64) (n:=n) Try.underlying134 By1 hi
 rw [Nat.zero_add]at this;exact this
section
variable {A A':AS} {rp cp:Nat} {r:Rd} {kv av:V} {k:BK}
theorem atR (h:Rok r) {i:Nat} {c:List V} (hi:(rdL r kv av cp)[i]?=some c):At (encR r kv av cp) (offs [1,1,1,1,1,1,1,32,32,32,408,1,1,36,1] i) c:=by
 have:=At.part hi;rw [AC0 h]at this;exact this
theorem Ao3 (hb:A.blk[rp]?=some ⟨encR r kv av cp,k⟩) (h:Rok r) :
 evLoad Try.prog 3 (.ptr rp 0) A=some (.int .i64 r.n)/\evLoad Try.prog 3 (.ptr rp 1) A=some (.int .i64 r.me)/\evLoad Try.prog 3 (.ptr rp 2) A=some (.int .i64 r.height)/\evLoad Try.prog 3 (.ptr rp 3) A=some (.int .i64 r.now)/\evLoad Try.prog 3 (.ptr rp 4) A=some (.int .i64 r.step)
 /\ evLoad Try.prog 3 (.ptr rp 5) A=some (.int .i64 r.locked)/\evLoad Try.prog 3 (.ptr rp 6) A=some (.int .i64 r.valid)/\evLoad Try.prog 23 (.ptr rp 7) A=some (.agg (bc r.lock))/\evLoad Try.prog 23 (.ptr rp 39) A=some (.agg (bc r.best))/\evLoad Try.prog 23 (.ptr rp 71) A=some (.agg (bc r.fresh))
 /\ evLoad Try.prog 25 (.ptr rp 511) A=some kv/\evLoad Try.prog 112 (.ptr rp 512) A=some (.ptr cp 0)/\evLoad Try.prog 79 (.ptr rp 549) A=some av :=
 ⟨(atR h (i:=0) rfl).load1 hb ag3,(atR h (i:=1) rfl).load1 hb ag3,(atR h (i:=2) rfl).load1 hb ag3,(atR h (i:=3) rfl).load1 hb ag3,(atR h (i:=4) rfl).load1 hb ag3,(atR h (i:=5) rfl).load1 hb ag3,(atR h (i:=6) rfl).load1 hb ag3,
  (atR h (i:=7) rfl).load hb AX5 AH3 (by rw [Aa5,h.lock]),(atR h (i:=8) rfl).load hb AX5 AH3 (by rw [Aa5,h.best]),(atR h (i:=9) rfl).load hb AX5 AH3 (by rw [Aa5,h.fresh]),
  (atR h (i:=11) rfl).load1 hb B19,(atR h (i:=12) rfl).load1 hb BO0,(atR h (i:=14) rfl).load1 hb B22⟩
theorem B10 (h:Rok r) {i:Nat} (hi:i < 12):At (encR r kv av cp) (103+i * 34) (offC (r.offers i)) :=
 (atR h (i:=10) rfl).trans (At.rep (f:=fun i=>offC (r.offers i)) (fun i _=>Ad0 (h.offers i)) hi)
theorem B11 (hb:A.blk[rp]?=some ⟨encR r kv av cp,k⟩) (h:Rok r) {i:Nat} (hi:i < 12) :
 evLoad Try.prog 85 (.ptr rp (103+i * 34)) A=some (.agg (offC (r.offers i)))/\evLoad Try.prog 4 (.ptr rp (103+i * 34)) A=some (.bool (r.offers i).there) :=
 ⟨(B10 h hi).load hb Ca4 BN8 (Ad0 (h.offers i)),
  ((B10 h hi).trans (o':=0) (m':=[.bool (r.offers i).there]) ⟨[],.int .i64 (r.offers i).valid::bc (r.offers i).id,rfl,rfl⟩).load1 hb ag4⟩
theorem Cb9 (h:Rok r) {i j:Nat} (hi:i < 12) (hj:j < 3):At (encR r kv av cp) (513+i * 3+j) [.bool (r.timed i j)]:=by
 refine ((atR h (i:=13) rfl).trans (At.rep (f:=fun i=>timC (r.timed i)) (k:=3) (fun i _=>rfl) hi)).trans ?_
 match j,hj with
 | 0,_=>exact ⟨[],[.bool (r.timed i 1),.bool (r.timed i 2)],rfl,rfl⟩
 | 1,_=>exact ⟨[.bool (r.timed i 0)],[.bool (r.timed i 2)],rfl,rfl⟩
 | 2,_=>exact ⟨[.bool (r.timed i 0),.bool (r.timed i 1)],[],rfl,rfl⟩
theorem Ce2 (hb:A.blk[rp]?=some ⟨encR r kv av cp,k⟩) (h:Rok r) {i j:Nat} (hi:i < 12) (hj:j < 3):evLoad Try.prog 4 (.ptr rp (513+i * 3+j)) A=some (.bool (r.timed i j)):=(Cb9 h hi hj).load1 hb ag4
theorem stR (hb:A.blk[rp]?=some ⟨encR r kv av cp,.var⟩) (h:Rok r) (i:Nat) {o:Nat} {c cs:List V} {t:TypeId} {x:V} {L':List (List V)} (hi:(rdL r kv av cp)[i]?=some c) (ho:offs [1,1,1,1,1,1,1,32,32,32,408,1,1,36,1] i=o) (hx:x.cells=some cs) (hl:cs.length=c.length)
 (hs:szT Try.prog t=some cs.length) (h1:cs.all V.one=true) (hL:(rdL r kv av cp).set i cs=L'):∃ A',evStore Try.prog t (.ptr rp o) x A=some A'/\Fr (·=.row rp) A A'/\A'.blk[rp]?=some ⟨L'.flatten,.var⟩:=by
 obtain ⟨A',k1,k2,k3,_⟩:=Bb6 (P:=Try.prog) (o:=o) (t:=t) (L:=rdL r kv av cp) hb hi (by rw [AC0 h];exact ho) hx hl hs h1
 exact ⟨A',k1,k2,by rw [k3,hL]⟩
theorem AB6 (hb:A.blk[rp]?=some ⟨encR r kv av cp,.var⟩) (h:Rok r) (n:Int) :
 (∃ A',evStore Try.prog 3 (.ptr rp 3) (.int .i64 n) A=some A'/\Fr (·=.row rp) A A'/\A'.blk[rp]?=some ⟨encR { r with now:=n } kv av cp,.var⟩)/\(∃ A',evStore Try.prog 3 (.ptr rp 4) (.int .i64 n) A=some A'/\Fr (·=.row rp) A A'/\A'.blk[rp]?=some ⟨encR { r with step:=n } kv av cp,.var⟩)
 /\ (∃ A',evStore Try.prog 3 (.ptr rp 5) (.int .i64 n) A=some A'/\Fr (·=.row rp) A A'/\A'.blk[rp]?=some ⟨encR { r with locked:=n } kv av cp,.var⟩)/\(∃ A',evStore Try.prog 3 (.ptr rp 6) (.int .i64 n) A=some A'/\Fr (·=.row rp) A A'/\A'.blk[rp]?=some ⟨encR { r with valid:=n } kv av cp,.var⟩) :=
 ⟨stR hb h 3 rfl rfl rfl rfl sz3 rfl rfl,stR hb h 4 rfl rfl rfl rfl sz3 rfl rfl,stR hb h 5 rfl rfl rfl rfl sz3 rfl rfl,stR hb h 6 rfl rfl rfl rfl sz3 rfl rfl⟩
theorem BO7 {x:Bts} (h:x.length=32):szT Try.prog 23=some (bc x).length:=by rw [Aa5,h];exact AH3
theorem BO8 (hb:A.blk[rp]?=some ⟨encR r kv av cp,.var⟩) (h:Rok r) {x:Bts} (hx:x.length=32) :
 (∃ A',evStore Try.prog 23 (.ptr rp 7) (.agg (bc x)) A=some A'/\Fr (·=.row rp) A A'/\A'.blk[rp]?=some ⟨encR { r with lock:=x } kv av cp,.var⟩)/\(∃ A',evStore Try.prog 23 (.ptr rp 39) (.agg (bc x)) A=some A'/\Fr (·=.row rp) A A'/\A'.blk[rp]?=some ⟨encR { r with best:=x } kv av cp,.var⟩)
 /\ (∃ A',evStore Try.prog 23 (.ptr rp 71) (.agg (bc x)) A=some A'/\Fr (·=.row rp) A A'/\A'.blk[rp]?=some ⟨encR { r with fresh:=x } kv av cp,.var⟩) :=
 ⟨stR hb h 7 rfl rfl rfl (by rw [Aa5,Aa5,hx,h.lock]) (BO7 hx) (Ae6 x) rfl,stR hb h 8 rfl rfl rfl (by rw [Aa5,Aa5,hx,h.best]) (BO7 hx) (Ae6 x) rfl,stR hb h 9 rfl rfl rfl (by rw [Aa5,Aa5,hx,h.fresh]) (BO7 hx) (Ae6 x) rfl⟩
theorem Ce3 (hb:A.blk[rp]?=some ⟨encR r kv av cp,.var⟩) (h:Rok r) {w:V} (hw:w.one=true) (l:List Bts):∃ A',evStore Try.prog 25 (.ptr rp 511) w A=some A'/\Fr (·=.row rp) A A'/\A'.blk[rp]?=some ⟨encR { r with known:=l } w av cp,.var⟩ :=
 stR hb h 11 rfl rfl (one_cells hw) rfl Cd2 (by simp [hw]) rfl
theorem Cc0 (hb:A.blk[rp]?=some ⟨encR r kv av cp,.var⟩) (h:Rok r) {w:V} (hw:w.one=true) (l:List Act):∃ A',evStore Try.prog 79 (.ptr rp 549) w A=some A'/\Fr (·=.row rp) A A'/\A'.blk[rp]?=some ⟨encR { r with acts:=l } kv w cp,.var⟩ :=
 stR hb h 14 rfl rfl (one_cells hw) rfl Cd7 (by simp [hw]) rfl
theorem B27 (hb:A.blk[rp]?=some ⟨encR r kv av cp,.var⟩) (h:Rok r) {o:Ofr} (ho:o.id.length=32) {i:Nat} (hi:i < 12) :
 ∃ A',evStore Try.prog 85 (.ptr rp (103+i * 34)) (.agg (offC o)) A=some A'/\Fr (·=.row rp) A A'/\A'.blk[rp]?=some ⟨encR { r with offers:=set1 r.offers i o } kv av cp,.var⟩:=by
 have hl:=Ad0 ho
 have h2:=(B10 (kv:=kv) (av:=av) (cp:=cp) h hi).le
 rw [Ad0 (h.offers i)]at h2
 obtain ⟨A',k1,k2,k3,_⟩:=Ac0 (P:=Try.prog) (t:=85) (o:=103+i * 34) (x:=.agg (offC o)) hb rfl (by rw [hl];exact BN8) (by rw [hl];exact h2) (AL9 o)
 refine ⟨A',k1,k2,?_⟩
 have a10:At (encR r kv av cp) 103 (reps 12 fun i=>offC (r.offers i)):=atR h (i:=10) rfl
 rw [k3,Ao1 a10 (by rw [hl,Ae7 (k:=34) (fun i _=>Ad0 (h.offers i))];omega),Ar7 (k:=34) (fun i _=>Ad0 (h.offers i)) hi hl]
 have e:=Ao2 (L:=rdL r kv av cp) (i:=10) (c':=reps 12 fun j=>if j=i then offC o else offC (r.offers j)) rfl (by
  rw [Ae7 (k:=34) (fun i _=>Ad0 (h.offers i)),Ae7 (k:=34)]
  intro j _;split
  . exact hl
  . exact Ad0 (h.offers j))
 rw [AC0 h]at e
 have e2:(reps 12 fun j=>if j=i then offC o else offC (r.offers j))=reps 12 fun j=>offC (set1 r.offers i o j):=Ak0 fun j _=>by unfold set1;split <;> rfl
 rw [e2]at e ⊢
 exact congrArg (fun c=>some (⟨c,.var⟩:Blk)) e
set_option maxRecDepth 4000 in
theorem Ce4 (hb:A.blk[rp]?=some ⟨encR r kv av cp,.var⟩) (h:Rok r) {i j:Nat} (hi:i < 12) (hj:j < 3) :
 ∃ A',evStore Try.prog 4 (.ptr rp (513+i * 3+j)) (.bool true) A=some A'/\Fr (·=.row rp) A A'/\A'.blk[rp]?=some ⟨encR { r with timed:=set2 r.timed i j true } kv av cp,.var⟩:=by
 have h2:=(Cb9 (kv:=kv) (av:=av) (cp:=cp) h hi hj).le
 obtain ⟨A',k1,k2,k3,_⟩:=Ac0 (P:=Try.prog) (t:=4) (o:=513+i * 3+j) (x:=.bool true) hb rfl sz4 h2 rfl
 refine ⟨A',k1,k2,?_⟩
 have h3:∀ i,i < 12->(timC (r.timed i)).length=3:=fun _ _=>rfl
 have a13:At (encR r kv av cp) 513 (reps 12 fun i=>timC (r.timed i)):=atR h (i:=13) rfl
 rw [k3,Nat.add_assoc,Ao1 a13 (by rw [Ae7 (k:=3) h3];simp;omega),Ao1 (At.rep (k:=3) h3 hi) (by show j+1<=3;omega)]
 have e0:putAt (timC (r.timed i)) j [.bool true]=timC (set2 r.timed i j true i):=by
  match j,hj with
  | 0,_=>simp [putAt,timC,set2]
  | 1,_=>simp [putAt,timC,set2]
  | 2,_=>simp [putAt,timC,set2]
 rw [e0,Ar7 (k:=3) h3 hi (by rfl)]
 have e:=Ao2 (L:=rdL r kv av cp) (i:=13) (c':=reps 12 fun a=>if a=i then timC (set2 r.timed i j true i) else timC (r.timed a)) rfl (by
  rw [Ae7 (k:=3) h3,Ae7 (k:=3)]
  intro a _;split <;> rfl)
 rw [AC0 h]at e
 have e2:(reps 12 fun a=>if a=i then timC (set2 r.timed i j true i) else timC (r.timed a))=reps 12 fun a=>timC (set2 r.timed i j true a):=Ak0 fun a _=>by
  split
  . rename_i q;rw [q]
  . rename_i q;unfold timC set2;simp [q]
 rw [e2]at e ⊢
 exact congrArg (fun c=>some (⟨c,.var⟩:Blk)) e
end
end Go.Sv.Try
namespace Go.Sv.Try
open Go Go.Proofs
def cntL (n:Nat) (vb:Nat->Nat):List (List V):=[[.int .i64 n],reps 24 fun j=>[.sl (vb j) 0 n 33]]
def encC (n:Nat) (vb:Nat->Nat):List V:=(cntL n vb).flatten
structure IsCnt (A:AS) (cp n:Nat) (v:Vt) (vb:Nat->Nat):Prop where
 box:A.blk[cp]?=some ⟨encC n vb,.var⟩
 row:∀ j,j < 24->A.blk[vb j]?=some ⟨rowV n (v (j / 2) (j % 2)),.arr (vb j) 0⟩
 sole:∀ j,j < 24->Sole A (vb j) (vb j)
 inj:∀ i j,i < 24->j < 24->vb i=vb j->i=j
 ok:okN n
 len:∀ a b c,(v a b c).length=32
def vbS (vb:Nat->Nat):Loc->Prop:=fun x=>∃ j,j < 24/\x=.row (vb j)
theorem IsCnt.fr {A A':AS} {cp n:Nat} {v:Vt} {vb:Nat->Nat} {S:Loc->Prop} (h:IsCnt A cp n v vb) (hf:Fr S A A') (h1:¬ S (.row cp)) (h2:∀ j,j < 24->¬ S (.row (vb j))/\¬ S (.fam (vb j))):IsCnt A' cp n v vb :=
 { h with box:=hf.row _ _ h.box h1,row:=fun j hj=>hf.row _ _ (h.row j hj) (h2 j hj).1,sole:=fun j hj=>(h.sole j hj).fr hf (h2 j hj).2 }
theorem IsCnt.fr0 {A A':AS} {cp n:Nat} {v:Vt} {vb:Nat->Nat} (h:IsCnt A cp n v vb) (hf:Fr S0 A A'):IsCnt A' cp n v vb:=h.fr hf (fun q=>q) fun _ _=>⟨fun q=>q,fun q=>q⟩
section
variable {A A':AS} {cp n:Nat} {v:Vt} {vb:Nat->Nat}
theorem AQ9:(cntL n vb).map List.length=[1,24]:=by
 have:=Ae7 (n:=24) (k:=1) (f:=fun j=>[V.sl (vb j) 0 n 33]) (fun _ _=>rfl)
 simp only [cntL,List.map_cons,List.map_nil,this,List.length_singleton]
theorem ldC (h:IsCnt A cp n v vb):evLoad Try.prog 3 (.ptr cp 0) A=some (.int .i64 n):=by
 have:=At.part (L:=cntL n vb) (i:=0) rfl
 rw [AQ9]at this
 exact At.load1 h.box this ag3
theorem ldS (h:IsCnt A cp n v vb) {i j:Nat} (hi:i < 12) (hj:j < 2):evLoad Try.prog 134 (.ptr cp (1+i * 2+j)) A=some (.sl (vb (i * 2+j)) 0 n 33):=by
 have h1:=At.part (L:=cntL n vb) (i:=1) rfl
 rw [AQ9]at h1
 have h2:=h1.trans (At.rep (n:=24) (k:=1) (f:=fun j=>[V.sl (vb j) 0 n 33]) (fun _ _=>rfl) (i:=i * 2+j) (by omega))
 rw [Nat.mul_one,show offs [1,24] 1+(i * 2+j)=1+i * 2+j by show 1+(i * 2+j)=_;omega]at h2
 exact At.load1 h.box h2 Ca9
theorem Bc5 (h:IsCnt A cp n v vb) {i j:Nat} (hi:i < 12) (hj:j < 2):A.blk[vb (i * 2+j)]?=some ⟨rowV n (v i j),.arr (vb (i * 2+j)) 0⟩:=by
 have:=h.row (i * 2+j) (by omega)
 rw [show (i * 2+j) / 2=i by omega,show (i * 2+j) % 2=j by omega]at this
 exact this
theorem atV {f:Nat->Bts} (hl:∀ w,(f w).length=32) {w:Nat} (hw:w < n):At (rowV n f) (w * 33) (voteC (f w)):=At.rep (f:=fun w=>voteC (f w)) (fun i _=>Ak1 (hl i)) hw
theorem ldV {b:Nat} {k:BK} {f:Nat->Bts} (hb:A.blk[b]?=some ⟨rowV n f,k⟩) (hl:∀ w,(f w).length=32) {w:Nat} (hw:w < n) :
 evLoad Try.prog 141 (.ptr b (w * 33)) A=some (.agg (voteC (f w)))/\evLoad Try.prog 4 (.ptr b (w * 33)) A=some (.bool (decide (f w≠z32)))/\evLoad Try.prog 23 (.ptr b (w * 33+1)) A=some (.agg (bc (f w))) :=
 ⟨(atV hl hw).load hb Cb1 By1 (Ak1 (hl w)),
  ((atV hl hw).trans (o':=0) (m':=[.bool (decide (f w≠z32))]) ⟨[],bc (f w),rfl,rfl⟩).load1 hb ag4,
  ((atV hl hw).trans (o':=1) (m':=bc (f w)) ⟨[.bool (decide (f w≠z32))],[],by simp [voteC],rfl⟩).load hb AX5 AH3 (by rw [Aa5,hl w])⟩
theorem Ao5:∃ w A',EvF Try.prog HH 51 [] A w A'/\w=.agg (bc n32)/\Fr S0 A A':=by
 refine Aa4 rfl Try.func51 (by unfold Try.f51;rfl) Try.ntmps51 (by unfold Try.f51;rfl) (by simp) ?_
 have b0:evBuild Try.prog 23 [(31,.int .u8 1)]=some (.agg (bc n32)):=by kernel_rfl
 obtain ⟨A2,s1,s2,s3,s4⟩:=Ai4 (P:=Try.prog) A (z:=bc z32) (t:=23) (x:=.agg (bc n32)) (cs:=bc n32) rfl AH3 rfl (Ae6 _)
 have zc:(zeroT Try.prog 23).bind V.cells=some (bc z32):=B17
 have ld:=At.load s3 (At.all _) AX5 AH3 rfl
 simp only [RT,Q0,Q1,Q2,Q3,Q4,Q5,Q6,Q7,Q8,zc,b0,s1,ld]
 exact s2
theorem Ao6 {n:Int} (h0:-9223372036854775808<=n) (h1:n<=9223372036854775807):∃ w A',EvF Try.prog HH 14 [.int .i64 n] A w A'/\A'=A/\w=.int .i64 (fltsI n):=by
 refine Aa4 rfl Try.func14 (by unfold Try.f14;rfl) Try.ntmps14 (by unfold Try.f14;rfl) (by simp) ?_
 unfold fltsI
 by_cases q1:n=1
 . subst q1;simp only [RT,Q0,Q1,Q2,Q3,Q4,Q5,Q6,Q7,Q8,AL6];rfl
 by_cases q4:n=4
 . subst q4;simp only [RT,Q0,Q1,Q2,Q3,Q4,Q5,Q6,Q7,Q8,AL6];rfl
 by_cases q7:n=7
 . subst q7;simp only [RT,Q0,Q1,Q2,Q3,Q4,Q5,Q6,Q7,Q8,AL6];rfl
 have d1:decide (¬ n=1)=true:=decide_eq_true q1
 have d4:decide (¬ n=4)=true:=decide_eq_true q4
 have d7:decide (¬ n=7)=true:=decide_eq_true q7
 simp only [RT,Q0,Q1,Q2,Q3,Q4,Q5,Q6,Q7,Q8,d1,d4,d7]
 rw [if_pos ⟨q1,q4,q7⟩]
theorem Au9 {n:Nat} (h:okN n):∃ w A',EvF Try.prog HH 74 [.int .i64 (n:Int)] A w A'/\A'=A/\w=.int .i64 (need n):=by
 refine Aa4 rfl Try.func74 (by unfold Try.f74;rfl) Try.ntmps74 (by unfold Try.f74;rfl) (by simp) ?_
 simp only [RT,Q0,Q1,Q2,Q3,Q4,Q5,Q6,Q7,Q8]
 obtain ⟨_,_,k1,rfl,rfl⟩:=Ao6 (A:=A) (n:=n) (by omega) (by unfold okN at h;omega)
 refine Aa0 k1 ?_
 rw [AX7 h]
 simp only [RT,Q0,Q1,Q2,Q3,Q4,Q5,Q6,Q7,Q8]
 rcases h with rfl | rfl | rfl <;> rfl
theorem Ax6 (h:IsCnt A cp n v vb) (r k w:Int):∃ x A',EvF Try.prog HH 63 [.ptr cp 0,.int .i64 r,.int .i64 k,.int .i64 w] A x A'/\A'=A/\x=.bool (decide (right n r k w)):=by
 refine Aa4 rfl Try.func63 (by unfold Try.f63;rfl) Try.ntmps63 (by unfold Try.f63;rfl) (by simp) ?_
 have ld:=ldC h
 have fa:=(Bn1 cp).1
 simp only [RT,Q0,Q1,Q2,Q3,Q4,Q5,Q6,Q7,Q8]
 by_cases q1:0<=r
 rotate_left
 . have e : ¬ right n r k w := fun q => q1 q.1
   simp only [RT,Q0,Q1,Q2,Q3,Q4,Q5,Q6,Q7,Q8,decide_eq_false (show ¬ r >= 0 from q1),decide_eq_false e]
 by_cases q2:r < 12
 rotate_left
 . have e : ¬ right n r k w := fun q => q2 q.2.1
   simp only [RT,Q0,Q1,Q2,Q3,Q4,Q5,Q6,Q7,Q8,decide_eq_true (show r >= 0 from q1),decide_eq_false q2,decide_eq_false e]
 have d1:=decide_eq_true (show r >= 0 from q1)
 have d2:=decide_eq_true q2
 by_cases q3:k=0∨k=1
 rotate_left
 . have e : ¬ right n r k w := fun q => q3 q.2.2.1
   have d3:decide (k=0)=false:=decide_eq_false (by omega)
   have d4:decide (k=1)=false:=decide_eq_false (by omega)
   simp only [RT,Q0,Q1,Q2,Q3,Q4,Q5,Q6,Q7,Q8,d1,d2,d3,d4,decide_eq_false e]
 by_cases q4:0<=w
 rotate_left
 . have e : ¬ right n r k w := fun q => q4 q.2.2.2.1
   have d5:=decide_eq_false (show ¬ w >= 0 from q4)
   rcases q3 with rfl | rfl
   . simp only [RT,Q0,Q1,Q2,Q3,Q4,Q5,Q6,Q7,Q8,d1,d2,d5,decide_eq_false e]
   . simp only [RT,Q0,Q1,Q2,Q3,Q4,Q5,Q6,Q7,Q8,d1,d2,d5,decide_eq_false e]
 have d5:=decide_eq_true (show w >= 0 from q4)
 have e:(right n r k w)=(w < (n:Int)):=propext ⟨fun q=>q.2.2.2.2,fun q=>⟨q1,q2,q3,q4,q⟩⟩
 rcases q3 with rfl | rfl
 . simp only [RT,Q0,Q1,Q2,Q3,Q4,Q5,Q6,Q7,Q8,d1,d2,d5,fa,ld,e]
 . simp only [RT,Q0,Q1,Q2,Q3,Q4,Q5,Q6,Q7,Q8,d1,d2,d5,fa,ld,e]
end
end Go.Sv.Try
namespace Go.Sv.Try
open Go Go.Proofs
theorem Am4:evBuild Try.prog 23 []=some (.agg (bc z32)):=by kernel_rfl
theorem BO9 (g:Nat->V):evBuild Try.prog 141 [(0,.bool true),(1,.agg ((List.range 32).map g))]=some (.agg (.bool true::(List.range 32).map g)):=by kernel_rfl
theorem B28 {x:Bts} (h:x.length=32):evBuild Try.prog 141 [(0,.bool true),(1,.agg (bc x))]=some (.agg (.bool true::bc x)):=by
 obtain ⟨g,hg⟩:=Ac9 (l:=bc x) (n:=32) (by rw [Aa5,h])
 rw [hg];exact BO9 g
theorem BP0 (g:Nat->V) (n:Int):evBuild Try.prog 85 [(0,.bool true),(1,.int .i64 n),(2,.agg ((List.range 32).map g))]=some (.agg (.bool true::.int .i64 n::(List.range 32).map g)):=by kernel_rfl
theorem Bn3 {x:Bts} (h:x.length=32) (n:Int):evBuild Try.prog 85 [(0,.bool true),(1,.int .i64 n),(2,.agg (bc x))]=some (.agg (offC ⟨true,n,x⟩)):=by
 obtain ⟨g,hg⟩:=Ac9 (l:=bc x) (n:=32) (by rw [Aa5,h])
 unfold offC;simp only [];rw [hg];exact BP0 g n
theorem BP1 (g:Nat->V) (R v:Int):evBuild Try.prog 109 [(0,.int .i64 1),(1,.int .i64 R),(3,.int .i64 v),(4,.agg ((List.range 32).map g))]=some (.agg (.int .i64 1::.int .i64 R::.int .i64 0::.int .i64 v::(List.range 32).map g)):=by kernel_rfl
theorem BP2 {x:Bts} (h:x.length=32) (R v:Int):evBuild Try.prog 109 [(0,.int .i64 1),(1,.int .i64 R),(3,.int .i64 v),(4,.agg (bc x))]=some (.agg (actC ⟨1,R,0,v,x⟩)):=by
 obtain ⟨g,hg⟩:=Ac9 (l:=bc x) (n:=32) (by rw [Aa5,h])
 unfold actC;simp only [];rw [hg];exact BP1 g R v
theorem BP3 (g:Nat->V) (R k:Int):evBuild Try.prog 109 [(0,.int .i64 2),(1,.int .i64 R),(2,.int .i64 k),(4,.agg ((List.range 32).map g))]=some (.agg (.int .i64 2::.int .i64 R::.int .i64 k::.int .i64 0::(List.range 32).map g)):=by kernel_rfl
theorem B29 {x:Bts} (h:x.length=32) (R k:Int):evBuild Try.prog 109 [(0,.int .i64 2),(1,.int .i64 R),(2,.int .i64 k),(4,.agg (bc x))]=some (.agg (actC ⟨2,R,k,0,x⟩)):=by
 obtain ⟨g,hg⟩:=Ac9 (l:=bc x) (n:=32) (by rw [Aa5,h])
 unfold actC;simp only [];rw [hg];exact BP3 g R k
theorem B30 (R k:Int):evBuild Try.prog 109 [(0,.int .i64 3),(1,.int .i64 R),(2,.int .i64 k)]=some (.agg (actC ⟨3,R,k,0,z32⟩)):=by kernel_rfl
theorem BP4 (g:Nat->V) (R:Int):evBuild Try.prog 109 [(0,.int .i64 4),(1,.int .i64 R),(4,.agg ((List.range 32).map g))]=some (.agg (.int .i64 4::.int .i64 R::.int .i64 0::.int .i64 0::(List.range 32).map g)):=by kernel_rfl
theorem B31 {x:Bts} (h:x.length=32) (R:Int):evBuild Try.prog 109 [(0,.int .i64 4),(1,.int .i64 R),(4,.agg (bc x))]=some (.agg (actC ⟨4,R,0,0,x⟩)):=by
 obtain ⟨g,hg⟩:=Ac9 (l:=bc x) (n:=32) (by rw [Aa5,h])
 unfold actC;simp only [];rw [hg];exact BP4 g R
theorem eqZ {x y:Bts} (hx:x.length=32) (hy:y.length=32):evEq Try.prog 23 (.agg (bc x)) (.agg (bc y))=some (decide (x=y)) :=
 A62 (n:=32) (by kernel_rfl) AX5 (by kernel_rfl) hx hy
theorem Ai5 {A:AS} {b:Nat} {k:BK} {x:Bts} (h:A.blk[b]?=some ⟨bc x,k⟩) (hx:x.length=32):evLoad Try.prog 23 (.ptr b 0) A=some (.agg (bc x)):=At.load h (At.all _) AX5 AH3 (by rw [Aa5,hx])
theorem AM0 {A:AS} {x:Bts} (hx:x.length=32):∃ A',evStore Try.prog 23 (.ptr A.blk.length 0) (.agg (bc x)) (A.push ⟨bc z32,.var⟩)=some A'/\Fr S0 A A'/\A'.blk[A.blk.length]?=some ⟨bc x,.var⟩:=by
 obtain ⟨A2,s1,s2,s3,s4⟩:=Ai4 (P:=Try.prog) A (z:=bc z32) (t:=23) (x:=.agg (bc x)) (cs:=bc x) rfl (BO7 hx) (by rw [Aa5,Aa5,hx];rfl) (Ae6 _)
 exact ⟨A2,s1,s2,s3⟩
theorem AH4 {A:AS} {b:Nat} {x y:Bts} (h:A.blk[b]?=some ⟨bc x,.var⟩) (hx:x.length=32) (hy:y.length=32):∃ A',evStore Try.prog 23 (.ptr b 0) (.agg (bc y)) A=some A'/\Fr (·=.row b) A A'/\A'.blk[b]?=some ⟨bc y,.var⟩:=by
 obtain ⟨A',s1,s2,s3,s4⟩:=Ac0 (P:=Try.prog) (t:=23) (o:=0) (x:=.agg (bc y)) (cs:=bc y) h rfl (BO7 hy) (by rw [Aa5,Aa5];omega) (Ae6 _)
 exact ⟨A',s1,s2,by rw [s3,Ag5 (by rw [Aa5,Aa5,hx,hy])]⟩
theorem A32:(zeroT Try.prog 23).bind V.cells=some (bc z32):=B17
section
variable {A A':AS} {cp n:Nat} {v:Vt} {vb:Nat->Nat}
theorem Ao7 (hl:∀ a b c,(v a b c).length=32) (r k w:Int):(getV n v r k w).length=32:=by
 unfold getV;split
 . exact hl _ _ _
 . exact Ab2
set_option maxHeartbeats 4000000 in
theorem AM1 (h:IsCnt A cp n v vb) (r k w:Int):∃ x A',EvF Try.prog HH 49 [.ptr cp 0,.int .i64 r,.int .i64 k,.int .i64 w] A x A'/\Fr S0 A A'/\x=.agg (bc (getV n v r k w)):=by
 refine Aa4 rfl Try.func49 (by unfold Try.f49;rfl) Try.ntmps49 (by unfold Try.f49;rfl) (by simp) ?_
 simp only [RT,Q0,Q1,Q2,Q3,Q4,Q5,Q6,Q7,Q8,A32]
 obtain ⟨A1,e1,f1,r1,n1⟩:=Aa9 A (bc z32)
 rw [<- e1]
 have h1:=h.fr0 f1
 obtain ⟨_,_,k1,rfl,rfl⟩:=Ax6 h1 r k w
 refine Aa0 k1 ?_
 by_cases q:right n r k w
 rotate_left
 . obtain ⟨A2, s1, s2, s3⟩ := AH4 r1 Ab2 Ab2
   simp only [RT,Q0,Q1,Q2,Q3,Q4,Q5,Q6,Q7,Q8,decide_eq_false q,Am4,s1,Ai5 s3 Ab2]
   exact ⟨f1.row_ s2 (Nat.le_refl _),by unfold getV;rw [if_neg q]⟩
 obtain ⟨i,rfl⟩:=Int.eq_ofNat_of_zero_le q.1
 obtain ⟨w,rfl⟩:=Int.eq_ofNat_of_zero_le q.2.2.2.1
 obtain ⟨j,hj,rfl⟩:∃ j:Nat,j < 2/\k=j:=by rcases q.2.2.1 with rfl | rfl;exact ⟨0,by omega,rfl⟩;exact ⟨1,by omega,rfl⟩
 have hi:i < 12:=by have:=q.2.1;omega
 have hw:w < n:=by have:=q.2.2.2.2;omega
 have hrow:=Bc5 h1 hi hj
 have ld:=ldV hrow (fun w=>h1.len i j w) hw
 obtain ⟨A2,s1,s2,s3⟩:=AH4 r1 Ab2 (h.len i j w)
 simp only [RT,Q0,Q1,Q2,Q3,Q4,Q5,Q6,Q7,Q8,decide_eq_true q,Bn1 cp,Bn2 hi,By3 hj,ldS h1 hi hj,By4 hw,BA4 _ _,ld,s1,Ai5 s3 (h.len i j w)]
 exact ⟨f1.row_ s2 (Nat.le_refl _),by unfold getV;rw [if_pos q];rfl⟩
theorem Bn4 {f:Nat->Bts} (hl:∀ w,(f w).length=32) {w:Nat} (hw:w < n) {x:Bts} (hx:x.length=32) (hz:x≠z32):putAt (rowV n f) (w * 33) (.bool true::bc x)=rowV n (fun c=>if c=w then x else f c):=by
 have e:(.bool true::bc x:List V)=voteC x:=by unfold voteC;rw [decide_eq_true hz]
 unfold rowV
 rw [e,Ar7 (k:=33) (fun i _=>Ak1 (hl i)) hw (Ak1 hx)]
 exact Ak0 fun c _=>by by_cases q:c=w <;> simp [q]
set_option maxHeartbeats 4000000 in
theorem AM2 (hW:WF A) (h:IsCnt A cp n v vb) (r k w:Int) {id:Bts} (hid:id.length=32):∃ x A',EvF Try.prog HH 52 [.ptr cp 0,.int .i64 r,.int .i64 k,.int .i64 w,.agg (bc id)] A x A'/\Fr (vbS vb) A A'/\x=.int .i64 (putC n v r k w id)/\IsCnt A' cp n (putV n v r k w id) vb:=by
 refine Aa4 rfl Try.func52 (by unfold Try.f52;rfl) Try.ntmps52 (by unfold Try.f52;rfl) (by simp) ?_
 simp only [RT,Q0,Q1,Q2,Q3,Q4,Q5,Q6,Q7,Q8]
 obtain ⟨A1,e1,f1,r1,n1⟩:=Aa9 A (bc id)
 rw [<- e1]
 have h1:=h.fr0 f1
 obtain ⟨_,_,k1,hA,rfl⟩:=Ax6 h1 r k w
 rw [hA]at k1
 refine Aa0 k1 ?_
 have ld1:=Ai5 r1 hid
 have f1':Fr (vbS vb) A A1:=f1.mono fun _ q=>q.elim
 by_cases q:right n r k w
 rotate_left
 . have e : putC n v r k w id = 1 := by unfold putC; rw [if_pos (.inl q)]
   simp only [RT,Q0,Q1,Q2,Q3,Q4,Q5,Q6,Q7,Q8,decide_eq_false q]
   exact ⟨f1',by rw [e],by unfold putV;rw [e,if_neg (by omega)];exact h1⟩
 by_cases qz:id=z32
 . have e : putC n v r k w id = 1 := by unfold putC; rw [if_pos (.inr qz)]
   simp only [RT,Q0,Q1,Q2,Q3,Q4,Q5,Q6,Q7,Q8,decide_eq_true q,ld1,Am4,eqZ hid Ab2,decide_eq_true qz]
   exact ⟨f1',by rw [e],by unfold putV;rw [e,if_neg (by omega)];exact h1⟩
 obtain ⟨i,rfl⟩:=Int.eq_ofNat_of_zero_le q.1
 obtain ⟨w,rfl⟩:=Int.eq_ofNat_of_zero_le q.2.2.2.1
 obtain ⟨j,hj,rfl⟩:∃ j:Nat,j < 2/\k=j:=by rcases q.2.2.1 with rfl | rfl;exact ⟨0,by omega,rfl⟩;exact ⟨1,by omega,rfl⟩
 have hi:i < 12:=by have:=q.2.1;omega
 have hw:w < n:=by have:=q.2.2.2.2;omega
 have hrow:=Bc5 h1 hi hj
 have hl:=fun w=>h1.len i j w
 have ld:=ldV hrow hl hw
 have e0:putC n v i j w id=if v i j w≠z32 then 5 else 0:=by
  unfold putC;rw [if_neg (by rintro (z | z);exact z q;exact qz z)];rfl
 by_cases qc:v i j w≠z32
 . rw [if_pos qc] at e0
   simp only [RT,Q0,Q1,Q2,Q3,Q4,Q5,Q6,Q7,Q8,decide_eq_true q,ld1,Am4,eqZ hid Ab2,decide_eq_false qz,Bn1 cp,Bn2 hi,By3 hj,ldS h1 hi hj,By4 hw,BA4 _ _,ld,decide_eq_true qc]
   exact ⟨f1',by rw [e0],by unfold putV;rw [e0,if_neg (by omega)];exact h1⟩
 . rw [if_neg qc] at e0
   have hj24:i * 2+j < 24:=by omega
   have hat:=(atV hl hw).le
   rw [Ak1 (hl w)]at hat
   have hbl:(.bool true::bc id:List V).length=33:=by simp [Aa5,hid]
   obtain ⟨A2,s1,s2,s3,s4,s5⟩:=As9 (P:=Try.prog) (t:=141) (o:=w * 33) (x:=.agg (.bool true::bc id)) (h1.sole _ hj24) hrow rfl (by rw [hbl];exact By1) (by rw [hbl];exact hat) (by simp only [List.all_cons,Ae6];rfl)
   rw [Bn4 hl hw hid qz]at s3
   simp only [RT,Q0,Q1,Q2,Q3,Q4,Q5,Q6,Q7,Q8,decide_eq_true q,ld1,Am4,eqZ hid Ab2,decide_eq_false qz,Bn1 cp,Bn2 hi,By3 hj,ldS h1 hi hj,By4 hw,BA4 _ _,ld,decide_eq_false qc]
   rw [BM3,Aa2 (by rfl)]
   simp only [RT,Q0,Q1,Q2,Q3,Q4,Q5,Q6,Q7,Q8,ld1,Bn1 cp,Bn2 hi,By3 hj,ldS h1 hi hj,By4 hw,B28 hid,s1]
   have hne:∀ a,a < 24->a≠i * 2+j->vb a≠vb (i * 2+j):=fun a ha hne z=>hne (h.inj _ _ ha hj24 z)
   refine ⟨f1'.trans s2 fun z q=>.inl (by subst q;exact ⟨_,hj24,rfl⟩),by rw [e0],?_⟩
   have ev:putV n v i j w id=setV v i j w id:=by unfold putV;rw [e0,if_pos rfl];rfl
   rw [ev]
   have hbox:cp≠vb (i * 2+j):=fun z=>by have:=h1.box;rw [z,hrow]at this;simp at this
   refine { box:=s2.row _ _ h1.box (fun z=>hbox (by injection z)),row:=fun a ha=>?_,sole:=fun a ha=>?_,inj:=h.inj,ok:=h.ok,len:=fun a b c=>?_ }
   . by_cases z : a = i * 2 + j
     . subst z
       have e:setV v i j w id i j=fun c=>if c=w then id else v i j c:=by funext c;simp [setV]
       rw [show (i * 2+j) / 2=i by omega,show (i * 2+j) % 2=j by omega]
       show A2.blk[vb (i * 2+j)]?=some ⟨rowV n (setV v i j w id i j),_⟩
       rw [e];exact s3
     . have e : setV v i j w id (a / 2) (a % 2) = v (a / 2) (a % 2) := by funext c; unfold setV; rw [if_neg (by omega)]
       show A2.blk[vb a]?=some ⟨rowV n (setV v i j w id (a / 2) (a % 2)),_⟩
       rw [e]
       exact s2.row _ _ (h1.row a ha) (fun y=>hne a ha z (by injection y))
   . by_cases z : a = i * 2 + j
     . subst z;exact s5
     . exact (h1.sole a ha).fr s2 fun y=>by cases y
   . unfold setV; split
     . exact hid
     . exact h.len a b c
end
end Go.Sv.Try
namespace Go.Sv.Try
open Go Go.Proofs
def castP (f:Nat->Bts) (w:Nat):List (Nat×Bts):=((List.range w).map fun c=>(c,f c)).filter fun p=>p.2≠z32
theorem AI5 (f:Nat->Bts) (w:Nat):castP f (w+1)=castP f w++if f w≠z32 then [(w,f w)] else []:=by
 unfold castP
 rw [List.range_succ,List.map_append,List.filter_append]
 congr 1
 by_cases q:f w=z32 <;> simp [q]
theorem AD1 {f:Nat->Bts} {w:Nat} (h:f w≠z32):∀ n,w < n->(castP f n)[(castP f w).length]?=some (w,f w)
 | 0,hn=>by omega
 | n+1,hn=>by
  rw [AI5]
  rcases Nat.lt_or_ge w n with q | q
  . have := AD1 h n q
    rw [List.getElem?_append_left (List.getElem?_eq_some_iff.1 this).1];exact this
  . have : w = n := by omega
    subst this
    rw [List.getElem?_append_right (Nat.le_refl _),Nat.sub_self,if_pos h];rfl
section
variable {A A':AS} {cp n:Nat} {v:Vt} {vb:Nat->Nat}
theorem AD2 {r k:Int}:∃ w A',EvF Try.prog HH 76 [.ptr cp 0,.int .i64 r,.int .i64 k] A w A'/\Fr S0 A A'/\∃ x1 x2 x3,w=.fn 78 [] [.ptr x1 0,.ptr x2 0,.ptr x3 0]/\A'.blk[x1]?=some ⟨[.ptr cp 0],.var⟩/\A'.blk[x2]?=some ⟨[.int .i64 r],.var⟩/\A'.blk[x3]?=some ⟨[.int .i64 k],.var⟩:=by
 refine Aa4 rfl Try.func76 (by unfold Try.f76;rfl) Try.ntmps76 (by unfold Try.f76;rfl) (by simp) ?_
 simp only [RT,Q0,Q1,Q2,Q3,Q4,Q5,Q6,Q7,Q8]
 obtain ⟨A1,e1,f1,r1,n1⟩:=Aa9 A [.ptr cp 0]
 rw [<- e1]
 obtain ⟨A2,e2,f2,r2,n2⟩:=Aa9 A1 [.int .i64 r]
 rw [<- e2]
 obtain ⟨A3,e3,f3,r3,n3⟩:=Aa9 A2 [.int .i64 k]
 rw [<- e3]
 exact ⟨(f1.then0 f2).then0 f3,_,_,_,rfl,f3.row0 (f2.row0 r1),f3.row0 r2,r3⟩
def argC (A A1:AS) (args:List V) (p:Nat×Bts):Prop:=args=[.int .i64 (p.1:Int),.agg (bc p.2)]
theorem B32 {A:AS} {x:Bts} (hx:x.length=32):∃ A',evStore Try.prog 141 (.ptr A.blk.length 0) (.agg (voteC x)) (A.push ⟨voteC z32,.var⟩)=some A'/\Fr S0 A A'/\A'.blk[A.blk.length]?=some ⟨voteC x,.var⟩:=by
 obtain ⟨A2,s1,s2,s3,s4⟩:=Ai4 (P:=Try.prog) A (z:=voteC z32) (t:=141) (x:=.agg (voteC x)) (cs:=voteC x) rfl (by rw [Ak1 hx];exact By1) (by rw [Ak1 hx];rfl) (Bc4 _)
 exact ⟨A2,s1,s2,s3⟩
theorem Ce5:(zeroT Try.prog 141).bind V.cells=some (voteC z32):=by kernel_rfl
theorem Ce6 {A:AS} {b:Nat} {k:BK} {x:Bts} (h:A.blk[b]?=some ⟨voteC x,k⟩) (hx:x.length=32):evLoad Try.prog 4 (.ptr b 0) A=some (.bool (decide (x≠z32)))/\evLoad Try.prog 23 (.ptr b 1) A=some (.agg (bc x)) :=
 ⟨At.load1 h (o:=0) ⟨[],bc x,rfl,rfl⟩ ag4,At.load h (o:=1) ⟨[.bool (decide (x≠z32))],[],by simp [voteC],rfl⟩ AX5 AH3 (by rw [Aa5,hx])⟩
set_option maxHeartbeats 8000000 in
theorem AD3 {S:Loc->Prop} {x1 x2 x3:Nat} {r k:Int} (hw:WF A) (h:IsCnt A cp n v vb) (b1:A.blk[x1]?=some ⟨[.ptr cp 0],.var⟩) (b2:A.blk[x2]?=some ⟨[.int .i64 r],.var⟩) (b3:A.blk[x3]?=some ⟨[.int .i64 k],.var⟩) :
 GoesH Try.prog HH 78 [] [.ptr x1 0,.ptr x2 0,.ptr x3 0] A S S0 (fun b=>∃ j,j < 24/\b=vb j) (fun _=>True) argC (castI n v r k):=by
 intro lo J D hstep hJ0
 refine Aa4 rfl Try.func78 (by unfold Try.f78;rfl) Try.ntmps78 (by unfold Try.f78;rfl) (by simp) ?_
 have ld1:evLoad Try.prog 112 (.ptr x1 0) A=some (.ptr cp 0):=Ab0 BO0 b1
 have ld2:evLoad Try.prog 3 (.ptr x2 0) A=some (.int .i64 r):=Ab0 ag3 b2
 have ld3:evLoad Try.prog 3 (.ptr x3 0) A=some (.int .i64 k):=Ab0 ag3 b3
 simp only [RT,Q0,Q1,Q2,Q3,Q4,Q5,Q6,Q7,Q8,ld1,ld2,ld3]
 obtain ⟨_,_,k1,hA,rfl⟩:=Ax6 h r k 0
 rw [hA]at k1
 refine Aa0 k1 ?_
 by_cases q:right n r k 0
 rotate_left
 . simp only [RT, Q0, Q1, Q2, Q3, Q4, Q5, Q6, Q7, Q8, decide_eq_false q]
   refine ⟨.refl _ _,.inl ⟨A,?_,.refl _ _⟩⟩
   unfold castI;rw [if_neg q];exact hJ0
 obtain ⟨i,rfl⟩:=Int.eq_ofNat_of_zero_le q.1
 obtain ⟨j,hj,rfl⟩:∃ j:Nat,j < 2/\k=j:=by rcases q.2.2.1 with rfl | rfl;exact ⟨0,by omega,rfl⟩;exact ⟨1,by omega,rfl⟩
 have hi:i < 12:=by have:=q.2.1;omega
 have hrow:=Bc5 h hi hj
 have hl:=fun w=>h.len i j w
 have hxs:castI n v i j=castP (v i j) n:=by unfold castI;rw [if_pos q];rfl
 rw [hxs]at hstep ⊢
 have hln:∀ B,evLen Try.prog 134 (.sl (vb (i * 2+j)) 0 n 33) B=some (.int .i64 n):=fun B=>by unfold evLen;rw [Try.underlying134]
 simp only [RT,Q0,Q1,Q2,Q3,Q4,Q5,Q6,Q7,Q8,decide_eq_true q]
 rw [BN7,Aa2 (by rfl)]
 simp only [RT,Q0,Q1,Q2,Q3,Q4,Q5,Q6,Q7,Q8,ld1,ld2,ld3,Bn1 cp,Bn2 hi,By3 hj,ldS h hi hj,hln]
 refine Aa6 (fun z e B=>Fr S A B/\e.get 0=.yield lo/\e.get 19=.sl (vb (i * 2+j)) 0 n 33/\e.get 20=.int .i64 n/\B.blk[vb (i * 2+j)]?=some ⟨rowV n (v i j),.arr (vb (i * 2+j)) 0⟩/\∃ w:Nat,z=n - w/\w<=n/\e.get 21=.int .i64 w/\∃ A2,J (castP (v i j) w).length A2/\Fr S0 A2 B)
  (fun z e B=>Fr S A B/\(Is z (.exit 0)∨Is z .ret)/\((∃ A2,J (castP (v i j) n).length A2/\Fr S0 A2 B)∨∃ a A2,a < (castP (v i j) n).length/\D a A2/\Fr S0 A2 B))
  ⟨_,.refl _ _,rfl,rfl,rfl,hrow,0,rfl,by omega,rfl,A,by simpa [castP] using hJ0,.refl _ _⟩ ?_ ?_
 rotate_left
 . rintro z e B hz ⟨hf, rfl | rfl, hd⟩
   . simp only [RT, Q0, Q1, Q2, Q3, Q4, Q5, Q6, Q7, Q8]
     exact ⟨hf,by simpa using hd⟩
   . simp only [RT, Q0, Q1, Q2, Q3, Q4, Q5, Q6, Q7, Q8]
     exact ⟨hf,by simpa using hd⟩
 rintro z e B ⟨hf,h0,h19,h20,hB,w,rfl,hwn,h21,A2,hJ,h2⟩
 simp only [RT,Q0,Q1,Q2,Q3,Q4,Q5,Q6,Q7,Q8,h20,h21]
 refine Aa7 (fun g=>?_) (fun g=>?_)
 rotate_left
 . simp only [RT, Q0, Q1, Q2, Q3, Q4, Q5, Q6, Q7, Q8]
   have:w=n:=by omega
   subst this
   exact ⟨hf,.inl rfl,.inl ⟨A2,hJ,h2⟩⟩
 have hwlt:w < n:=by omega
 obtain ⟨g1,g2,g3⟩:=ldV hB hl hwlt
 obtain ⟨C,s1,s2,s3⟩:=B32 (A:=B) (hl w)
 have ldc:=Ce6 s3 (hl w)
 simp only [RT,Q0,Q1,Q2,Q3,Q4,Q5,Q6,Q7,Q8,h19,h21,By4 hwlt,g1,Ce5,s1,BA4 _ _,ldc]
 have hsucc:=AI5 (v i j) w
 by_cases qz:v i j w≠z32
 rotate_left
 . rw [if_neg qz, List.append_nil] at hsucc
   simp only [RT,Q0,Q1,Q2,Q3,Q4,Q5,Q6,Q7,Q8,decide_eq_false qz,h21]
   exact ⟨n - (w+1),by omega,hf.then0 s2,h0,h19,h20,s2.row0 hB,w+1,rfl,by omega,by rw [Ae4 (by have:=h.ok;unfold okN at this;omega)],A2,by rw [hsucc];exact hJ,h2.then0 s2⟩
 rw [if_pos qz]at hsucc
 obtain ⟨bo,E,z1,z2,z3,z4⟩:=hstep _ (w,v i j w) A2 C _ (AD1 qz n hwlt) hJ (h2.then0 s2) (hf.then0 s2) rfl
 simp only [RT,Q0,Q1,Q2,Q3,Q4,Q5,Q6,Q7,Q8,decide_eq_true qz,h0,BA4 _ _,ldc]
 refine ⟨_,E,z1,?_⟩
 simp only [RT,Q0,Q1,Q2,Q3,Q4,Q5,Q6,Q7,Q8]
 cases bo with
 | true =>
  obtain ⟨z5,z6⟩:=z3 rfl
  simp only [RT,Q0,Q1,Q2,Q3,Q4,Q5,Q6,Q7,Q8,h21]
  have hrE:=z6 (vb (i * 2+j)) ⟨_,by omega,rfl⟩
  rw [s2.row0 hB]at hrE
  exact ⟨n - (w+1),by omega,(hf.then0 s2).thn z2,h0,h19,h20,hrE,w+1,rfl,by omega,by rw [Ae4 (by have:=h.ok;unfold okN at this;omega)],E,by rw [hsucc,List.length_append];exact z5,.refl _ _⟩
 | false =>
  simp only [RT,Q0,Q1,Q2,Q3,Q4,Q5,Q6,Q7,Q8]
  have hlt:(castP (v i j) w).length < (castP (v i j) n).length:=(List.getElem?_eq_some_iff.1 (AD1 qz n hwlt)).1
  exact ⟨(hf.then0 s2).thn z2,.inr rfl,.inr ⟨_,E,hlt,z4 rfl,.refl _ _⟩⟩
end
end Go.Sv.Try
namespace Go.Sv.Try
open Go Go.Proofs
section
variable {A A':AS} {cp n:Nat} {v:Vt} {vb:Nat->Nat}
theorem AD4 {r k:Int} {p:Nat×Bts} (h:p∈castI n v r k):p.2=v r.toNat k.toNat p.1/\p.1 < n/\p.2≠z32:=by
 unfold castI at h
 split at h
 . have:=A31 h;exact ⟨this.2.2,this.2.1,this.1⟩
 . simp at h
theorem AR0 (n:Nat) (v:Vt) (r k:Int):(castI n v r k).length<=n:=by
 unfold castI
 split
 . unfold castL
   refine Nat.le_trans (List.length_filter_le _ _) ?_
   simp
 . simp
theorem BA5 (l:List (Nat×Bts)) (id:Bts):forL l id<=l.length:=List.countP_le_length
theorem Bc6 {l:List (Nat×Bts)} {i:Nat} {p:Nat×Bts} (h:l[i]?=some p) (id:Bts):forL (l.take (i+1)) id=forL (l.take i) id+if p.2=id then 1 else 0:=by
 rw [Ac4 h]
 unfold forL
 rw [List.countP_append]
 congr 1
 by_cases q:p.2=id <;> simp [q]
theorem IsCnt.keep {S:Loc->Prop} {B:AS} (h:IsCnt A cp n v vb) (hf:Fr S A B) (hs:∀ j,j < 24->¬ S (.row (vb j))) {b:Nat} (hb:∃ j,j < 24/\b=vb j):B.blk[b]?=A.blk[b]?:=by
 obtain ⟨j,hj,rfl⟩:=hb
 rw [h.row j hj];exact hf.row _ _ (h.row j hj) (hs j hj)
theorem IsCnt.lt (h:IsCnt A cp n v vb) {j:Nat} (hj:j < 24):vb j < A.blk.length:=Ac3 (h.row j hj)
theorem IsCnt.nevar (h:IsCnt A cp n v vb) {j:Nat} (hj:j < 24) {b:Nat} {cs:List V} (hb:A.blk[b]?=some ⟨cs,.var⟩):vb j≠b:=fun q=>by have:=h.row j hj;rw [q,hb]at this;simp at this
theorem IsCnt.small (h:IsCnt A cp n v vb):n<=7/\1<=n:=by have:=h.ok;unfold okN at this;omega
theorem IsCnt.nw (h:IsCnt A cp n v vb) {c:Nat->Prop} (hc:∀ b,c b->∃ cs,A.blk[b]?=some ⟨cs,.var⟩) {j:Nat} (hj:j < 24):¬ nwS c A.blk.length (.row (vb j)):=by
 have:=h.lt hj
 rintro (q | q)
 . obtain ⟨cs, hb⟩ := hc _ q
   exact h.nevar hj hb rfl
 . omega
set_option maxRecDepth 10000 in
set_option maxHeartbeats 8000000 in
theorem A68 {x1 x2 x3:Nat} {r k:Int} {id:Bts} (hw:WF A) (h:IsCnt A cp n v vb) (b1:A.blk[x1]?=some ⟨[.ptr cp 0],.var⟩) (b2:A.blk[x2]?=some ⟨[.int .i64 r],.var⟩) (b3:A.blk[x3]?=some ⟨[.int .i64 k],.var⟩) (hid:id.length=32) :
 ∃ w A',EvF Try.prog HH 77 [.fn 78 [] [.ptr x1 0,.ptr x2 0,.ptr x3 0],.agg (bc id)] A w A'/\Fr S0 A A'/\w=.int .i64 (forI n v r k id):=by
 refine Aa4 rfl Try.func77 (by unfold Try.f77;rfl) Try.ntmps77 (by unfold Try.f77;rfl) (by simp) ?_
 simp only [RT,Q0,Q1,Q2,Q3,Q4,Q5,Q6,Q7,Q8,zc3]
 obtain ⟨A1,e1,f1,r1,n1⟩:=Aa9 A (bc id)
 rw [<- e1]
 obtain ⟨A2,e2,f2,r2,n2⟩:=Aa9 A1 [.int .i64 0]
 rw [<- e2]
 obtain ⟨A3,s1,s2,s3,s4⟩:=Ai0 (P:=Try.prog) (t:=3) (x:=.int .i64 0) r2 rfl sz3 rfl
 simp only [RT,Q0,Q1,Q2,Q3,Q4,Q5,Q6,Q7,Q8,s1]
 have f3:Fr S0 A A3:=(f1.then0 f2).row_ s2 f1.len
 have w3:=f3.wf hw
 have h3:=h.fr0 f3
 have q3:A3.blk[A.blk.length]?=some ⟨bc id,.var⟩:=s2.rowNe (f2.row0 r1) (by omega)
 have ne:A.blk.length≠A1.blk.length:=by omega
 have hsm:=h.small
 have hcl:=AR0 n v r k
 refine AH1 (S:=nwS (·=A1.blk.length) A3.blk.length) (T:=S0) (K:=fun b=>∃ j,j < 24/\b=vb j) (Fin:=fun _=>True) (AR:=argC) (xs:=castI n v r k)
  (fun i B=>B.blk[A1.blk.length]?=some ⟨[.int .i64 (forL ((castI n v r k).take i) id)],.var⟩/\B.blk[A.blk.length]?=some ⟨bc id,.var⟩) (fun _ _=>False)
  rfl (fun q=>q) (fun q=>q) ?_ ⟨s3,q3⟩ ?_ (fun _ _ _ q=>q.elim)
  Try.func77 Try.ntmps77 (by simp) ?_ ?_ (fun _ _ _ q=>q.elim)
 . intro A0 hf0 hblk
   exact AD3 (S:=orLoop (nwS (·=A1.blk.length) A3.blk.length) A3.loops.length) (hf0.wf w3) (h3.fr0 hf0) (hf0.row0 (f3.row0 b1)) (hf0.row0 (f3.row0 b2)) (hf0.row0 (f3.row0 b3))
 . rintro i B C ⟨b1, b2⟩ hf
   exact ⟨hf.loop_row b1,hf.loop_row b2⟩
 . rintro i ⟨w, x⟩ B C args hi ⟨c1, c2⟩ hBC hf rfl
   refine ⟨_,rfl,?_⟩
   have hx:x.length=32:=by
    have e:x=v r.toNat k.toNat w:=(AD4 (List.mem_of_getElem? hi)).1
    rw [e];exact h.len _ _ _
   obtain ⟨D,t1,t2,t3⟩:=AM0 (A:=C) hx
   simp only [RT,Q0,Q1,Q2,Q3,Q4,Q5,Q6,Q7,Q8,A32,t1]
   refine ⟨rfl,t2.toNw,fun E hE=>?_⟩
   have g1:=hE.loop_row (t2.row0 (hBC.row0 c1))
   have g2:=hE.loop_row (t2.row0 (hBC.row0 c2))
   have g3:=hE.loop_row t3
   have hfE:Fr (orLoop (nwS (·=A1.blk.length) A3.blk.length) A3.loops.length) A3 E:=(hf.then0 t2).trans hE fun z q=>.inl (.inr q)
   have hnr:∀ j,j < 24->¬ orLoop (nwS (·=A1.blk.length) A3.blk.length) A3.loops.length (.row (vb j)):=fun j hj q=>q.elim (h3.nw (fun b q=>by subst q;exact ⟨_,s3⟩) hj) (fun q=>by cases q)
   have hft:=Bc6 hi id
   have hfl:=BA5 ((castI n v r k).take i) id
   rw [List.length_take]at hfl
   have ldn:evLoad Try.prog 3 (.ptr A1.blk.length 0) E=some (.int .i64 (forL ((castI n v r k).take i) id)):=Ab0 ag3 g1
   obtain ⟨G,u1,u2,u3,u4⟩:=Ai0 (P:=Try.prog) (t:=3) (x:=.int .i64 ((forL ((castI n v r k).take i) id+1:Nat):Int)) g1 rfl sz3 rfl
   simp only [RT,Q0,Q1,Q2,Q3,Q4,Q5,Q6,Q7,Q8,Ai5 g2 hid,Ai5 g3 hx,eqZ hid hx]
   by_cases q:id=x
   . rw [if_pos q.symm] at hft
     simp only [RT,Q0,Q1,Q2,Q3,Q4,Q5,Q6,Q7,Q8,decide_eq_true q,ldn,Ae4 (show forL ((castI n v r k).take i) id < 9223372036854775807 by omega),u1]
     refine ⟨u2.mono fun z q=>by subst q;exact .inl rfl,.inl ⟨rfl,⟨by rw [hft];exact u3,u2.rowNe g2 ne⟩,fun b hb=>?_⟩⟩
     rw [h3.keep ((hfE.trans u2) fun z q=>.inl (by subst q;exact .inl (.inl rfl))) hnr hb,h3.keep hf hnr hb]
   . rw [if_neg (fun z => q z.symm)] at hft
     simp only [RT,Q0,Q1,Q2,Q3,Q4,Q5,Q6,Q7,Q8,decide_eq_false q]
     refine ⟨.refl _ _,.inl ⟨rfl,⟨by rw [hft];exact g1,g2⟩,fun b hb=>?_⟩⟩
     rw [h3.keep hfE hnr hb,h3.keep hf hnr hb]
 . rintro B C ⟨c1, c2⟩ hBC hfin hf
   have hBC:Fr (·=.loop A3.loops.length) B C:=hBC.mono fun z q=>q.elim (fun q=>q.elim) (fun q=>q)
   have g1:=hBC.loop_row c1
   rw [List.take_length]at g1
   have ldn:evLoad Try.prog 3 (.ptr A1.blk.length 0) C=some (.int .i64 (forL (castI n v r k) id)):=Ab0 ag3 g1
   simp only [RT,Q0,Q1,Q2,Q3,Q4,Q5,Q6,Q7,Q8,ldn]
   exact ⟨f3.trans hf fun z q=>.inr (AQ6 f3 (fun b q=>by subst q;exact f1.len) q),rfl⟩
theorem A33 {r k:Int} {id:Bts} (hw:WF A) (h:IsCnt A cp n v vb) (hid:id.length=32):∃ w A',EvF Try.prog HH 73 [.ptr cp 0,.int .i64 r,.int .i64 k,.agg (bc id)] A w A'/\Fr S0 A A'/\w=.int .i64 (forI n v r k id):=by
 refine Aa4 rfl Try.func73 (by unfold Try.f73;rfl) Try.ntmps73 (by unfold Try.f73;rfl) (by simp) ?_
 simp only [RT,Q0,Q1,Q2,Q3,Q4,Q5,Q6,Q7,Q8]
 obtain ⟨A1,e1,f1,r1,n1⟩:=Aa9 A (bc id)
 rw [<- e1]
 simp only [RT,Q0,Q1,Q2,Q3,Q4,Q5,Q6,Q7,Q8,BN6,Aa1,Ai5 r1 hid]
 obtain ⟨_,A2,k1,k2,x1,x2,x3,rfl,k3,k4,k5⟩:=AD2 (A:=A1) (cp:=cp) (r:=r) (k:=k)
 refine Aa0 k1 ?_
 have f2:=f1.then0 k2
 obtain ⟨_,A3,m1,m2,rfl⟩:=A68 (id:=id) (f2.wf hw) (h.fr0 f2) k3 k4 k5 hid
 simp only [RT,Q0,Q1,Q2,Q3,Q4,Q5,Q6,Q7,Q8]
 refine ⟨Aa3 (ha:=rfl) rfl (Ai5 (k2.row0 r1) hid) rfl Aa1,?_⟩
 refine Aa0 m1 ?_
 simp only [RT,Q0,Q1,Q2,Q3,Q4,Q5,Q6,Q7,Q8,Aa1]
 exact f2.then0 m2
set_option maxRecDepth 10000 in
set_option maxHeartbeats 8000000 in
theorem AA3 {r k:Int} (hw:WF A) (h:IsCnt A cp n v vb):∃ w A',EvF Try.prog HH 75 [.ptr cp 0,.int .i64 r,.int .i64 k] A w A'/\Fr S0 A A'/\w=.int .i64 (allI n v r k):=by
 refine Aa4 rfl Try.func75 (by unfold Try.f75;rfl) Try.ntmps75 (by unfold Try.f75;rfl) (by simp) ?_
 simp only [RT,Q0,Q1,Q2,Q3,Q4,Q5,Q6,Q7,Q8,zc3]
 obtain ⟨A2,e2,f2,r2,n2⟩:=Aa9 A [.int .i64 0]
 rw [<- e2]
 obtain ⟨A3,s1,s2,s3,s4⟩:=Ai0 (P:=Try.prog) (t:=3) (x:=.int .i64 0) r2 rfl sz3 rfl
 simp only [RT,Q0,Q1,Q2,Q3,Q4,Q5,Q6,Q7,Q8,s1]
 have f3:Fr S0 A A3:=f2.row_ s2 (Nat.le_refl _)
 obtain ⟨_,A4,k1,k2,x1,x2,x3,rfl,k3,k4,k5⟩:=AD2 (A:=A3) (cp:=cp) (r:=r) (k:=k)
 refine Aa0 k1 ?_
 simp only [RT,Q0,Q1,Q2,Q3,Q4,Q5,Q6,Q7,Q8]
 have f4:=f3.then0 k2
 have w4:=f4.wf hw
 have h4:=h.fr0 f4
 have c4:=k2.row0 s3
 have hsm:=h.small
 have hcl:=AR0 n v r k
 refine AH1 (S:=nwS (·=A.blk.length) A4.blk.length) (T:=S0) (K:=fun b=>∃ j,j < 24/\b=vb j) (Fin:=fun _=>True) (AR:=argC) (xs:=castI n v r k)
  (fun i B=>i<=(castI n v r k).length->B.blk[A.blk.length]?=some ⟨[.int .i64 (i:Int)],.var⟩) (fun _ _=>False)
  rfl (fun q=>q) (fun q=>q) ?_ (fun _=>c4) ?_ (fun _ _ _ q=>q.elim)
  Try.func75 Try.ntmps75 (by simp) ?_ ?_ (fun _ _ _ q=>q.elim)
 . intro A0 hf0 hblk
   exact AD3 (S:=orLoop (nwS (·=A.blk.length) A4.blk.length) A4.loops.length) (hf0.wf w4) (h4.fr0 hf0) (hf0.row0 k3) (hf0.row0 k4) (hf0.row0 k5)
 . rintro i B C b1 hf hi
   exact hf.loop_row (b1 hi)
 . rintro i ⟨w, x⟩ B C args hi c1 hBC hf rfl
   refine ⟨_,rfl,?_⟩
   simp only [RT,Q0,Q1,Q2,Q3,Q4,Q5,Q6,Q7,Q8]
   refine ⟨rfl,.refl _ _,fun E hE=>?_⟩
   have hil:=(List.getElem?_eq_some_iff.1 hi).1
   have g1:=hE.loop_row (hBC.row0 (c1 (by omega)))
   have hfE:Fr (orLoop (nwS (·=A.blk.length) A4.blk.length) A4.loops.length) A4 E:=hf.trans hE fun z q=>.inl (.inr q)
   have hnr:∀ j,j < 24->¬ orLoop (nwS (·=A.blk.length) A4.blk.length) A4.loops.length (.row (vb j)):=fun j hj q=>q.elim (h4.nw (fun b q=>by subst q;exact ⟨_,c4⟩) hj) (fun q=>by cases q)
   have ldn:evLoad Try.prog 3 (.ptr A.blk.length 0) E=some (.int .i64 (i:Int)):=Ab0 ag3 g1
   obtain ⟨G,u1,u2,u3,u4⟩:=Ai0 (P:=Try.prog) (t:=3) (x:=.int .i64 ((i+1:Nat):Int)) g1 rfl sz3 rfl
   simp only [RT,Q0,Q1,Q2,Q3,Q4,Q5,Q6,Q7,Q8,ldn,Ae4 (show i < 9223372036854775807 by omega),u1]
   refine ⟨u2.mono fun z q=>by subst q;exact .inl rfl,.inl ⟨rfl,fun _=>u3,fun b hb=>?_⟩⟩
   rw [h4.keep ((hfE.trans u2) fun z q=>.inl (by subst q;exact .inl (.inl rfl))) hnr hb,h4.keep hf hnr hb]
 . rintro B C c1 hBC hfin hf
   have hBC:Fr (·=.loop A4.loops.length) B C:=hBC.mono fun z q=>q.elim (fun q=>q.elim) (fun q=>q)
   have g1:=hBC.loop_row (c1 (Nat.le_refl _))
   have ldn:evLoad Try.prog 3 (.ptr A.blk.length 0) C=some (.int .i64 ((castI n v r k).length:Int)):=Ab0 ag3 g1
   simp only [RT,Q0,Q1,Q2,Q3,Q4,Q5,Q6,Q7,Q8,ldn]
   exact ⟨f4.trans hf fun z q=>.inr (AQ6 f4 (fun b q=>by subst q;exact Nat.le_refl _) q),rfl⟩
end
end Go.Sv.Try
namespace Go.Sv.Try
open Go Go.Proofs
theorem Bc7 {α:Type} {q:α->Bool}:∀ {l:List α} {i:Nat} {x:α},l[i]?=some x->q x=true->(∀ (j:Nat) (y:α),j < i->l[j]?=some y->q y=false)->l.find? q=some x
 | [],i,x,h,_,_=>by simp at h
 | y::l,0,x,h,hq,_=>by simp at h;subst h;simp [List.find?,hq]
 | y::l,i+1,x,h,hq,hb=>by
  have h0:=hb 0 y (by omega) rfl
  simp only [List.find?,h0]
  exact Bc7 (by simpa using h) hq fun j z hj hz=>hb (j+1) z (by omega) (by simpa using hz)
theorem BA6 {α:Type} {q:α->Bool} {l:List α} (h:∀ (j:Nat) (y:α),l[j]?=some y->q y=false):l.find? q=none:=by
 rw [List.find?_eq_none]
 intro x hx
 obtain ⟨j,hj⟩:=List.getElem?_of_mem hx
 simp [h j x hj]
section
variable {A A':AS} {cp n:Nat} {v:Vt} {vb:Nat->Nat}
theorem IsCnt.frNw {c:Nat->Prop} {l:Nat} {B:AS} (h:IsCnt A cp n v vb) (hf:Fr (orLoop (nwS c A.blk.length) l) A B) (hc:∀ b,c b->b≠cp/\∃ cs,A.blk[b]?=some ⟨cs,.var⟩):IsCnt B cp n v vb:=by
 refine h.fr hf ?_ fun j hj=>⟨?_,?_⟩
 . rintro (q | q)
   . have := Ac3 h.box
     rcases q with q | q
     . exact (hc _ q).1 rfl
     . omega
   . cases q
 . rintro (q | q)
   . exact h.nw (fun b q=>(hc b q).2) hj q
   . cases q
 . rintro (q | q)
   . have:=h.lt hj;have:A.blk.length<=vb j:=q;omega
   . cases q
theorem AD5 (h:IsCnt A cp n v vb) {r k:Int} {id:Bts} (hs:sureI n v r k=some id):id.length=32:=by
 unfold sureI at hs
 rw [Option.map_eq_some_iff]at hs
 obtain ⟨p,h1,rfl⟩:=hs
 rw [(AD4 (List.mem_of_find?_eq_some h1)).1];exact h.len _ _ _
set_option maxRecDepth 10000 in
set_option maxHeartbeats 8000000 in
theorem A69 {r k:Int} (hw:WF A) (h:IsCnt A cp n v vb) :
 ∃ w A',EvF Try.prog HH 72 [.ptr cp 0,.int .i64 r,.int .i64 k] A w A'/\Fr S0 A A'/\w=.tup [.agg (bc ((sureI n v r k).getD z32)),.bool (sureI n v r k).isSome]:=by
 refine Aa4 rfl Try.func72 (by unfold Try.f72;rfl) Try.ntmps72 (by unfold Try.f72;rfl) (by simp) ?_
 simp only [RT,Q0,Q1,Q2,Q3,Q4,Q5,Q6,Q7,Q8,A32,zc4]
 obtain ⟨A1,e1,f1,r1,n1⟩:=Aa9 A [.ptr cp 0]
 rw [<- e1]
 obtain ⟨A2,e2,f2,r2,n2⟩:=Aa9 A1 [.int .i64 r]
 rw [<- e2]
 obtain ⟨A3,e3,f3,r3,n3⟩:=Aa9 A2 [.int .i64 k]
 rw [<- e3]
 obtain ⟨A4,e4,f4,r4,n4⟩:=Aa9 A3 (bc z32)
 rw [<- e4]
 obtain ⟨A5,e5,f5,r5,n5⟩:=Aa9 A4 [.bool false]
 rw [<- e5]
 have p1:=f5.row0 (f4.row0 (f3.row0 (f2.row0 r1)))
 have p2:=f5.row0 (f4.row0 (f3.row0 r2))
 have p3:=f5.row0 (f4.row0 r3)
 have p4:=f5.row0 r4
 have ldp:∀ {B:AS},B.blk[A.blk.length]?=some ⟨[.ptr cp 0],.var⟩->evLoad Try.prog 112 (.ptr A.blk.length 0) B=some (.ptr cp 0):=fun q=>Ab0 BO0 q
 have ldr:∀ {B:AS},B.blk[A1.blk.length]?=some ⟨[.int .i64 r],.var⟩->evLoad Try.prog 3 (.ptr A1.blk.length 0) B=some (.int .i64 r):=fun q=>Ab0 ag3 q
 have ldk:∀ {B:AS},B.blk[A2.blk.length]?=some ⟨[.int .i64 k],.var⟩->evLoad Try.prog 3 (.ptr A2.blk.length 0) B=some (.int .i64 k):=fun q=>Ab0 ag3 q
 simp only [RT,Q0,Q1,Q2,Q3,Q4,Q5,Q6,Q7,Q8,ldp p1,ldr p2,ldk p3]
 obtain ⟨_,A6,k1,k2,x1,x2,x3,rfl,k3,k4,k5⟩:=AD2 (A:=A5) (cp:=cp) (r:=r) (k:=k)
 refine Aa0 k1 ?_
 simp only [RT,Q0,Q1,Q2,Q3,Q4,Q5,Q6,Q7,Q8]
 have f16:Fr S0 A A5:=(((f1.then0 f2).then0 f3).then0 f4).then0 f5
 have f6:=f16.then0 k2
 have w6:=f6.wf hw
 have h6:=h.fr0 f6
 have hlcp:=Ac3 h.box
 obtain ⟨c,hc⟩:∃ c:Nat->Prop,c=fun b=>b=A3.blk.length∨b=A4.blk.length:=⟨_,rfl⟩
 have hcv:∀ b,c b->b≠cp/\∃ cs,A6.blk[b]?=some ⟨cs,.var⟩:=by
  intro b q
  rw [hc]at q
  rcases q with rfl | rfl
  . exact ⟨by omega,_,k2.row0 p4⟩
  . exact ⟨by omega,_,k2.row0 r5⟩
 have hcn:∀ b,b < A3.blk.length->¬ c b:=fun b hb q=>by rw [hc]at q;omega
 have l6:=f6.len
 have l56:=k2.len
 have hnr:∀ j,j < 24->¬ orLoop (nwS c A6.blk.length) A6.loops.length (.row (vb j)):=fun j hj q=>q.elim (h6.nw (fun b q=>(hcv b q).2) hj) (fun q=>by cases q)
 have keepB:∀ {B:AS} {b:Nat} {K:Blk},Fr (orLoop (nwS c A6.blk.length) A6.loops.length) A6 B->b < A3.blk.length->A6.blk[b]?=some K->B.blk[b]?=some K:=fun hf hb hk=>hf.row _ _ hk (by
  rintro (q | q)
  . rcases q with q | q
    . exact hcn _ hb q
    . omega
  . cases q)
 refine AH1 (S:=nwS c A6.blk.length) (T:=S0) (K:=fun b=>∃ j,j < 24/\b=vb j) (Fin:=fun _=>True) (AR:=argC) (xs:=castI n v r k)
  (fun i B=>B.blk[A3.blk.length]?=some ⟨bc z32,.var⟩/\B.blk[A4.blk.length]?=some ⟨[.bool false],.var⟩/\∀ j p,j < i->(castI n v r k)[j]?=some p->decide (need n<=forI n v r k p.2)=false)
  (fun z B=>Is z .ret/\∃ id,sureI n v r k=some id/\B.blk[A3.blk.length]?=some ⟨bc id,.var⟩/\B.blk[A4.blk.length]?=some ⟨[.bool true],.var⟩)
  rfl (fun q=>q) (fun q=>q) ?_ ⟨k2.row0 p4,k2.row0 r5,fun j p hj=>by omega⟩ ?_ ?_
  Try.func72 Try.ntmps72 (by simp) ?_ ?_ ?_
 . intro A0 hf0 hblk
   exact AD3 (S:=orLoop (nwS c A6.blk.length) A6.loops.length) (hf0.wf w6) (h6.fr0 hf0) (hf0.row0 k3) (hf0.row0 k4) (hf0.row0 k5)
 . rintro i B C ⟨b1, b2, b3⟩ hf
   exact ⟨hf.loop_row b1,hf.loop_row b2,b3⟩
 . rintro z B C ⟨b0, id, b1, b2, b3⟩ hf
   exact ⟨b0,id,b1,hf.loop_row b2,hf.loop_row b3⟩
 . rintro i ⟨w, x⟩ B C args hi ⟨c1, c2, c3⟩ hBC hf rfl
   refine ⟨_,rfl,?_⟩
   have hx:x.length=32:=by
    have e:x=v r.toNat k.toNat w:=(AD4 (List.mem_of_getElem? hi)).1
    rw [e];exact h.len _ _ _
   obtain ⟨D,t1,t2,t3⟩:=AM0 (A:=C) hx
   simp only [RT,Q0,Q1,Q2,Q3,Q4,Q5,Q6,Q7,Q8,A32,t1]
   refine ⟨rfl,t2.toNw,fun E hE=>?_⟩
   have hfE:Fr (orLoop (nwS c A6.blk.length) A6.loops.length) A6 E:=(hf.then0 t2).trans hE fun z q=>.inl (.inr q)
   have g1:=hE.loop_row (t2.row0 (hBC.row0 c1))
   have g2:=hE.loop_row (t2.row0 (hBC.row0 c2))
   have g3:=hE.loop_row t3
   have hE6:=h6.frNw hfE hcv
   have y1:=keepB hfE (by omega) (k2.row0 p1)
   have y2:=keepB hfE (by omega) (k2.row0 p2)
   have y3:=keepB hfE (by omega) (k2.row0 p3)
   obtain ⟨_,G,m1,m2,rfl⟩:=A33 (r:=r) (k:=k) (id:=x) (hfE.wf w6) hE6 hx
   obtain ⟨_,_,j1,rfl,rfl⟩:=Au9 (A:=G) h.ok
   simp only [RT,Q0,Q1,Q2,Q3,Q4,Q5,Q6,Q7,Q8,BN5,ldp y1,ldr y2,ldk y3,Ai5 g3 hx,(Bn1 cp).1,ldC hE6,Aa1]
   refine Aa0 m1 ?_
   simp only [RT,Q0,Q1,Q2,Q3,Q4,Q5,Q6,Q7,Q8]
   refine ⟨Aa3 (ha:=rfl) rfl (ldp (m2.row0 y1)) rfl <| Aa3 (ha:=rfl) rfl (ldC (hE6.fr0 m2)) rfl Aa1,?_⟩
   refine Aa0 j1 ?_
   have hle:(((forI n v r k x:Nat):Int) >= (need n:Int)) ↔ need n<=forI n v r k x:=by omega
   by_cases q:need n<=forI n v r k x
   . have hfind : sureI n v r k = some x := by
      unfold sureI
      rw [Bc7 hi (by simpa using q) (fun j y hj hy=>c3 j y hj hy)];rfl
     have gG:=Ai5 (m2.row0 g3) hx
     obtain ⟨H1,u1,u2,u3⟩:=AH4 (m2.row0 g1) Ab2 hx
     have ne34:A3.blk.length≠A4.blk.length:=by omega
     obtain ⟨H2,u5,u6,u7,u8⟩:=Ai0 (P:=Try.prog) (t:=4) (x:=.bool true) (u2.rowNe (m2.row0 g2) (fun q=>ne34 q.symm)) rfl sz4 rfl
     simp only [RT,Q0,Q1,Q2,Q3,Q4,Q5,Q6,Q7,Q8,decide_eq_true (hle.2 q),Aa1,gG,u1,u5]
     refine ⟨((m2.toNw.trans u2 fun z q=>.inl (by subst q;exact .inl (by rw [hc];exact .inl rfl))).trans u6 fun z q=>.inl (by subst q;exact .inl (by rw [hc];exact .inr rfl))),.inr ⟨by simp,rfl,x,hfind,u6.rowNe u3 ne34,u7⟩⟩
   . simp only [RT, Q0, Q1, Q2, Q3, Q4, Q5, Q6, Q7, Q8, decide_eq_false (fun z => q (hle.1 z)), Aa1]
     refine ⟨m2.toNw,.inl ⟨rfl,⟨m2.row0 g1,m2.row0 g2,fun j p hj hp=>?_⟩,fun b hb=>?_⟩⟩
     . rcases Nat.lt_or_ge j i with z | z
       . exact c3 j p z hp
       . have : j = i := by omega
         subst this
         rw [hi]at hp;cases hp
         exact decide_eq_false q
     . rw [h6.keep (hfE.then0 m2) hnr hb,h6.keep hf hnr hb]
 . rintro B C ⟨c1, c2, c3⟩ hBC hfin hf
   have hBC:Fr (·=.loop A6.loops.length) B C:=hBC.mono fun z q=>q.elim (fun q=>q.elim) (fun q=>q)
   have g1:=hBC.loop_row c1
   have g2:=hBC.loop_row c2
   have hno:sureI n v r k=none:=by
    unfold sureI
    rw [BA6 fun j y hy=>c3 j y (List.getElem?_eq_some_iff.1 hy).1 hy];rfl
   obtain ⟨H1,u1,u2,u3⟩:=AH4 g1 Ab2 Ab2
   have ne34:A3.blk.length≠A4.blk.length:=by omega
   obtain ⟨H2,u5,u6,u7,u8⟩:=Ai0 (P:=Try.prog) (t:=4) (x:=.bool false) (u2.rowNe g2 (fun q=>ne34 q.symm)) rfl sz4 rfl
   have ld7:evLoad Try.prog 4 (.ptr A4.blk.length 0) H2=some (.bool false):=Ab0 ag4 u7
   simp only [RT,Q0,Q1,Q2,Q3,Q4,Q5,Q6,Q7,Q8,Am4,u1,u5,Ai5 (u6.rowNe u3 ne34) Ab2,ld7]
   refine ⟨((f6.trans hf fun z q=>.inr (AQ6 f6 (fun b q=>by rw [hc]at q;omega) q)).row_ u2 (by omega)).row_ u6 (by omega),by rw [hno];rfl⟩
 . rintro z C hz ⟨rfl, id, hid, g1, g2⟩ hf
   have hl:=AD5 h hid
   have ld7:evLoad Try.prog 4 (.ptr A4.blk.length 0) C=some (.bool true):=Ab0 ag4 g2
   simp only [RT,Q0,Q1,Q2,Q3,Q4,Q5,Q6,Q7,Q8,Ai5 g1 hl,ld7]
   exact ⟨f6.trans hf fun z q=>.inr (AQ6 f6 (fun b q=>by rw [hc]at q;omega) q),by rw [hid];rfl⟩
end
end Go.Sv.Try
namespace Go.Sv.Try
open Go Go.Proofs
theorem AA4 {a b:Int} (h1:-9223372036854775808<=a - b) (h2:a - b<=9223372036854775807):IntKind.i64.wrap (a - b)=a - b:=Ae1 h1 h2
theorem AX9 {n:Nat} {v:Vt} {r k w left:Nat}:aheadW n v r (k+1) w left=if voted v r w then (if left - 1=0 then true else if left - 1 > n - 1 - w then false else aheadW n v r k (w+1) (left - 1)) else aheadW n v r k (w+1) left:=rfl
section
variable {A A':AS} {cp n:Nat} {v:Vt} {vb:Nat->Nat}
set_option maxRecDepth 10000 in
set_option maxHeartbeats 16000000 in
theorem A70 {now:Int} (h:IsCnt A cp n v vb) (hn:-1<=now) :
 ∃ w A',EvF Try.prog HH 68 [.ptr cp 0,.int .i64 now] A w A'/\A'=A/\w=.tup [.int .i64 (((aheadI n v now).getD 0:Nat):Int),.bool (aheadI n v now).isSome]:=by
 refine Aa4 rfl Try.func68 (by unfold Try.f68;rfl) Try.ntmps68 (by unfold Try.f68;rfl) (by simp) ?_
 simp only [RT,Q0,Q1,Q2,Q3,Q4,Q5,Q6,Q7,Q8]
 have hsm:=h.small
 have hld:=ldC h
 have hfa:=Bn1 cp
 refine Aa6 (fun z e B=>Is B A/\e.get 0=.ptr cp 0/\e.get 1=.int .i64 now/\∃ r:Nat,z=r/\r<=12/\e.get 6=.int .i64 ((r:Int) - 1)/\aheadI n v now=aheadR n v now r)
  (fun z e B=>Is B A/\(Is z (.exit 0)/\aheadI n v now=none∨Is z .ret/\e.get 4=.int .i64 (((aheadI n v now).getD 0:Nat):Int)/\e.get 5=.bool (aheadI n v now).isSome))
  ⟨_,rfl,rfl,rfl,12,rfl,by omega,rfl,rfl⟩ ?_ ?_
 rotate_left
 . rintro z e B hz ⟨hB, ⟨rfl, hno⟩ | ⟨rfl, h4, h5⟩⟩ <;> obtain rfl : A = B := hB.symm
   . simp only [RT, Q0, Q1, Q2, Q3, Q4, Q5, Q6, Q7, Q8]
     rw [hno];rfl
   . simp only [RT,Q0,Q1,Q2,Q3,Q4,Q5,Q6,Q7,Q8,h4,h5]
 rintro z e B ⟨hB,h0,h1,r,hz,hr,h6,ha⟩
 obtain rfl:A=B:=hB.symm
 obtain rfl:r=z:=hz.symm
 simp only [RT,Q0,Q1,Q2,Q3,Q4,Q5,Q6,Q7,Q8,h6,h1]
 have out:¬ ((r:Int) - 1 > now/\(r:Int) - 1 >= 0)->aheadI n v now=none:=fun q=>by
  rw [ha]
  cases r with
  | zero=>rfl
  | succ r=>unfold aheadR;rw [if_neg (by omega)]
 by_cases q1:(r:Int) - 1 > now
 rotate_left
 . simp only [RT, Q0, Q1, Q2, Q3, Q4, Q5, Q6, Q7, Q8, decide_eq_false q1]
   exact ⟨rfl,.inl ⟨rfl,out (fun q=>q1 q.1)⟩⟩
 by_cases q2:(r:Int) - 1 >= 0
 rotate_left
 . simp only [RT, Q0, Q1, Q2, Q3, Q4, Q5, Q6, Q7, Q8, decide_eq_true q1, h6, decide_eq_false q2]
   exact ⟨rfl,.inl ⟨rfl,out (fun q=>q2 q.2)⟩⟩
 obtain ⟨r,rfl⟩:∃ r':Nat,r=r'+1:=⟨r - 1,by omega⟩
 have er:((r+1:Nat):Int) - 1=r:=by omega
 rw [er]at h6 q1 q2
 rw [er]
 have hi:r < 12:=by omega
 have har:aheadI n v now=if aheadW n v r n 0 (flts n+1)=true then some r else aheadR n v now r:=by
  rw [ha,show aheadR n v now (r+1)=if (r:Int) > now then (if aheadW n v r n 0 (flts n+1) then some r else aheadR n v now r) else none from rfl,if_pos q1]
 simp only [RT,Q0,Q1,Q2,Q3,Q4,Q5,Q6,Q7,Q8,decide_eq_true q1,h6,decide_eq_true q2,h0,hfa,hld]
 obtain ⟨_,_,k1,hA,rfl⟩:=Ao6 (A:=A) (n:=n) (by omega) (by omega)
 rw [hA]at k1
 refine Aa0 k1 ?_
 rw [AX7 h.ok]
 have hfl:flts n<=2:=by unfold flts;omega
 simp only [RT,Q0,Q1,Q2,Q3,Q4,Q5,Q6,Q7,Q8,Ae4 (show flts n < 9223372036854775807 by omega),h0,hfa,hld]
 have hr0:=Bc5 h hi (j:=0) (by omega)
 have hr1:=Bc5 h hi (j:=1) (by omega)
 have ix0:evIndexAddr Try.prog 135 (.ptr cp (1+r * 2)) (.int .i64 0)=some (.ptr cp (1+r * 2+0)):=By3 (b:=cp) (i:=r) (j:=0) (by omega)
 have ix1:evIndexAddr Try.prog 135 (.ptr cp (1+r * 2)) (.int .i64 1)=some (.ptr cp (1+r * 2+1)):=By3 (b:=cp) (i:=r) (j:=1) (by omega)
 have ls0:=ldS h hi (j:=0) (by omega)
 have ls1:=ldS h hi (j:=1) (by omega)
 refine Aa6 (fun z e B=>Is B A/\e.get 0=.ptr cp 0/\e.get 1=.int .i64 now/\e.get 6=.int .i64 r/\e.get 27=.int .i64 n/\∃ (w left:Nat),z=n - w/\w<=n/\e.get 28=.int .i64 w/\1<=left/\left<=3/\e.get 7=.int .i64 left/\aheadW n v r n 0 (flts n+1)=aheadW n v r (n - w) w left)
  (fun z e B=>Is B A/\e.get 0=.ptr cp 0/\e.get 1=.int .i64 now/\e.get 6=.int .i64 r/\((Is z (.exit 2)∨Is z (.exit 1))/\aheadW n v r n 0 (flts n+1)=false∨Is z .ret/\aheadW n v r n 0 (flts n+1)=true/\e.get 4=.int .i64 r/\e.get 5=.bool true))
  ⟨_,rfl,h0,h1,h6,rfl,0,flts n+1,rfl,by omega,rfl,by omega,by omega,rfl,rfl⟩ ?_ ?_
 rotate_left
 . rintro z e B hz ⟨hB, h0, h1, h6, ⟨rfl | rfl, hno⟩ | ⟨rfl, hy, h4, h5⟩⟩ <;> obtain rfl : A = B := hB.symm
   . rw [if_neg (by rw [hno]; simp)] at har
     simp only [RT,Q0,Q1,Q2,Q3,Q4,Q5,Q6,Q7,Q8,h6]
     exact ⟨r,by omega,rfl,h0,h1,r,rfl,by omega,by rw [AA4 (by omega) (by omega)],har⟩
   . rw [if_neg (by rw [hno]; simp)] at har
     simp only [RT,Q0,Q1,Q2,Q3,Q4,Q5,Q6,Q7,Q8,h6]
     exact ⟨r,by omega,rfl,h0,h1,r,rfl,by omega,by rw [AA4 (by omega) (by omega)],har⟩
   . rw [if_pos hy] at har
     simp only [RT,Q0,Q1,Q2,Q3,Q4,Q5,Q6,Q7,Q8]
     rw [har]
     exact ⟨rfl,.inr ⟨rfl,h4,h5⟩⟩
 rintro z e B ⟨hB,h0,h1,h6,h27,w,left,rfl,hwn,h28,hl1,hl3,h7,hW⟩
 obtain rfl:A=B:=hB.symm
 simp only [RT,Q0,Q1,Q2,Q3,Q4,Q5,Q6,Q7,Q8,h27,h28]
 refine Aa7 (fun g=>?_) (fun g=>?_)
 rotate_left
 . have e : w = n := by omega
   subst e
   rw [Nat.sub_self]at hW
   simp only [RT,Q0,Q1,Q2,Q3,Q4,Q5,Q6,Q7,Q8]
   exact ⟨rfl,h0,h1,h6,.inl ⟨.inl rfl,hW⟩⟩
 have hw:w < n:=by omega
 obtain ⟨d,hd⟩:∃ d,n - w=d+1:=⟨n - w - 1,by omega⟩
 have hdn:n - (w+1)=d:=by omega
 have hW2:=hW
 rw [hd,AX9]at hW2
 have lv0:=ldV hr0 (fun w=>h.len r 0 w) hw
 have lv1:=ldV hr1 (fun w=>h.len r 1 w) hw
 have fv:=BA4 (vb (r * 2+0)) (w * 33)
 have fv1:=BA4 (vb (r * 2+1)) (w * 33)
 simp only [RT,Q0,Q1,Q2,Q3,Q4,Q5,Q6,Q7,Q8]
 by_cases qv:voted v r w
 rotate_left
 . have z0 : v r 0 w = z32 := Decidable.not_not.1 fun q => qv (.inl q)
   have z1:v r 1 w=z32:=Decidable.not_not.1 fun q=>qv (.inr q)
   rw [if_neg qv,<- hdn]at hW2
   simp only [RT,Q0,Q1,Q2,Q3,Q4,Q5,Q6,Q7,Q8,h0,h6,h28,hfa,Bn2 hi,ix0,ix1,ls0,ls1,By4 hw,fv,fv1,lv0,lv1,decide_eq_false (show ¬ v r 0 w≠z32 from fun q=>q z0),decide_eq_false (show ¬ v r 1 w≠z32 from fun q=>q z1)]
   exact ⟨n - (w+1),by omega,rfl,h1,h27,w+1,left,rfl,by omega,by rw [Ae4 (by omega)],hl1,hl3,h7,hW2⟩
 rw [if_pos qv]at hW2
 refine Bb5 (fun z e B=>Is z .normal/\Is B A/\e.get 0=.ptr cp 0/\e.get 1=.int .i64 now/\e.get 6=.int .i64 r/\e.get 27=.int .i64 n/\e.get 28=.int .i64 w/\e.get 7=.int .i64 left/\e.get 8=.int .i64 w) ?_ ?_
 . by_cases z0 : v r 0 w = z32
   . have z1 : v r 1 w ≠ z32 := fun q => qv.elim (fun y => y z0) (fun y => y q)
     simp only [RT,Q0,Q1,Q2,Q3,Q4,Q5,Q6,Q7,Q8,h0,h6,h28,hfa,Bn2 hi,ix0,ix1,ls0,ls1,By4 hw,fv,fv1,lv0,lv1,decide_eq_false (show ¬ v r 0 w≠z32 from fun q=>q z0),decide_eq_true z1]
     and_intros <;> first | rfl | assumption
   . simp only [RT, Q0, Q1, Q2, Q3, Q4, Q5, Q6, Q7, Q8, h0, h6, h28, hfa, Bn2 hi, ix0, ix1, ls0, ls1, By4 hw, fv, fv1, lv0, lv1, decide_eq_true z0]
     and_intros <;> first | rfl | assumption
 . clear h0 h1 h6 h27 h28 h7
   rintro z e B ⟨rfl,hB,h0,h1,h6,h27,h28,h7,h8⟩
   obtain rfl:A=B:=hB.symm
   simp only [RT,Q0,Q1,Q2,Q3,Q4,Q5,Q6,Q7,Q8,h7,AA4 (show (-9223372036854775808:Int)<=left - 1 by omega) (by omega)]
   by_cases y1:left - 1=0
   . rw [if_pos y1] at hW2
     simp only [RT,Q0,Q1,Q2,Q3,Q4,Q5,Q6,Q7,Q8,decide_eq_true (show ((left:Int) - 1=0) by omega),h6]
     exact ⟨rfl,h0,h1,.inr ⟨rfl,hW2⟩⟩
   . rw [if_neg y1] at hW2
     simp only [RT,Q0,Q1,Q2,Q3,Q4,Q5,Q6,Q7,Q8,decide_eq_false (show ¬ ((left:Int) - 1=0) by omega),h0,hfa,hld,h8,AA4 (a:=n) (b:=1) (by omega) (by omega),AA4 (a:=(n:Int) - 1) (b:=w) (by omega) (by omega)]
     by_cases y2:left - 1 > n - 1 - w
     . rw [if_pos y2] at hW2
       simp only [RT,Q0,Q1,Q2,Q3,Q4,Q5,Q6,Q7,Q8,decide_eq_true (show ((left:Int) - 1 > (n:Int) - 1 - w) by omega)]
       exact ⟨rfl,h0,h1,h6,.inl ⟨.inr rfl,hW2⟩⟩
     . rw [if_neg y2, <- hdn] at hW2
       simp only [RT,Q0,Q1,Q2,Q3,Q4,Q5,Q6,Q7,Q8,decide_eq_false (show ¬ ((left:Int) - 1 > (n:Int) - 1 - w) by omega),h28]
       exact ⟨n - (w+1),by omega,rfl,h0,h1,h6,h27,w+1,left - 1,rfl,by omega,by rw [Ae4 (by omega)],by omega,by omega,by rw [show ((left - 1:Nat):Int)=(left:Int) - 1 by omega],hW2⟩
end
end Go.Sv.Try
namespace Go.Sv.Try
open Go Go.Proofs
theorem BP5 (n:Int):evBuild Try.prog 138 [(0,.int .i64 n)]=some (.agg (.int .i64 n::List.replicate 24 .snil)):=by kernel_rfl
theorem Ce7 {n:Nat} (h:okN n):msl Try.prog 134 (some (.int .i64 (n:Int))) (some (.int .i64 (n:Int)))=some (.newSl (rowV n fun _=>z32) n 33):=by
 rcases h with rfl | rfl | rfl <;> kernel_rfl
def cntM (n:Nat) (vb:Nat->Nat) (m:Nat):List (List V):=[[.int .i64 n],reps 24 fun a=>[if a < m then .sl (vb a) 0 n 33 else .snil]]
theorem AR1 {n:Nat} {vb:Nat->Nat} {m:Nat}:(cntM n vb m).map List.length=[1,24]:=by
 have:=Ae7 (n:=24) (k:=1) (f:=fun a=>[if a < m then V.sl (vb a) 0 n 33 else .snil]) (fun _ _=>rfl)
 simp only [cntM,List.map_cons,List.map_nil,this,List.length_singleton]
structure MkC (A0 A:AS) (cp n:Nat) (vb:Nat->Nat) (m:Nat):Prop where
 fr:Fr S0 A0 A
 cn:A0.blk.length<=cp
 box:A.blk[cp]?=some ⟨(cntM n vb m).flatten,.var⟩
 row:∀ a,a < m->A.blk[vb a]?=some ⟨rowV n fun _=>z32,.arr (vb a) 0⟩/\Sole A (vb a) (vb a)/\A0.blk.length<=vb a
 inj:∀ a b,a < m->b < m->vb a=vb b->a=b
theorem MkC.step {A0 A:AS} {cp n:Nat} {vb:Nat->Nat} {m:Nat} (h:MkC A0 A cp n vb m) (hw:WF A0) (hm:m < 24) :
 ∃ A',evStore Try.prog 134 (.ptr cp (1+m)) (.sl A.blk.length 0 n 33) (A.push ⟨rowV n fun _=>z32,.arr A.blk.length 0⟩)=some A'/\MkC A0 A' cp n (fun a=>if a=m then A.blk.length else vb a) (m+1):=by
 have f1:=Fr.pushArr A (rowV n fun _=>z32)
 have wA:=h.fr.wf hw
 have r1:=Ab8 A ⟨rowV n fun _=>z32,.arr A.blk.length 0⟩
 have so1:=Sole.new (cs:=rowV n fun _=>z32) wA
 obtain ⟨B,hB⟩:∃ B,B=A.push ⟨rowV n fun _=>z32,.arr A.blk.length 0⟩:=⟨_,rfl⟩
 rw [<- hB]at f1 r1 so1 ⊢
 have b1:=f1.row0 h.box
 have h1:∀ i,i < 24->([if i < m then V.sl (vb i) 0 n 33 else .snil]:List V).length=1:=fun _ _=>rfl
 have hat:=At.part (L:=cntM n vb m) (i:=1) rfl
 rw [AR1]at hat
 have hat:At (cntM n vb m).flatten 1 (reps 24 fun a=>[if a < m then .sl (vb a) 0 n 33 else .snil]):=hat
 have hle:=hat.le
 rw [Ae7 (k:=1) h1]at hle
 obtain ⟨C,s1,s2,s3,s4⟩:=Ac0 (P:=Try.prog) (t:=134) (o:=1+m) (x:=.sl A.blk.length 0 n 33) b1 rfl B09 (by show 1+m+1<=_;omega) rfl
 rw [Ao1 hat (by rw [Ae7 (k:=1) h1];simp;omega)]at s3
 have e1:=Ar7 (k:=1) h1 hm (c:=[.sl A.blk.length 0 n 33]) rfl
 rw [Nat.mul_one]at e1
 rw [e1]at s3
 have e2:(reps 24 fun j=>if j=m then [V.sl A.blk.length 0 n 33] else [if j < m then V.sl (vb j) 0 n 33 else .snil])=reps 24 fun a=>[if a < m+1 then V.sl (if a=m then A.blk.length else vb a) 0 n 33 else .snil]:=Ak0 fun a _=>by
  by_cases q:a=m
  . subst q;simp
  . rw [if_neg q, if_neg q]
    by_cases w:a < m
    . rw [if_pos w,if_pos (by omega)]
    . rw [if_neg w,if_neg (by omega)]
 rw [e2]at s3
 have e3:=Ao2 (L:=cntM n vb m) (i:=1) (c:=reps 24 fun a=>[if a < m then .sl (vb a) 0 n 33 else .snil]) (c':=reps 24 fun a=>[if a < m+1 then V.sl (if a=m then A.blk.length else vb a) 0 n 33 else .snil]) rfl (by rw [Ae7 (k:=1) h1,Ae7 (k:=1) (fun _ _=>rfl)])
 rw [AR1]at e3
 have e3:putAt (cntM n vb m).flatten 1 (reps 24 fun a=>[if a < m+1 then V.sl (if a=m then A.blk.length else vb a) 0 n 33 else .snil])=(cntM n (fun a=>if a=m then A.blk.length else vb a) (m+1)).flatten:=e3
 rw [e3]at s3
 have hcp:cp < A.blk.length:=Ac3 h.box
 have hlen:=h.fr.len
 refine ⟨C,s1,(h.fr.then0 f1).row_ s2 h.cn,h.cn,s3,fun a ha=>?_,fun a b ha hb q=>?_⟩
 . by_cases z : a = m
   . subst z
     rw [if_pos rfl]
     exact ⟨s2.rowNe r1 (by omega),so1.fr s2 (fun q=>by cases q),hlen⟩
   . rw [if_neg z]
     obtain ⟨y1,y2,y3⟩:=h.row a (by omega)
     have hne:vb a≠cp:=fun q=>by rw [q,h.box]at y1;simp at y1
     exact ⟨s2.rowNe (f1.row0 y1) hne,(y2.fr f1 (fun q=>q)).fr s2 (fun q=>by cases q),y3⟩
 . have q : (if a = m then A.blk.length else vb a) = (if b = m then A.blk.length else vb b) := q
   have lt:∀ a,a < m->vb a < A.blk.length:=fun a ha=>Ac3 (h.row a ha).1
   by_cases z:a=m <;> by_cases y:b=m
   . omega
   . rw [if_pos z, if_neg y] at q
     have:=lt b (by omega);omega
   . rw [if_neg z, if_pos y] at q
     have:=lt a (by omega);omega
   . rw [if_neg z, if_neg y] at q
     exact h.inj a b (by omega) (by omega) q
theorem MkC.done {A0 A:AS} {cp n:Nat} {vb:Nat->Nat} (h:MkC A0 A cp n vb 24) (hn:okN n):IsCnt A cp n v0 vb where
 box:=by
  have:=h.box
  rw [this]
  show some (⟨(cntM n vb 24).flatten,.var⟩:Blk)=some ⟨(cntL n vb).flatten,.var⟩
  have e:cntM n vb 24=cntL n vb:=by
   unfold cntM cntL
   rw [Ak0 (g:=fun j=>[V.sl (vb j) 0 n 33]) fun a ha=>by rw [if_pos ha]]
  rw [e]
 row:=fun j hj=>(h.row j hj).1
 sole:=fun j hj=>(h.row j hj).2.1
 inj:=fun i j hi hj q=>h.inj i j hi hj q
 ok:=hn
 len:=fun _ _ _=>rfl
set_option maxRecDepth 10000 in
set_option maxHeartbeats 16000000 in
theorem AY0 {A:AS} {n:Int} (hw:WF A) (h0:-9223372036854775808<=n) (h1:n<=9223372036854775807) :
 ∃ w A',EvF Try.prog HH 44 [.int .i64 n] A w A'/\Fr S0 A A'/\(fltsI n < 0/\w=.tup [.pnil,.int .i64 1]∨∃ (m:Nat) (cp:Nat) (vb:Nat->Nat),n=m/\okN m/\w=.tup [.ptr cp 0,.int .i64 0]/\IsCnt A' cp m v0 vb/\A.blk.length<=cp/\∀ j,j < 24->A.blk.length<=vb j):=by
 refine Aa4 rfl Try.func44 (by unfold Try.f44;rfl) Try.ntmps44 (by unfold Try.f44;rfl) (by simp) ?_
 simp only [RT,Q0,Q1,Q2,Q3,Q4,Q5,Q6,Q7,Q8]
 obtain ⟨_,_,k1,hA,rfl⟩:=Ao6 (A:=A) h0 h1
 rw [hA]at k1
 refine Aa0 k1 ?_
 by_cases q:fltsI n < 0
 . simp only [RT, Q0, Q1, Q2, Q3, Q4, Q5, Q6, Q7, Q8, decide_eq_true q]
   exact ⟨.refl _ _,.inl q⟩
 obtain ⟨n,rfl,hn⟩:=Bc0 q
 simp only [RT,Q0,Q1,Q2,Q3,Q4,Q5,Q6,Q7,Q8,decide_eq_false q,BP5]
 obtain ⟨A1,e1,f1,r1,n1⟩:=Aa9 A (.int .i64 n::List.replicate 24 .snil)
 rw [<- e1]
 obtain ⟨cp,hcp⟩:∃ b,b=A.blk.length:=⟨_,rfl⟩
 rw [<- hcp]at r1 ⊢
 have M0:MkC A A1 cp n (fun _=>0) 0:=⟨f1,by omega,r1,fun _ ha=>by omega,fun _ _ ha=>by omega⟩
 have hfa:=Bn1 cp
 refine Aa6 (fun z e B=>e.get 0=.int .i64 n/\e.get 4=.ptr cp 0/\∃ (i:Nat) (vb:Nat->Nat),z=12 - i/\i<=12/\e.get 13=.int .i64 i/\MkC A B cp n vb (i * 2))
  (fun z e B=>Is z (.exit 0)/\e.get 4=.ptr cp 0/\∃ vb,MkC A B cp n vb 24)
  ⟨_,rfl,rfl,0,_,rfl,by omega,rfl,M0⟩ ?_ ?_
 rotate_left
 . rintro z e B hz ⟨rfl, h4, vb, hM⟩
   simp only [RT,Q0,Q1,Q2,Q3,Q4,Q5,Q6,Q7,Q8,h4]
   exact ⟨hM.fr,.inr ⟨n,cp,vb,rfl,hn,rfl,hM.done hn,by omega,fun j hj=>by have:=(hM.row j hj).2.2;omega⟩⟩
 rintro z e B ⟨h0,h4,i,vb,rfl,hi,h13,hM⟩
 simp only [RT,Q0,Q1,Q2,Q3,Q4,Q5,Q6,Q7,Q8,h13]
 refine Aa7 (fun g=>?_) (fun g=>?_)
 rotate_left
 . have : i = 12 := by omega
   subst this
   simp only [RT,Q0,Q1,Q2,Q3,Q4,Q5,Q6,Q7,Q8]
   exact ⟨rfl,h4,vb,hM⟩
 have hi12:i < 12:=by omega
 simp only [RT,Q0,Q1,Q2,Q3,Q4,Q5,Q6,Q7,Q8,h13]
 refine Aa6 (fun z e B=>e.get 0=.int .i64 n/\e.get 4=.ptr cp 0/\e.get 5=.int .i64 i/\e.get 13=.int .i64 i/\∃ (j:Nat) (vb:Nat->Nat),z=2 - j/\j<=2/\e.get 16=.int .i64 j/\MkC A B cp n vb (i * 2+j))
  (fun z e B=>Is z (.exit 2)/\e.get 0=.int .i64 n/\e.get 4=.ptr cp 0/\e.get 13=.int .i64 i/\∃ vb,MkC A B cp n vb (i * 2+2))
  ⟨_,h0,h4,rfl,h13,0,vb,rfl,by omega,rfl,hM⟩ ?_ ?_
 rotate_left
 . rintro z e B hz ⟨rfl, h0, h4, h13, vb, hM⟩
   simp only [RT,Q0,Q1,Q2,Q3,Q4,Q5,Q6,Q7,Q8,h13]
   exact ⟨12 - (i+1),by omega,h0,h4,i+1,vb,rfl,by omega,by rw [Ae4 (by omega)],by rw [show (i+1) * 2=i * 2+2 by omega];exact hM⟩
 rintro z e B ⟨h0,h4,h5,h13,j,vb,rfl,hj,h16,hM⟩
 simp only [RT,Q0,Q1,Q2,Q3,Q4,Q5,Q6,Q7,Q8,h16]
 refine Aa7 (fun g=>?_) (fun g=>?_)
 rotate_left
 . have : j = 2 := by omega
   subst this
   simp only [RT,Q0,Q1,Q2,Q3,Q4,Q5,Q6,Q7,Q8]
   exact ⟨rfl,h0,h4,h13,vb,hM⟩
 have hj2:j < 2:=by omega
 obtain ⟨C,s1,s2⟩:=hM.step hw (show i * 2+j < 24 by omega)
 rw [<- Nat.add_assoc]at s1
 simp only [RT,Q0,Q1,Q2,Q3,Q4,Q5,Q6,Q7,Q8,h16]
 rw [Bw8,Aa2 (by rfl)]
 simp only [RT,Q0,Q1,Q2,Q3,Q4,Q5,Q6,Q7,Q8,h0,h4,h5,Ce7 hn,hfa,Bn2 hi12,By3 hj2,s1,h16]
 exact ⟨2 - (j+1),by omega,h13,j+1,_,rfl,by omega,by rw [Ae4 (by omega)],s2⟩
end Go.Sv.Try
namespace Go.Sv.Try
open Go Go.Proofs
structure IsRd (A:AS) (rp:Nat) (r:Rd) (cp:Nat) (vb:Nat->Nat) (fk fa:Option Nat):Prop where
 box:∃ kv av,A.blk[rp]?=some ⟨encR r kv av cp,.var⟩/\Lst eId Hp.emp A kv r.known fk/\Lst eAct Hp.emp A av r.acts fa
 cnt:IsCnt A cp r.n r.v vb
 ok:Rok r
 rc:rp≠cp
 ne1:∀ f,fk=some f->fa≠some f
 ne2:∀ j,j < 24->fk≠some (vb j)/\fa≠some (vb j)
def rdS (A:AS) (rp:Nat) (vb:Nat->Nat) (fk fa:Option Nat):Loc->Prop:=fun x=>x=.row rp∨vbS vb x∨inFamO A fk x∨inFamO A fa x
theorem IsRd.fr {A A':AS} {rp cp:Nat} {r:Rd} {vb:Nat->Nat} {fk fa:Option Nat} {S:Loc->Prop} (h:IsRd A rp r cp vb fk fa) (hf:Fr S A A') (h1:¬ S (.row rp)) (h2:¬ S (.row cp)) (h3:∀ j,j < 24->¬ S (.row (vb j))/\¬ S (.fam (vb j))) (h4:Off fk A S) (h5:Off fa A S):IsRd A' rp r cp vb fk fa:=by
 obtain ⟨kv,av,b1,b2,b3⟩:=h.box
 exact { h with box:=⟨kv,av,hf.row _ _ b1 h1,b2.fr hf h4,b3.fr hf h5⟩,cnt:=h.cnt.fr hf h2 h3 }
theorem IsRd.fr0 {A A':AS} {rp cp:Nat} {r:Rd} {vb:Nat->Nat} {fk fa:Option Nat} (h:IsRd A rp r cp vb fk fa) (hf:Fr S0 A A'):IsRd A' rp r cp vb fk fa:=h.fr hf (fun q=>q) (fun q=>q) (fun _ _=>⟨fun q=>q,fun q=>q⟩) .s0 .s0
theorem AC2 {A B:AS} {S:Loc->Prop} {rp:Nat} {vb:Nat->Nat} {fk fa fk' fa':Option Nat} (hf:Fr S A B) (g1:Gr A fk fk') (g2:Gr A fa fa') (hw:WF A) (hw':WF B) {x:Loc} (h:rdS B rp vb fk' fa' x):rdS A rp vb fk fa x∨x.newTo A:=by
 have key:∀ {fo fo':Option Nat},Gr A fo fo'->inFamO B fo' x->inFamO A fo x∨x.newTo A:=by
  intro fo fo' g q
  rcases g with rfl | ⟨rfl,f,rfl,hfl⟩
  . exact Ad5 hf q
  . rcases Ad5 hf q with q | q
    . right
      cases x with
      | row b=>obtain ⟨k,base,z1,z2⟩:=q;have:=hw b k _ base z1 z2;omega
      | fam g=>show A.blk.length<=g;rw [show g=f from q];exact hfl
      | map r=>exact q.elim
      | loop r=>exact q.elim
      | it r=>exact q.elim
    . exact .inr q
 rcases h with h | h | h | h
 . exact .inl (.inl h)
 . exact .inl (.inr (.inl h))
 . exact (key g1 h).imp (fun q=>.inr (.inr (.inl q))) id
 . exact (key g2 h).imp (fun q=>.inr (.inr (.inr q))) id
def RStep (A:AS) (rp cp:Nat) (vb:Nat->Nat) (fk fa:Option Nat) (A':AS) (r':Rd):Prop:=∃ fk' fa',Fr (rdS A rp vb fk fa) A A'/\Gr A fk fk'/\Gr A fa fa'/\IsRd A' rp r' cp vb fk' fa'
section
variable {A A' B:AS} {rp cp:Nat} {r r':Rd} {vb:Nat->Nat} {fk fa fk' fa':Option Nat} {kv av:V}
theorem RStep.rfl' (h:IsRd A rp r cp vb fk fa):RStep A rp cp vb fk fa A r:=⟨fk,fa,.refl _ _,.inl rfl,.inl rfl,h⟩
theorem RStep.of0 (h:IsRd A rp r cp vb fk fa) (hf:Fr S0 A B):RStep A rp cp vb fk fa B r:=⟨fk,fa,hf.mono fun _ q=>q.elim,.inl rfl,.inl rfl,h.fr0 hf⟩
theorem RStep.next (hw:WF A) (hf:Fr (rdS A rp vb fk fa) A B) (g1:Gr A fk fk') (g2:Gr A fa fa') (k:RStep B rp cp vb fk' fa' A' r'):RStep A rp cp vb fk fa A' r':=by
 obtain ⟨fk2,fa2,k1,k2,k3,k4⟩:=k
 exact ⟨fk2,fa2,hf.trans k1 fun x q=>AC2 hf g1 g2 hw (hf.wf hw) q,g1.trans k2 hf.len,g2.trans k3 hf.len,k4⟩
theorem RStep.next0 (hw:WF A) (hf:Fr S0 A B) (k:RStep B rp cp vb fk fa A' r'):RStep A rp cp vb fk fa A' r':=k.next hw (hf.mono fun _ q=>q.elim) (.inl rfl) (.inl rfl)
theorem RStep.then0 {C:AS} (h:RStep A rp cp vb fk fa B r) (hf:Fr S0 B C):RStep A rp cp vb fk fa C r:=by
 obtain ⟨fk',fa',h1,h2,h3,h4⟩:=h
 exact ⟨fk',fa',h1.then0 hf,h2,h3,h4.fr0 hf⟩
theorem IsRd.upd (h:IsRd A rp r cp vb fk fa) (hb:A.blk[rp]?=some ⟨encR r kv av cp,.var⟩) (hk:Lst eId Hp.emp A kv r.known fk) (ha:Lst eAct Hp.emp A av r.acts fa) (hf:Fr (·=.row rp) A B) (hB:B.blk[rp]?=some ⟨encR r' kv av cp,.var⟩)
 (e1:r'.known=r.known) (e2:r'.acts=r.acts) (e3:r'.n=r.n) (e4:r'.v=r.v) (hok:Rok r'):IsRd B rp r' cp vb fk fa:=by
 refine { box:=⟨kv,av,hB,by rw [e1];exact hk.fr hf (.box hb),by rw [e2];exact ha.fr hf (.box hb)⟩,cnt:=?_,ok:=hok,rc:=h.rc,ne1:=h.ne1,ne2:=h.ne2 }
 rw [e3,e4]
 exact h.cnt.fr hf (fun q=>h.rc (by injection q with q;exact q.symm)) fun j hj=>⟨fun q=>h.cnt.nevar hj hb (by injection q),fun q=>by cases q⟩
theorem RStep.upd (hf:Fr (·=.row rp) A B) (h:IsRd B rp r' cp vb fk fa):RStep A rp cp vb fk fa B r':=⟨fk,fa,hf.mono fun _ q=>.inl q,.inl rfl,.inl rfl,h⟩
theorem B33 {a:Act} (h:a.id.length=32):bsl Try.prog 79 1 (some [(0,.agg (actC a))])=some (.newSl (actC a) 1 36):=AQ4 Try.underlying79 Bm7 BN9 rfl (Ar8 h) (by decide)
theorem Ce8 {b:Nat} {k:BK} {a:Act} (hb:A.blk[b]?=some ⟨actC a,k⟩) (h:a.id.length=32):evLoad Try.prog 109 (.ptr b 0) A=some (.agg (actC a)):=At.load hb (At.all _) B07 Bm7 (Ar8 h)
set_option maxRecDepth 10000 in
set_option maxHeartbeats 8000000 in
theorem AM3 (hw:WF A) (h:IsRd A rp r cp vb fk fa) {a:Act} (hid:a.id.length=32) (hl:r.acts.length<=100000000):∃ w A',EvF Try.prog HH 62 [.ptr rp 0,.agg (actC a)] A w A'/\RStep A rp cp vb fk fa A' (r.do_ a):=by
 refine Aa4 rfl Try.func62 (by unfold Try.f62;rfl) Try.ntmps62 (by unfold Try.f62;rfl) (by simp) ?_
 simp only [RT,Q0,Q1,Q2,Q3,Q4,Q5,Q6,Q7,Q8]
 obtain ⟨A1,e1,f1,r1,n1⟩:=Aa9 A (actC a)
 rw [<- e1]
 have h1:=h.fr0 f1
 have w1:=f1.wf hw
 obtain ⟨kv,av,b1,b2,b3⟩:=h1.box
 have ld:=Ao3 b1 h1.ok
 obtain ⟨v4,A2,fa',p1,p2,p3,p4⟩:=b3.push (P:=Try.prog) (t:=79) (tx:=79) (n:=36) rfl Ce1 Try.underlying79 w1 (y:=a) (cs':=actC a) ⟨rfl,hid⟩ (by omega) (by omega)
 have b4:=p3.row _ _ b1 (Aa8 b1)
 have k4:Lst eId Hp.emp A2 kv r.known fk:=b2.fr p3 (by
  cases fa with
  | none=>exact fun _ q=>q.elim
  | some g=>exact Off.fam fun q=>h.ne1 g q rfl)
 obtain ⟨A3,s1,s2,s3⟩:=Cc0 b4 h1.ok p2.one (r.acts++[a])
 rw [BM8,Aa2 (by rfl)]
 simp only [RT,Q0,Q1,Q2,Q3,Q4,Q5,Q6,Q7,Q8,(AC1 rp),ld,Ce8 r1 hid,B33 hid,p1,s1]
 have hc3:IsCnt A3 cp r.n r.v vb:=by
  refine (h1.cnt.fr p3 (Aa8 h1.cnt.box) fun j hj=>⟨?_,?_⟩).fr s2 (fun q=>h.rc (by injection q with q;exact q.symm)) fun j hj=>⟨fun q=>h1.cnt.nevar hj b1 (by injection q),fun q=>by cases q⟩
  . intro q
    cases fa with
    | none=>exact q.elim
    | some g =>
     obtain ⟨k,base,z1,z2⟩:=q
     rw [h1.cnt.row j hj]at z1;cases z1;cases z2
     exact (h.ne2 j hj).2 rfl
  . intro q
    cases fa with
    | none=>exact q.elim
    | some g=>exact (h.ne2 j hj).2 (by rw [show vb j=g from q])
 refine RStep.next0 hw f1 ⟨fk,fa',(p3.mono (S':=rdS A1 rp vb fk fa) fun z q=>.inr (.inr (.inr q))).trans s2 fun z q=>.inl (.inl q),.inl rfl,p4,?_⟩
 refine { box:=⟨kv,v4,s3,k4.fr s2 (.box b4),p2.fr s2 (.box b4)⟩,cnt:=hc3,ok:={ h.ok with },rc:=h.rc,ne1:=fun f q z=>?_,ne2:=fun j hj=>⟨(h.ne2 j hj).1,fun q=>?_⟩ }
 . rcases p4.or z with y | y
   . exact h.ne1 f q y
   . have:=b2.famLt f q;omega
 . rcases p4.or q with y | y
   . exact (h.ne2 j hj).2 y
   . have:=h1.cnt.lt hj;omega
set_option maxRecDepth 10000 in
set_option maxHeartbeats 8000000 in
theorem Av0 (hw:WF A) (h:IsRd A rp r cp vb fk fa) {id:Bts} (hid:id.length=32) (hl:r.known.length<=100000000):∃ w A',EvF Try.prog HH 58 [.ptr rp 0,.agg (bc id)] A w A'/\Fr S0 A A'/\w=.bool (decide (id∈r.known)):=by
 refine Aa4 rfl Try.func58 (by unfold Try.f58;rfl) Try.ntmps58 (by unfold Try.f58;rfl) (by simp) ?_
 simp only [RT,Q0,Q1,Q2,Q3,Q4,Q5,Q6,Q7,Q8]
 obtain ⟨A1,e1,f1,r1,n1⟩:=Aa9 A (bc id)
 rw [<- e1]
 have h1:=h.fr0 f1
 obtain ⟨kv,av,b1,b2,b3⟩:=h1.box
 have ld:=Ao3 b1 h1.ok
 have hln:=fun B=>b2.len (P:=Try.prog) Try.underlying25 B
 simp only [RT,Q0,Q1,Q2,Q3,Q4,Q5,Q6,Q7,Q8,(AC1 rp),ld,hln]
 refine Aa6 (fun z e B=>Fr S0 A1 B/\e.get 3=.ptr A.blk.length 0/\e.get 10=kv/\e.get 11=.int .i64 r.known.length/\∃ i:Nat,z=r.known.length - i/\i<=r.known.length/\e.get 12=.int .i64 i/\¬ id∈r.known.take i)
  (fun z e B=>Fr S0 A1 B/\(Is z (.exit 0)/\¬ id∈r.known∨Is z .ret/\id∈r.known/\e.get 4=.bool true))
  ⟨_,.refl _ _,rfl,rfl,rfl,0,rfl,by omega,rfl,by simp⟩ ?_ ?_
 rotate_left
 . rintro z e B hz ⟨hf, ⟨rfl, hn⟩ | ⟨rfl, hy, h4⟩⟩
   . simp only [RT, Q0, Q1, Q2, Q3, Q4, Q5, Q6, Q7, Q8]
     exact ⟨f1.then0 hf,by rw [decide_eq_false hn]⟩
   . simp only [RT, Q0, Q1, Q2, Q3, Q4, Q5, Q6, Q7, Q8, h4]
     exact ⟨f1.then0 hf,by rw [decide_eq_true hy]⟩
 rintro z e B ⟨hf,h3,h10,h11,i,rfl,hi,h12,hno⟩
 simp only [RT,Q0,Q1,Q2,Q3,Q4,Q5,Q6,Q7,Q8,h11,h12]
 refine Aa7 (fun g=>?_) (fun g=>?_)
 rotate_left
 . simp only [RT, Q0, Q1, Q2, Q3, Q4, Q5, Q6, Q7, Q8]
   have:i=r.known.length:=by omega
   subst this
   rw [List.take_length]at hno
   exact ⟨hf,.inl ⟨rfl,hno⟩⟩
 obtain ⟨x,hx⟩:=Ag4 (l:=r.known) (i:=i) (by omega)
 obtain ⟨b,o,c,g3,g4,g5⟩:=(b2.fr0 hf).at (P:=Try.prog) (k:=.i64) (Hp.on_emp B) Try.underlying25 AH3 AX5 hx
 obtain ⟨rfl,hxl⟩:=BA3.1 g5
 obtain ⟨C,t1,t2,t3⟩:=AM0 (A:=B) hxl
 simp only [RT,Q0,Q1,Q2,Q3,Q4,Q5,Q6,Q7,Q8,h10,h12,g3,g4,A32,t1,Ai5 t3 hxl,h3,Ai5 (t2.row0 (hf.row0 r1)) hid,eqZ hxl hid]
 by_cases q:x=id
 . simp only [RT, Q0, Q1, Q2, Q3, Q4, Q5, Q6, Q7, Q8, decide_eq_true q]
   exact ⟨hf.then0 t2,.inr ⟨rfl,by rw [<- q];exact List.mem_of_getElem? hx⟩⟩
 . simp only [RT, Q0, Q1, Q2, Q3, Q4, Q5, Q6, Q7, Q8, decide_eq_false q, h12]
   refine ⟨r.known.length - (i+1),by omega,hf.then0 t2,h3,h10,h11,i+1,rfl,by omega,by rw [Ae4 (by omega)],fun y=>?_⟩
   rw [Ac4 hx]at y
   rcases List.mem_append.1 y with y | y
   . exact hno y
   . simp at y;exact q y.symm
set_option maxRecDepth 10000 in
set_option maxHeartbeats 8000000 in
theorem AD6 (hw:WF A) (h:IsRd A rp r cp vb fk fa) (R K:Int):∃ w A',EvF Try.prog HH 67 [.ptr rp 0,.int .i64 R,.int .i64 K] A w A'/\Fr S0 A A'/\∃ x,x.length=32/\w=.tup [.agg (bc x),.bool (r.sure R K).isSome]/\∀ id,r.sure R K=some id->x=id:=by
 refine Aa4 rfl Try.func67 (by unfold Try.f67;rfl) Try.ntmps67 (by unfold Try.f67;rfl) (by simp) ?_
 simp only [RT,Q0,Q1,Q2,Q3,Q4,Q5,Q6,Q7,Q8,A32]
 obtain ⟨A1,e1,f1,r1,n1⟩:=Aa9 A (bc z32)
 rw [<- e1]
 have h1:=h.fr0 f1
 obtain ⟨kv,av,b1,b2,b3⟩:=h1.box
 have ld:=Ao3 b1 h1.ok
 simp only [RT,Q0,Q1,Q2,Q3,Q4,Q5,Q6,Q7,Q8,(AC1 rp),ld]
 obtain ⟨_,A2,k1,k2,rfl⟩:=A69 (r:=R) (k:=K) (f1.wf hw) h1.cnt
 refine Aa0 k1 ?_
 obtain ⟨x,hx⟩:∃ x,x=(sureI r.n r.v R K).getD z32:=⟨_,rfl⟩
 have hxl:x.length=32:=by
  rw [hx]
  cases q:sureI r.n r.v R K with
  | none=>rfl
  | some y=>exact AD5 h1.cnt q
 rw [<- hx]
 obtain ⟨A3,t1,t2,t3⟩:=AM0 (A:=A2) hxl
 have r3:=t2.row0 (k2.row0 r1)
 have f3:=(f1.then0 k2).then0 t2
 simp only [RT,Q0,Q1,Q2,Q3,Q4,Q5,Q6,Q7,Q8,A32,t1]
 obtain ⟨_,A4,m1,rfl,m2⟩:=Ao5 (A:=A3)
 have ne:A.blk.length≠A2.blk.length:=by have:=k2.len;omega
 cases hs:sureI r.n r.v R K with
 | none =>
  have e:r.sure R K=none:=by unfold Rd.sure;rw [hs]
  obtain ⟨A5,s1,s2,s3⟩:=AH4 r3 Ab2 hxl
  simp only [RT,Q0,Q1,Q2,Q3,Q4,Q5,Q6,Q7,Q8,Bm6,Ai5 t3 hxl,Aa1,Option.isSome_none,s1]
  refine ⟨Aa3 (ha:=rfl) rfl (Ai5 t3 hxl) rfl <| Ag6 rfl rfl rfl rfl Aa1,Ag6 rfl rfl rfl rfl Aa1,?_⟩
  simp only [RT,Q0,Q1,Q2,Q3,Q4,Q5,Q6,Q7,Q8,Ai5 s3 hxl]
  exact ⟨f3.row_ s2 (Nat.le_refl _),x,hxl,by rw [e];rfl,fun id hid=>by rw [e]at hid;cases hid⟩
 | some y =>
  have hxy:x=y:=by rw [hx,hs];rfl
  have hyl:=AD5 h1.cnt hs
  simp only [RT,Q0,Q1,Q2,Q3,Q4,Q5,Q6,Q7,Q8,Bm6,Ai5 t3 hxl,Aa1,Option.isSome_some]
  refine Aa0 m1 ?_
  have r4:=m2.row0 r3
  have t4:=m2.row0 t3
  obtain ⟨A5,s1,s2,s3⟩:=AH4 r4 Ab2 hxl
  simp only [RT,Q0,Q1,Q2,Q3,Q4,Q5,Q6,Q7,Q8]
  refine ⟨Aa3 (ha:=rfl) rfl (Ai5 t4 hxl) rfl <| Af2 rfl rfl rfl rfl rfl (Ai5 t4 hxl) rfl Aa1,?_⟩
  simp only [RT,Q0,Q1,Q2,Q3,Q4,Q5,Q6,Q7,Q8,eqZ hxl Ag3,Aa1,s1]
  refine ⟨Af2 rfl rfl rfl rfl rfl (Ai5 (s2.rowNe t4 (fun q=>ne q.symm)) hxl) rfl Aa1,?_⟩
  simp only [RT,Q0,Q1,Q2,Q3,Q4,Q5,Q6,Q7,Q8,Ai5 s3 hxl]
  refine ⟨(f3.then0 m2).row_ s2 (Nat.le_refl _),x,hxl,?_,?_⟩
  . unfold Rd.sure; rw [hs]; subst hxy
    by_cases q:x=n32
    . simp [q]
    . simp [q]
  . intro id hid
    unfold Rd.sure at hid;rw [hs]at hid
    simp only []at hid
    split at hid
    . simp at hid
    . cases hid;exact hxy
end
end Go.Sv.Try
namespace Go.Sv.Try
open Go Go.Proofs
section
variable {A A' B:AS} {rp cp:Nat} {r r':Rd} {vb:Nat->Nat} {fk fa fk' fa':Option Nat} {kv av:V}
theorem Ao8 {n h k:Int} (hn:n<=7) (hn0:0<=n) (h0:-9223372036854775808<=h) (h1:h<=9223372036854775807) (k0:-9223372036854775808<=k) (k1:k<=9223372036854775807) :
 ∃ w A',EvF Try.prog HH 27 [.int .i64 n,.int .i64 h,.int .i64 k] A w A'/\A'=A/\w=.int .i64 (proposer n h k):=by
 refine Aa4 rfl Try.func27 (by unfold Try.f27;rfl) Try.ntmps27 (by unfold Try.f27;rfl) (by simp) ?_
 unfold proposer
 simp only [RT,Q0,Q1,Q2,Q3,Q4,Q5,Q6,Q7,Q8]
 by_cases q1:n < 1
 . simp only [RT, Q0, Q1, Q2, Q3, Q4, Q5, Q6, Q7, Q8, decide_eq_true q1]
   rw [if_pos (.inl q1)]
 by_cases q2:h < 0
 . simp only [RT, Q0, Q1, Q2, Q3, Q4, Q5, Q6, Q7, Q8, decide_eq_false q1, decide_eq_true q2]
   rw [if_pos (.inr (.inl q2))]
 by_cases q3:k < 0
 . simp only [RT, Q0, Q1, Q2, Q3, Q4, Q5, Q6, Q7, Q8, decide_eq_false q1, decide_eq_false q2, decide_eq_true q3]
   rw [if_pos (.inr (.inr q3))]
 rw [if_neg (by omega)]
 obtain ⟨n,rfl⟩:=Int.eq_ofNat_of_zero_le hn0
 obtain ⟨h,rfl⟩:=Int.eq_ofNat_of_zero_le (show 0<=h by omega)
 obtain ⟨k,rfl⟩:=Int.eq_ofNat_of_zero_le (show 0<=k by omega)
 have e1:(h:Int).tmod n=((h % n:Nat):Int):=rfl
 have e2:(k:Int).tmod n=((k % n:Nat):Int):=rfl
 have l1:h % n < n:=Nat.mod_lt _ (by omega)
 have l2:k % n < n:=Nat.mod_lt _ (by omega)
 have nz:¬ ((n:Int)=0):=by omega
 rw [e1,e2]
 simp only [RT,Q0,Q1,Q2,Q3,Q4,Q5,Q6,Q7,Q8,decide_eq_false q1,decide_eq_false q2,decide_eq_false q3]
 rw [BK4,Aa2 (by rfl)]
 simp only [RT,Q0,Q1,Q2,Q3,Q4,Q5,Q6,Q7,Q8,AB4,if_neg nz,e1,e2,AA4 (a:=(n:Int)) (b:=((k % n:Nat):Int)) (by omega) (by omega)]
 by_cases q:((h % n:Nat):Int) >= (n:Int) - ((k % n:Nat):Int)
 . rw [if_pos q]
   simp only [RT,Q0,Q1,Q2,Q3,Q4,Q5,Q6,Q7,Q8,decide_eq_true q,AA4 (a:=(n:Int)) (b:=((k % n:Nat):Int)) (by omega) (by omega),AA4 (a:=((h % n:Nat):Int)) (b:=(n:Int) - ((k % n:Nat):Int)) (by omega) (by omega)]
 . rw [if_neg q]
   simp only [RT,Q0,Q1,Q2,Q3,Q4,Q5,Q6,Q7,Q8,decide_eq_false q,Ae1 (n:=((h % n:Nat):Int)+((k % n:Nat):Int)) (by omega) (by omega)]
set_option maxRecDepth 10000 in
set_option maxHeartbeats 8000000 in
theorem Ax7 (hw:WF A) (h:IsRd A rp r cp vb fk fa) {k:Nat} (hk:k < 3) (h0:0<=r.now) (h12:r.now < 12) (hl:r.acts.length<=100000000):∃ w A',EvF Try.prog HH 61 [.ptr rp 0,.int .i64 (k:Int)] A w A'/\RStep A rp cp vb fk fa A' (r.timer k):=by
 refine Aa4 rfl Try.func61 (by unfold Try.f61;rfl) Try.ntmps61 (by unfold Try.f61;rfl) (by simp) ?_
 obtain ⟨kv,av,b1,b2,b3⟩:=h.box
 have ld:=Ao3 b1 h.ok
 obtain ⟨i,hi⟩:=Int.eq_ofNat_of_zero_le h0
 have hi12:i < 12:=by omega
 rw [hi]at ld
 have lt:=Ce2 b1 h.ok hi12 hk
 have hin:r.now.toNat=i:=by rw [hi];rfl
 unfold Rd.timer
 rw [hin]
 simp only [RT,Q0,Q1,Q2,Q3,Q4,Q5,Q6,Q7,Q8]
 rw [BM6,Aa2 (by rfl)]
 simp only [RT,Q0,Q1,Q2,Q3,Q4,Q5,Q6,Q7,Q8,(AC1 rp),ld,Cb7 hi12,Cb8 hk,lt]
 cases q:r.timed i k with
 | true =>
  simp only [RT,Q0,Q1,Q2,Q3,Q4,Q5,Q6,Q7,Q8]
  exact .rfl' h
 | false =>
  obtain ⟨A1,s1,s2,s3⟩:=Ce4 b1 h.ok hi12 hk
  have h1:IsRd A1 rp { r with timed:=set2 r.timed i k true } cp vb fk fa:=h.upd b1 b2 b3 s2 s3 rfl rfl rfl rfl { h.ok with }
  have ld1:=Ao3 s3 h1.ok
  have ld1:evLoad Try.prog 3 (.ptr rp 3) A1=some (.int .i64 (i:Int)):=by rw [ld1.2.2.2.1,<- hi]
  simp only [RT,Q0,Q1,Q2,Q3,Q4,Q5,Q6,Q7,Q8]
  rw [BM7,Aa2 (by rfl)]
  simp only [RT,Q0,Q1,Q2,Q3,Q4,Q5,Q6,Q7,Q8,(AC1 rp),ld,Cb7 hi12,Cb8 hk,s1,ld1,B30]
  obtain ⟨w,A2,k1,k2⟩:=AM3 (s2.wf hw) h1 (a:=⟨3,r.now,k,0,z32⟩) rfl hl
  rw [show (⟨3,r.now,k,0,z32⟩:Act)=⟨3,i,k,0,z32⟩ by rw [hi]]at k1
  refine Aa0 k1 ?_
  simp only [RT,Q0,Q1,Q2,Q3,Q4,Q5,Q6,Q7,Q8]
  exact k2.next hw (s2.mono fun _ q=>.inl q) (.inl rfl) (.inl rfl)
theorem IsRd.putv (h:IsRd A rp r cp vb fk fa) (hf:Fr (vbS vb) A B) {v':Vt} (hc:IsCnt B cp r.n v' vb):IsRd B rp { r with v:=v' } cp vb fk fa:=by
 obtain ⟨kv,av,b1,b2,b3⟩:=h.box
 have hoff:∀ fo:Option Nat,(∀ j,j < 24->fo≠some (vb j))->Off fo A (vbS vb):=by
  intro fo hfo b q f k base hf hk
  obtain ⟨j,hj,q⟩:=q
  injection q with q;subst q
  rw [h.cnt.row j hj]at hk;cases hk
  intro z
  injection z with z1 z2
  exact hfo j hj (by rw [hf,z1])
 exact { box := ⟨kv, av, hf.row _ _ b1 (fun ⟨j, hj, q⟩ => h.cnt.nevar hj b1 (by injection q with q; exact q.symm)), b2.fr hf (hoff _ fun j hj => (h.ne2 j hj).1), b3.fr hf (hoff _ fun j hj => (h.ne2 j hj).2)⟩
         cnt:=hc,ok:={ h.ok with v:=hc.len },rc:=h.rc,ne1:=h.ne1,ne2:=h.ne2 }
set_option maxRecDepth 10000 in
set_option maxHeartbeats 8000000 in
theorem Aq3 (hw:WF A) (h:IsRd A rp r cp vb fk fa) {k:Nat} (hk:k < 2) {id:Bts} (hid:id.length=32) (hl:r.acts.length<=100000000):∃ w A',EvF Try.prog HH 57 [.ptr rp 0,.int .i64 (k:Int),.agg (bc id)] A w A'/\RStep A rp cp vb fk fa A' (r.vote k id):=by
 refine Aa4 rfl Try.func57 (by unfold Try.f57;rfl) Try.ntmps57 (by unfold Try.f57;rfl) (by simp) ?_
 simp only [RT,Q0,Q1,Q2,Q3,Q4,Q5,Q6,Q7,Q8]
 obtain ⟨A1,e1,f1,r1,n1⟩:=Aa9 A (bc id)
 rw [<- e1]
 have h1:=h.fr0 f1
 have w1:=f1.wf hw
 obtain ⟨kv,av,b1,b2,b3⟩:=h1.box
 have ld:=Ao3 b1 h1.ok
 obtain ⟨_,A2,p1,p2,rfl,p3⟩:=AM2 w1 h1.cnt r.now k r.me hid
 rw [BM4,Aa2 (by rfl)]
 simp only [RT,Q0,Q1,Q2,Q3,Q4,Q5,Q6,Q7,Q8,(AC1 rp),ld,Ai5 r1 hid]
 refine Aa0 p1 ?_
 have h2:=h1.putv p2 p3
 have w2:=p2.wf w1
 have f2:Fr (rdS A1 rp vb fk fa) A1 A2:=p2.mono fun _ q=>.inr (.inl q)
 unfold Rd.vote
 have hw1:IntKind.i64.wrap (1+(k:Int))=1+(k:Int):=Ae1 (by omega) (by omega)
 by_cases q:putC r.n r.v r.now k r.me id=0
 rotate_left
 . have ev : putV r.n r.v r.now k r.me id = r.v := by unfold putV; rw [if_neg q]
   rw [ev]at h2
   obtain ⟨kv2,av2,c1,c2,c3⟩:=h2.box
   obtain ⟨A3,s1,s2,s3⟩:=(AB6 c1 h2.ok (1+(k:Int))).2.1
   have h3:IsRd A3 rp { r with step:=1+(k:Int) } cp vb fk fa:=h2.upd c1 c2 c3 s2 s3 rfl rfl rfl rfl { h2.ok with }
   simp only [RT,Q0,Q1,Q2,Q3,Q4,Q5,Q6,Q7,Q8,decide_eq_false q,(AC1 rp),hw1,s1]
   rw [if_neg q]
   exact RStep.next0 hw f1 (RStep.next w1 f2 (.inl rfl) (.inl rfl) (.upd s2 h3))
 . have r2 := p2.row _ _ r1 (fun ⟨j, hj, q⟩ => h1.cnt.nevar hj r1 (by injection q with q; exact q.symm))
   obtain ⟨kv2,av2,c1,c2,c3⟩:=h2.box
   have ld2:=Ao3 c1 h2.ok
   simp only [RT,Q0,Q1,Q2,Q3,Q4,Q5,Q6,Q7,Q8,decide_eq_true q]
   rw [BM5,Aa2 (by rfl)]
   simp only [RT,Q0,Q1,Q2,Q3,Q4,Q5,Q6,Q7,Q8,(AC1 rp),ld2,Ai5 r2 hid,B29 hid]
   obtain ⟨w,A3,k1,fk3,fa3,k2,k3,k4,k5⟩:=AM3 w2 h2 (a:=⟨2,r.now,k,0,id⟩) hid hl
   refine Aa0 k1 ?_
   obtain ⟨kv3,av3,d1,d2,d3⟩:=k5.box
   obtain ⟨A4,s1,s2,s3⟩:=(AB6 d1 k5.ok (1+(k:Int))).2.1
   have h4:=k5.upd (r':={ (({ r with v:=putV r.n r.v r.now k r.me id }:Rd).do_ ⟨2,r.now,k,0,id⟩) with step:=1+(k:Int) }) d1 d2 d3 s2 s3 rfl rfl rfl rfl { k5.ok with }
   simp only [RT,Q0,Q1,Q2,Q3,Q4,Q5,Q6,Q7,Q8,(AC1 rp),hw1,s1]
   rw [if_pos q]
   exact RStep.next0 hw f1 (RStep.next w1 f2 (.inl rfl) (.inl rfl) (RStep.next w2 k2 k3 k4 (.upd s2 h4)))
end
end Go.Sv.Try
namespace Go.Sv.Try
open Go Go.Proofs
structure Rng (r:Rd):Prop where
 me:r.me < r.n
 now:-1<=r.now/\r.now < 12
 height:0<=r.height/\r.height<=9223372036854775807
 valid:0<=r.valid/\r.valid<=1000
 locked:0<=r.locked/\r.locked<=1000
 step:0<=r.step/\r.step<=3
 known:r.known.length<=1000000
 offers:∀ i,0<=(r.offers i).valid/\(r.offers i).valid<=1000
theorem AM4 {f:Nat->Ofr} {i:Nat} {o:Ofr} (h:∀ j,(f j).id.length=32) (ho:o.id.length=32) (j:Nat):(set1 f i o j).id.length=32:=by
 unfold set1;split
 . exact ho
 . exact h j
section
variable {A A' B:AS} {rp cp:Nat} {r r':Rd} {vb:Nat->Nat} {fk fa fk' fa':Option Nat} {kv av:V}
set_option maxRecDepth 10000 in
set_option maxHeartbeats 16000000 in
theorem Ax8 (hw:WF A) (h:IsRd A rp r cp vb fk fa) (hr:Rng r) {R:Int} (hR:0<=R) (hR2:R<=9223372036854775807) (hl:r.acts.length<=10000000):∃ w A',EvF Try.prog HH 48 [.ptr rp 0,.int .i64 R] A w A'/\RStep A rp cp vb fk fa A' (r.begin R):=by
 refine Aa4 rfl Try.func48 (by unfold Try.f48;rfl) Try.ntmps48 (by unfold Try.f48;rfl) (by simp) ?_
 simp only [RT,Q0,Q1,Q2,Q3,Q4,Q5,Q6,Q7,Q8]
 have hfa:=AC1 rp
 obtain ⟨kv,av,b1,b2,b3⟩:=h.box
 unfold Rd.begin
 by_cases q12:12<=R
 . obtain ⟨A1, s1, s2, s3⟩ := (AB6 b1 h.ok 3).2.1
   have h1:IsRd A1 rp { r with step:=3 } cp vb fk fa:=h.upd b1 b2 b3 s2 s3 rfl rfl rfl rfl { h.ok with }
   simp only [RT,Q0,Q1,Q2,Q3,Q4,Q5,Q6,Q7,Q8,decide_eq_true (show R >= 12 from q12),hfa,s1]
   rw [if_pos q12]
   exact .upd s2 h1
 rw [if_neg q12]
 obtain ⟨i,rfl⟩:=Int.eq_ofNat_of_zero_le hR
 have hi12:i < 12:=by omega
 obtain ⟨A1,s1,s2,s3⟩:=(AB6 b1 h.ok (i:Int)).1
 have h1:IsRd A1 rp { r with now:=(i:Int) } cp vb fk fa:=h.upd b1 b2 b3 s2 s3 rfl rfl rfl rfl { h.ok with }
 have b2':=b2.fr s2 (.box b1)
 have b3':=b3.fr s2 (.box b1)
 obtain ⟨A2,t1,t2,t3⟩:=(AB6 s3 h1.ok 0).2.1
 have h2:IsRd A2 rp { r with now:=(i:Int),step:=0 } cp vb fk fa:=h1.upd s3 b2' b3' t2 t3 rfl rfl rfl rfl { h.ok with }
 have w1:=s2.wf hw
 have w2:=t2.wf w1
 have step2:∀ {A':AS} {r':Rd},RStep A2 rp cp vb fk fa A' r'->RStep A rp cp vb fk fa A' r':=fun k=>RStep.next hw (s2.mono fun _ q=>.inl q) (.inl rfl) (.inl rfl) (RStep.next w1 (t2.mono fun _ q=>.inl q) (.inl rfl) (.inl rfl) k)
 have ld2:=Ao3 t3 h2.ok
 obtain ⟨r1,hr1⟩:∃ r1:Rd,r1={ r with now:=(i:Int),step:=0 }:=⟨_,rfl⟩
 have en:r1.n=r.n/\r1.me=r.me/\r1.height=r.height/\r1.valid=r.valid/\r1.known=r.known/\r1.acts=r.acts/\r1.best=r.best/\r1.fresh=r.fresh/\r1.offers=r.offers/\r1.now=(i:Int)/\r1.step=0:=by rw [hr1];exact ⟨rfl,rfl,rfl,rfl,rfl,rfl,rfl,rfl,rfl,rfl,rfl⟩
 rw [<- hr1]at h2 t3 ⊢
 have hsm:=h.cnt.small
 obtain ⟨_,_,p1,hA,rfl⟩:=Ao8 (A:=A2) (n:=r.n) (h:=r.height) (k:=(i:Int)) (by omega) (by omega) (by have:=hr.height;omega) hr.height.2 (by omega) (by omega)
 rw [hA]at p1
 simp only [RT,Q0,Q1,Q2,Q3,Q4,Q5,Q6,Q7,Q8,decide_eq_false (show ¬ (i:Int) >= 12 from q12),hfa,s1,t1,BM2,ld2,Aa1]
 refine Aa0 p1 ?_
 simp only [RT,Q0,Q1,Q2,Q3,Q4,Q5,Q6,Q7,Q8,Aa1]
 refine ⟨Aa3 (ha:=rfl) rfl ld2.2.1 rfl Aa1,?_⟩
 have tm:∀ {B:AS} (hB:Fr S0 A2 B),∃ w A',EvF Try.prog HH 61 [.ptr rp 0,.int .i64 0] B w A'/\RStep A rp cp vb fk fa A' (r1.timer 0):=by
  intro B hB
  obtain ⟨w,A',k1,k2⟩:=Ax7 (hB.wf w2) (h2.fr0 hB) (k:=0) (by omega) (by rw [en.2.2.2.2.2.2.2.2.2.1];omega) (by rw [en.2.2.2.2.2.2.2.2.2.1];omega) (by rw [en.2.2.2.2.2.1];omega)
  exact ⟨w,A',k1,step2 (RStep.next0 w2 hB k2)⟩
 by_cases qp:proposer r.n r.height i=r.me
 rotate_left
 . obtain ⟨w, A3, k1, k2⟩ := tm (.refl _ _)
   simp only [RT,Q0,Q1,Q2,Q3,Q4,Q5,Q6,Q7,Q8,decide_eq_true (show ¬ (proposer (r.n:Int) r.height i=(r.me:Int)) from qp),Aa1]
   refine Aa0 k1 ?_
   simp only [RT,Q0,Q1,Q2,Q3,Q4,Q5,Q6,Q7,Q8]
   rw [if_pos qp]
   exact k2
 simp only [RT,Q0,Q1,Q2,Q3,Q4,Q5,Q6,Q7,Q8,decide_eq_false (show ¬ ¬ (proposer (r.n:Int) r.height i=(r.me:Int)) from fun q=>q qp),Aa1,hfa,ld2,A32]
 obtain ⟨A3,u1,u2,u3⟩:=AM0 (A:=A2) h.ok.fresh
 simp only [RT,Q0,Q1,Q2,Q3,Q4,Q5,Q6,Q7,Q8,u1]
 have h3:=h2.fr0 u2
 have w3:=u2.wf w2
 have ld3:=Ao3 (u2.row0 t3) h3.ok
 rw [en.2.2.2.1,en.2.2.2.2.2.2.1]at ld3
 simp only [RT,Q0,Q1,Q2,Q3,Q4,Q5,Q6,Q7,Q8,hfa,ld3]
 obtain ⟨id,hid⟩:∃ id,id=if r.valid > 0 then r.best else r.fresh:=⟨_,rfl⟩
 have hidl:id.length=32:=by rw [hid];split;exact h.ok.best;exact h.ok.fresh
 rw [if_neg (show ¬ proposer r.n r.height i≠r.me from fun q=>q qp),<- hid]
 refine Al0 (fun z e B=>Is z .normal/\e.get 0=.ptr rp 0/\e.get 1=.int .i64 i/\e.get 4=.ptr A2.blk.length 0/\Fr S0 A2 B/\B.blk[A2.blk.length]?=some ⟨bc id,.var⟩) ?_ ?_
 . refine Aa7 (fun q => ?_) (fun q => ?_)
   . rw [if_pos q] at hid
     obtain ⟨A4,y1,y2,y3⟩:=AH4 u3 h.ok.fresh h.ok.best
     simp only [RT,Q0,Q1,Q2,Q3,Q4,Q5,Q6,Q7,Q8,hfa,ld3,y1]
     exact ⟨rfl,u2.row_ y2 (Nat.le_refl _),by rw [hid];exact y3⟩
   . rw [if_neg q] at hid
     simp only [RT,Q0,Q1,Q2,Q3,Q4,Q5,Q6,Q7,Q8]
     exact ⟨rfl,u2,by rw [hid];exact u3⟩
 rintro z e B ⟨rfl,g0,g1,g4,hB,gB⟩
 have h4:=h2.fr0 hB
 have w4:=hB.wf w2
 have b4:=hB.row0 t3
 have hof:=B11 b4 h4.ok hi12
 have fof:=B26 rp (103+i * 34)
 rw [en.2.2.2.2.2.2.2.2.1]at hof
 simp only [RT,Q0,Q1,Q2,Q3,Q4,Q5,Q6,Q7,Q8,g0,g1,hfa,Bb7 hi12,fof,hof]
 rw [show ((i:Int)).toNat=i from rfl]
 cases qt:(r.offers i).there with
 | true =>
  simp only [RT,Q0,Q1,Q2,Q3,Q4,Q5,Q6,Q7,Q8]
  exact step2 (.of0 h2 hB)
 | false =>
  simp only [RT,Q0,Q1,Q2,Q3,Q4,Q5,Q6,Q7,Q8,g4,Ai5 gB hidl,Am4,eqZ hidl Ab2]
  by_cases qz:id=z32
  . obtain ⟨w, A5, k1, k2⟩ := tm hB
    simp only [RT,Q0,Q1,Q2,Q3,Q4,Q5,Q6,Q7,Q8,decide_eq_true qz,g0]
    refine Aa0 k1 ?_
    simp only [RT,Q0,Q1,Q2,Q3,Q4,Q5,Q6,Q7,Q8]
    rw [if_pos (.inl qz)]
    exact k2
  have ld4:=Ao3 b4 h4.ok
  rw [en.2.2.2.1]at ld4
  have last:∀ {C:AS},Fr S0 A2 C->C.blk[A2.blk.length]?=some ⟨bc id,.var⟩->∃ D E w,evStore Try.prog 85 (.ptr rp (103+i * 34)) (.agg (offC ⟨true,r.valid,id⟩)) C=some D/\evLoad Try.prog 3 (.ptr rp 6) C=some (.int .i64 r.valid)/\evLoad Try.prog 23 (.ptr A2.blk.length 0) C=some (.agg (bc id))/\evLoad Try.prog 3 (.ptr rp 6) D=some (.int .i64 r.valid)/\evLoad Try.prog 23 (.ptr A2.blk.length 0) D=some (.agg (bc id))
   /\ EvF Try.prog HH 62 [.ptr rp 0,.agg (actC ⟨1,i,0,r.valid,id⟩)] D w E/\RStep A rp cp vb fk fa E (({ r1 with offers:=set1 r1.offers i ⟨true,r.valid,id⟩ }:Rd).do_ ⟨1,i,0,r.valid,id⟩):=by
   intro C hC gC
   have hc:=h2.fr0 hC
   have wC:=hC.wf w2
   obtain ⟨kv5,av5,c1,c2,c3⟩:=hc.box
   have ldc:=Ao3 c1 hc.ok
   rw [en.2.2.2.1]at ldc
   obtain ⟨D,x1,x2,x3⟩:=B27 c1 hc.ok (o:=⟨true,r.valid,id⟩) hidl hi12
   have hD:=hc.upd (r':={ r1 with offers:=set1 r1.offers i ⟨true,r.valid,id⟩ }) c1 c2 c3 x2 x3 rfl rfl rfl rfl { hc.ok with offers:=AM4 hc.ok.offers hidl }
   have ldd:=Ao3 x3 hD.ok
   have hne:A2.blk.length≠rp:=by have:=Ac3 t3;omega
   have gD:=x2.rowNe gC hne
   obtain ⟨w,E,k1,k2⟩:=AM3 (x2.wf wC) hD (a:=⟨1,i,0,r.valid,id⟩) hidl (by show r1.acts.length<=_;rw [en.2.2.2.2.2.1];omega)
   refine ⟨D,E,w,x1,ldc.2.2.2.2.2.2.1,Ai5 gC hidl,?_,Ai5 gD hidl,k1,step2 (RStep.next0 w2 hC (RStep.next wC (x2.mono fun _ q=>.inl q) (.inl rfl) (.inl rfl) k2))⟩
   rw [ldd.2.2.2.2.2.2.1];show some (V.int .i64 r1.valid)=_;rw [en.2.2.2.1]
  simp only [RT,Q0,Q1,Q2,Q3,Q4,Q5,Q6,Q7,Q8,decide_eq_false qz,g0,hfa,ld4]
  by_cases qv:r.valid > 0
  rotate_left
  . obtain ⟨D, E, w, x1, x2, x3, x4, x5, x6, x7⟩ := last hB gB
    simp only [RT,Q0,Q1,Q2,Q3,Q4,Q5,Q6,Q7,Q8,decide_eq_false qv]
    rw [Bm2,Aa2 (by rfl)]
    simp only [RT,Q0,Q1,Q2,Q3,Q4,Q5,Q6,Q7,Q8,g0,g1,hfa,x2,g4,x3,Bn3 hidl,Bb7 hi12,x1]
    rw [Bm3,Aa2 (by rfl)]
    simp only [RT,Q0,Q1,Q2,Q3,Q4,Q5,Q6,Q7,Q8,g0,g1,hfa,x4,g4,x5,BP2 hidl]
    refine Aa0 x6 ?_
    simp only [RT,Q0,Q1,Q2,Q3,Q4,Q5,Q6,Q7,Q8]
    rw [if_neg (by rintro (z | z);exact qz z;exact qv z.1)]
    exact x7
  obtain ⟨_,C,m1,m2,rfl⟩:=Av0 w4 h4 hidl (by rw [en.2.2.2.2.1];have:=hr.known;omega)
  simp only [RT,Q0,Q1,Q2,Q3,Q4,Q5,Q6,Q7,Q8,decide_eq_true qv,g0,g4,Ai5 gB hidl]
  rw [en.2.2.2.2.1]at m1
  refine Aa0 m1 ?_
  have hC:=hB.then0 m2
  have gC:=m2.row0 gB
  by_cases qk:id∈r.known
  . obtain ⟨D, E, w, x1, x2, x3, x4, x5, x6, x7⟩ := last hC gC
    simp only [RT,Q0,Q1,Q2,Q3,Q4,Q5,Q6,Q7,Q8,decide_eq_true qk]
    rw [Bm2,Aa2 (by rfl)]
    simp only [RT,Q0,Q1,Q2,Q3,Q4,Q5,Q6,Q7,Q8,g0,g1,hfa,x2,g4,x3,Bn3 hidl,Bb7 hi12,x1]
    rw [Bm3,Aa2 (by rfl)]
    simp only [RT,Q0,Q1,Q2,Q3,Q4,Q5,Q6,Q7,Q8,g0,g1,hfa,x4,g4,x5,BP2 hidl]
    refine Aa0 x6 ?_
    simp only [RT,Q0,Q1,Q2,Q3,Q4,Q5,Q6,Q7,Q8]
    rw [if_neg (by rintro (z | z);exact qz z;exact z.2 qk)]
    exact x7
  . obtain ⟨w, A5, k1, k2⟩ := tm hC
    simp only [RT,Q0,Q1,Q2,Q3,Q4,Q5,Q6,Q7,Q8,decide_eq_false qk,g0]
    refine Aa0 k1 ?_
    simp only [RT,Q0,Q1,Q2,Q3,Q4,Q5,Q6,Q7,Q8]
    rw [if_pos (.inr ⟨qv,qk⟩)]
    exact k2
end
end Go.Sv.Try
namespace Go.Sv
open Go
theorem Al2 {P:Program} {H:Hints} {f:FuncId} {nt:Nat} {a:Kt} {k2:List Kt} {x:Ex} {e:Env} {A:AS} {Q:Ex->Env->AS->Prop} (R:Ex->Env->AS->Prop) (h:Run P H f nt [a] x e A R) (hk:∀ x e A,R x e A->Run P H f nt k2 x e A Q):Run P H f nt (a::k2) x e A Q:=Ah2 (k1:=[a]) h hk
end Go.Sv
namespace Go.Sv.Try
open Go Go.Proofs
def rest2 (r:Rd):Rd×Bool :=
 if r.step=1/\need r.n<=forI r.n r.v r.now 0 n32 then (r.vote 1 n32,true) else
 let r1:=if r.step=1/\need r.n<=allI r.n r.v r.now 0 then r.timer 1 else r
 (if need r.n<=allI r.n r.v r.now 1 then r1.timer 2 else r1,false)
def newSure (r:Rd) (id:Bts):Prop:=r.sure r.now 0=some id/\id∈r.known/\r.step >= 1/\r.valid≠r.now+1
theorem A34 {r:Rd} {id:Bts} (h:newSure r id):r.rest=(if r.step=1 then ({ r with valid:=r.now+1,best:=id,locked:=r.now+1,lock:=id }:Rd).vote 1 id else { r with valid:=r.now+1,best:=id },true):=by
 unfold Rd.rest;simp only [];rw [h.1];simp only [];rw [if_pos h.2]
theorem Bc8 {r:Rd} (h:∀ id,¬ newSure r id):r.rest=rest2 r:=by
 unfold Rd.rest;simp only []
 cases q:r.sure r.now 0 with
 | none=>rfl
 | some id=>simp only [];rw [if_neg (fun w=>h id ⟨q,w⟩)];rfl
section
variable {A A' B:AS} {rp cp:Nat} {r r':Rd} {vb:Nat->Nat} {fk fa fk' fa':Option Nat} {kv av:V}
set_option maxRecDepth 10000 in
set_option maxHeartbeats 16000000 in
theorem Bc9 (hw:WF A) (h:IsRd A rp r cp vb fk fa) (hr:Rng r) (h0:0<=r.now) (hl:r.acts.length<=10000000):∃ w A',EvF Try.prog HH 69 [.ptr rp 0] A w A'/\RStep A rp cp vb fk fa A' r.rest.1/\w=.bool r.rest.2:=by
 refine Aa4 rfl Try.func69 (by unfold Try.f69;rfl) Try.ntmps69 (by unfold Try.f69;rfl) (by simp) ?_
 simp only [RT,Q0,Q1,Q2,Q3,Q4,Q5,Q6,Q7,Q8]
 have hfa:=AC1 rp
 have hsm:=h.cnt.small
 have hnow:=hr.now
 have ldA:=fun {B:AS} (hB:Fr S0 A B)=>(by obtain ⟨kv,av,b1,_⟩:=(h.fr0 hB).box;exact ⟨kv,av,b1,Ao3 b1 h.ok⟩:∃ kv av,B.blk[rp]?=some ⟨encR r kv av cp,.var⟩/\_)
 obtain ⟨kv,av,b1,b2,b3⟩:=h.box
 have ld:=Ao3 b1 h.ok
 simp only [RT,Q0,Q1,Q2,Q3,Q4,Q5,Q6,Q7,Q8,hfa,ld]
 obtain ⟨_,A1,k1,k2,x,hx,rfl,hsx⟩:=AD6 hw h r.now 0
 refine Aa0 k1 ?_
 obtain ⟨A2,t1,t2,t3⟩:=AM0 (A:=A1) hx
 simp only [RT,Q0,Q1,Q2,Q3,Q4,Q5,Q6,Q7,Q8,A32,t1]
 have f2:=k2.then0 t2
 have w2:=f2.wf hw
 have h2:=h.fr0 f2
 obtain ⟨xb,hxb⟩:∃ b,b=A1.blk.length:=⟨_,rfl⟩
 rw [<- hxb]at t3 ⊢
 have bx:=f2.row0 b1
 have ld2:=Ao3 bx h2.ok
 have wn1:IntKind.i64.wrap (r.now+1)=r.now+1:=Ae1 (by omega) (by omega)
 rw [BN1,Aa2 (by rfl)]
 refine Al2 (fun z e B=>Is z .normal/\e.get 0=.ptr rp 0/\e.get 3=.ptr xb 0/\Fr S0 A2 B/\∃ c:Bool,e.get 14=.bool c/\(c=true->newSure r x)/\(c=false->∀ id,¬ newSure r id)) ?_ ?_
 . cases hs : r.sure r.now 0 with
   | none =>
    simp only [RT,Q0,Q1,Q2,Q3,Q4,Q5,Q6,Q7,Q8,Option.isSome_none]
    exact ⟨rfl,.refl _ _,false,rfl,(fun q=>by simp at q),fun _ id q=>by have:=q.1;rw [hs]at this;simp at this⟩
   | some id =>
    obtain rfl:=hsx id hs
    simp only [RT,Q0,Q1,Q2,Q3,Q4,Q5,Q6,Q7,Q8,Option.isSome_some,Ai5 t3 hx]
    obtain ⟨_,A3,m1,m2,rfl⟩:=Av0 w2 h2 hx (by have:=hr.known;omega)
    refine Aa0 m1 ?_
    have ld3:=Ao3 (m2.row0 bx) h2.ok
    by_cases q1:x∈r.known
    rotate_left
    . simp only [RT, Q0, Q1, Q2, Q3, Q4, Q5, Q6, Q7, Q8, decide_eq_false q1]
      exact ⟨rfl,m2,false,rfl,(fun q=>by simp at q),fun _ id q=>by have:=q.1;rw [hs]at this;cases this;exact q1 q.2.1⟩
    by_cases q2:r.step >= 1
    rotate_left
    . simp only [RT, Q0, Q1, Q2, Q3, Q4, Q5, Q6, Q7, Q8, decide_eq_true q1, hfa, ld3, decide_eq_false q2]
      exact ⟨rfl,m2,false,rfl,(fun q=>by simp at q),fun _ id q=>q2 q.2.2.1⟩
    simp only [RT,Q0,Q1,Q2,Q3,Q4,Q5,Q6,Q7,Q8,decide_eq_true q1,hfa,ld3,decide_eq_true q2,wn1]
    refine ⟨rfl,m2,decide (¬ r.valid=r.now+1),rfl,fun q=>⟨hs,q1,q2,of_decide_eq_true q⟩,fun q id z=>of_decide_eq_false q z.2.2.2⟩
 rintro z e B ⟨rfl,g0,g3,hB,c,g14,hc1,hc2⟩
 have fB:=f2.then0 hB
 have wB:=fB.wf hw
 have hBr:=h.fr0 fB
 have bB:=fB.row0 b1
 have ldB:=Ao3 bB hBr.ok
 have gx:=hB.row0 t3
 have bk:=b2.fr0 fB
 have ba:=b3.fr0 fB
 cases c with
 | true =>
  have hns:=hc1 rfl
  rw [A34 hns]
  obtain ⟨C,s1,s2,s3⟩:=(AB6 bB hBr.ok (r.now+1)).2.2.2
  have hC:IsRd C rp { r with valid:=r.now+1 } cp vb fk fa:=hBr.upd bB bk ba s2 s3 rfl rfl rfl rfl { h.ok with }
  have nexr:xb≠rp:=by have:=Ac3 b1;have:=k2.len;omega
  have gC:=s2.rowNe gx nexr
  obtain ⟨D,y1,y2,y3⟩:=(BO8 s3 hC.ok hx).2.1
  have hD:IsRd D rp { r with valid:=r.now+1,best:=x } cp vb fk fa:=hC.upd s3 (bk.fr s2 (.box bB)) (ba.fr s2 (.box bB)) y2 y3 rfl rfl rfl rfl { h.ok with best:=hx }
  have gD:=y2.rowNe gC nexr
  have ldD:=Ao3 y3 hD.ok
  have stepD:∀ {A':AS} {r':Rd},RStep D rp cp vb fk fa A' r'->RStep A rp cp vb fk fa A' r':=fun k=>RStep.next0 hw fB (RStep.next wB (s2.mono fun _ q=>.inl q) (.inl rfl) (.inl rfl) (RStep.next (s2.wf wB) (y2.mono fun _ q=>.inl q) (.inl rfl) (.inl rfl) k))
  simp only [RT,Q0,Q1,Q2,Q3,Q4,Q5,Q6,Q7,Q8,g14,BN2,g0,hfa,ldB,wn1,g3,Ai5 gx hx,s1,Aa1]
  refine ⟨Aa3 (ha:=rfl) rfl (by show evLoad _ _ (e.get 3) _=_;rw [g3];exact Ai5 gC hx) rfl Aa1,?_⟩
  simp only [RT,Q0,Q1,Q2,Q3,Q4,Q5,Q6,Q7,Q8,hfa,y1,Aa1,g0,ldD]
  by_cases q:r.step=1
  . obtain ⟨E, z1, z2, z3⟩ := (AB6 y3 hD.ok (r.now + 1)).2.2.1
    have hE:IsRd E rp { r with valid:=r.now+1,best:=x,locked:=r.now+1 } cp vb fk fa:=hD.upd y3 ((bk.fr s2 (.box bB)).fr y2 (.box s3)) ((ba.fr s2 (.box bB)).fr y2 (.box s3)) z2 z3 rfl rfl rfl rfl { hD.ok with }
    have gE:=z2.rowNe gD nexr
    obtain ⟨G,u1,u2,u3⟩:=(BO8 z3 hE.ok hx).1
    have hG:IsRd G rp { r with valid:=r.now+1,best:=x,locked:=r.now+1,lock:=x } cp vb fk fa:=hE.upd z3 (((bk.fr s2 (.box bB)).fr y2 (.box s3)).fr z2 (.box y3)) (((ba.fr s2 (.box bB)).fr y2 (.box s3)).fr z2 (.box y3)) u2 u3 rfl rfl rfl rfl { hE.ok with lock:=hx }
    have gG:=u2.rowNe gE nexr
    have wD:=y2.wf (s2.wf wB)
    obtain ⟨w,I,i1,i2⟩:=Aq3 (k:=1) (u2.wf (z2.wf wD)) hG (by omega) hx (by show r.acts.length<=_;omega)
    have i1:EvF Try.prog HH 57 [.ptr rp 0,.int .i64 1,.agg (bc x)] G w I:=i1
    simp only [RT,Q0,Q1,Q2,Q3,Q4,Q5,Q6,Q7,Q8,decide_eq_true q,BN3,g0,hfa,ldD,wn1,g3,Ai5 gD hx,z1,Aa1]
    refine ⟨Aa3 (ha:=rfl) rfl (by show evLoad _ _ (e.get 3) _=_;rw [g3];exact Ai5 gE hx) rfl Aa1,?_⟩
    simp only [RT,Q0,Q1,Q2,Q3,Q4,Q5,Q6,Q7,Q8,hfa,u1,Aa1,g0,g3,Ai5 gG hx]
    refine Aa0 i1 ?_
    simp only [RT,Q0,Q1,Q2,Q3,Q4,Q5,Q6,Q7,Q8]
    rw [if_pos q]
    exact stepD (RStep.next wD (z2.mono fun _ q=>.inl q) (.inl rfl) (.inl rfl) (RStep.next (z2.wf wD) (u2.mono fun _ q=>.inl q) (.inl rfl) (.inl rfl) i2))
  . simp only [RT, Q0, Q1, Q2, Q3, Q4, Q5, Q6, Q7, Q8, decide_eq_false q]
    rw [if_neg q]
    exact stepD (.rfl' hD)
 | false =>
  rw [Bc8 (hc2 rfl)]
  simp only [RT,Q0,Q1,Q2,Q3,Q4,Q5,Q6,Q7,Q8,g14]
  refine Al2 (fun z e C=>Is z .normal/\e.get 0=.ptr rp 0/\Fr S0 B C/\e.get 72=.bool (decide (r.step=1/\need r.n<=forI r.n r.v r.now 0 n32))) ?_ ?_
  . simp only [RT, Q0, Q1, Q2, Q3, Q4, Q5, Q6, Q7, Q8, BN4, g0, hfa, ldB, Aa1]
    by_cases q:r.step=1
    rotate_left
    . simp only [RT, Q0, Q1, Q2, Q3, Q4, Q5, Q6, Q7, Q8, decide_eq_false q, Aa1]
      refine ⟨Ag6 rfl rfl rfl rfl <| Ag6 rfl rfl rfl rfl <| Ag6 rfl rfl rfl rfl Aa1,Ag6 rfl rfl rfl rfl Aa1,?_⟩
      exact ⟨rfl,g0,.refl _ _,by rw [decide_eq_false (fun z=>q z.1)]⟩
    obtain ⟨_,C1,m1,rfl,m2⟩:=Ao5 (A:=B)
    have ldC1:=Ao3 (m2.row0 bB) hBr.ok
    obtain ⟨_,C2,p1,p2,rfl⟩:=A33 (r:=r.now) (k:=0) (m2.wf wB) (hBr.fr0 m2).cnt Ag3
    have ldC2:=Ao3 (p2.row0 (m2.row0 bB)) hBr.ok
    obtain ⟨_,_,y1,hC,rfl⟩:=Au9 (A:=C2) h.cnt.ok
    rw [hC]at y1
    simp only [RT,Q0,Q1,Q2,Q3,Q4,Q5,Q6,Q7,Q8,decide_eq_true q,g0,hfa,ldB,Aa1]
    refine Aa0 m1 ?_
    simp only [RT,Q0,Q1,Q2,Q3,Q4,Q5,Q6,Q7,Q8]
    refine ⟨Af2 rfl rfl rfl rfl rfl ldC1.2.2.2.2.2.2.2.2.2.2.2.1 rfl <| Af2 rfl rfl rfl rfl rfl ldC1.2.2.2.1 rfl <| Af2 rfl rfl rfl rfl rfl ldC1.1 rfl Aa1,?_⟩
    refine Aa0 p1 ?_
    simp only [RT,Q0,Q1,Q2,Q3,Q4,Q5,Q6,Q7,Q8]
    refine ⟨Af2 rfl rfl rfl rfl rfl ldC2.1 rfl Aa1,?_⟩
    refine Aa0 y1 ?_
    simp only [RT,Q0,Q1,Q2,Q3,Q4,Q5,Q6,Q7,Q8,Aa1]
    refine ⟨rfl,g0,m2.then0 p2,?_⟩
    congr 1
    rw [decide_eq_decide]
    constructor
    . intro z;exact ⟨q,by omega⟩
    . intro z;have:=z.2;omega
  clear g0 g3 g14
  rintro z e C ⟨rfl,g0,hC,g72⟩
  have fC:=fB.then0 hC
  have wC:=fC.wf hw
  have hCr:=h.fr0 fC
  have bC:=fC.row0 b1
  have ldC:=Ao3 bC hCr.ok
  unfold rest2
  by_cases qv:r.step=1/\need r.n<=forI r.n r.v r.now 0 n32
  . rw [if_pos qv]
    obtain ⟨_,C1,m1,rfl,m2⟩:=Ao5 (A:=C)
    obtain ⟨w,I,i1,i2⟩:=Aq3 (k:=1) (m2.wf wC) (hCr.fr0 m2) (by omega) Ag3 (by omega)
    have i1:EvF Try.prog HH 57 [.ptr rp 0,.int .i64 1,.agg (bc n32)] C1 w I:=i1
    rw [decide_eq_true qv]at g72
    simp only [RT,Q0,Q1,Q2,Q3,Q4,Q5,Q6,Q7,Q8,g72,g0]
    refine Aa0 m1 ?_
    simp only [RT,Q0,Q1,Q2,Q3,Q4,Q5,Q6,Q7,Q8]
    refine Aa0 i1 ?_
    simp only [RT,Q0,Q1,Q2,Q3,Q4,Q5,Q6,Q7,Q8]
    exact RStep.next0 hw (fC.then0 m2) i2
  rw [if_neg qv]
  rw [decide_eq_false qv]at g72
  simp only [RT,Q0,Q1,Q2,Q3,Q4,Q5,Q6,Q7,Q8,g72]
  refine Al2 (fun z e D=>Is z .normal/\e.get 0=.ptr rp 0/\Fr S0 C D/\e.get 120=.bool (decide (r.step=1/\need r.n<=allI r.n r.v r.now 0))) ?_ ?_
  . simp only [RT, Q0, Q1, Q2, Q3, Q4, Q5, Q6, Q7, Q8, Bx7, g0, hfa, ldC, Aa1]
    by_cases q:r.step=1
    rotate_left
    . simp only [RT, Q0, Q1, Q2, Q3, Q4, Q5, Q6, Q7, Q8, decide_eq_false q, Aa1]
      refine ⟨Ag6 rfl rfl rfl rfl Aa1,?_⟩
      exact ⟨rfl,g0,.refl _ _,by rw [decide_eq_false (fun z=>q z.1)]⟩
    obtain ⟨_,C2,p1,p2,rfl⟩:=AA3 (r:=r.now) (k:=0) wC hCr.cnt
    have ldC2:=Ao3 (p2.row0 bC) hBr.ok
    obtain ⟨_,_,y1,hC,rfl⟩:=Au9 (A:=C2) h.cnt.ok
    rw [hC]at y1
    simp only [RT,Q0,Q1,Q2,Q3,Q4,Q5,Q6,Q7,Q8,decide_eq_true q,g0,hfa,ldC,Aa1]
    refine Aa0 p1 ?_
    simp only [RT,Q0,Q1,Q2,Q3,Q4,Q5,Q6,Q7,Q8]
    refine ⟨Af2 rfl rfl rfl rfl rfl ldC2.1 rfl Aa1,?_⟩
    refine Aa0 y1 ?_
    simp only [RT,Q0,Q1,Q2,Q3,Q4,Q5,Q6,Q7,Q8,Aa1]
    refine ⟨rfl,g0,p2,?_⟩
    congr 1
    rw [decide_eq_decide]
    constructor
    . intro z;exact ⟨q,by omega⟩
    . intro z;have:=z.2;omega
  clear g0 g72
  rintro z e D ⟨rfl,g0,hD,g120⟩
  have fD:=fC.then0 hD
  have wD:=fD.wf hw
  have hDr:=h.fr0 fD
  obtain ⟨r1,hr1⟩:∃ r1:Rd,r1=if r.step=1/\need r.n<=allI r.n r.v r.now 0 then r.timer 1 else r:=⟨_,rfl⟩
  have hkeep:r1.n=r.n/\r1.v=r.v/\r1.now=r.now/\r1.acts.length<=r.acts.length+1:=by
   rw [hr1];split
   . unfold Rd.timer; split
     . exact ⟨rfl,rfl,rfl,by omega⟩
     . exact ⟨rfl,rfl,rfl,by simp [Rd.do_]⟩
   . exact ⟨rfl,rfl,rfl,by omega⟩
  rw [<- hr1]
  refine Al2 (fun z e G=>Is z .normal/\e.get 0=.ptr rp 0/\∃ fk1 fa1,Fr (rdS A rp vb fk fa) A G/\Gr A fk fk1/\Gr A fa fa1/\IsRd G rp r1 cp vb fk1 fa1) ?_ ?_
  . by_cases q : r.step = 1 /\ need r.n <= allI r.n r.v r.now 0
    . rw [if_pos q] at hr1
      rw [decide_eq_true q]at g120
      obtain ⟨w,I,i1,i2⟩:=Ax7 (k:=1) wD hDr (by omega) h0 hr.now.2 (by omega)
      have i1:EvF Try.prog HH 61 [.ptr rp 0,.int .i64 1] D w I:=i1
      obtain ⟨fk1,fa1,j1,j2,j3,j4⟩:=RStep.next0 hw fD i2
      simp only [RT,Q0,Q1,Q2,Q3,Q4,Q5,Q6,Q7,Q8,g120,g0]
      refine Aa0 i1 ?_
      simp only [RT,Q0,Q1,Q2,Q3,Q4,Q5,Q6,Q7,Q8]
      exact ⟨rfl,g0,fk1,fa1,j1,j2,j3,by rw [hr1];exact j4⟩
    . rw [if_neg q] at hr1
      rw [decide_eq_false q]at g120
      simp only [RT,Q0,Q1,Q2,Q3,Q4,Q5,Q6,Q7,Q8,g120]
      exact ⟨rfl,g0,fk,fa,fD.mono fun _ q=>q.elim,.inl rfl,.inl rfl,by rw [hr1];exact hDr⟩
  clear g0 g120
  rintro z e G ⟨rfl,g0,fk1,fa1,j1,j2,j3,j4⟩
  have wG:=j1.wf hw
  obtain ⟨kvg,avg,c1,c2,c3⟩:=j4.box
  have ldG:=Ao3 c1 j4.ok
  rw [hkeep.1,hkeep.2.2.1]at ldG
  simp only [RT,Q0,Q1,Q2,Q3,Q4,Q5,Q6,Q7,Q8]
  refine Al2 (fun z e H=>Is z .normal/\e.get 0=.ptr rp 0/\Fr S0 G H/\e.get 137=.bool (decide (need r.n<=allI r.n r.v r.now 1))) ?_ ?_
  . simp only [RT, Q0, Q1, Q2, Q3, Q4, Q5, Q6, Q7, Q8, Bx8, g0, hfa, ldG, Aa1]
    obtain ⟨_,C2,p1,p2,rfl⟩:=AA3 (r:=r.now) (k:=1) wG j4.cnt
    rw [hkeep.1,hkeep.2.1]at p1
    have ldC2:=Ao3 (p2.row0 c1) j4.ok
    rw [hkeep.1,hkeep.2.2.1]at ldC2
    obtain ⟨_,_,y1,hC,rfl⟩:=Au9 (A:=C2) h.cnt.ok
    rw [hC]at y1
    refine Aa0 p1 ?_
    simp only [RT,Q0,Q1,Q2,Q3,Q4,Q5,Q6,Q7,Q8]
    refine ⟨Aa3 (ha:=rfl) rfl ldC2.1 rfl Aa1,?_⟩
    refine Aa0 y1 ?_
    simp only [RT,Q0,Q1,Q2,Q3,Q4,Q5,Q6,Q7,Q8,Aa1]
    refine ⟨rfl,g0,p2,?_⟩
    congr 1
    rw [decide_eq_decide];omega
  clear g0
  rintro z e H ⟨rfl,g0,hH,g137⟩
  have hHr:=j4.fr0 hH
  by_cases q:need r.n<=allI r.n r.v r.now 1
  . rw [decide_eq_true q] at g137
    obtain ⟨w,I,i1,i2⟩:=Ax7 (k:=2) (hH.wf wG) hHr (by omega) (by rw [hkeep.2.2.1];exact h0) (by rw [hkeep.2.2.1];exact hr.now.2) (by omega)
    have i1:EvF Try.prog HH 61 [.ptr rp 0,.int .i64 2] H w I:=i1
    simp only [RT,Q0,Q1,Q2,Q3,Q4,Q5,Q6,Q7,Q8,g137,g0]
    refine Aa0 i1 ?_
    simp only [RT,Q0,Q1,Q2,Q3,Q4,Q5,Q6,Q7,Q8]
    rw [if_pos q]
    exact RStep.next hw j1 j2 j3 (RStep.next0 wG hH i2)
  . rw [decide_eq_false q] at g137
    simp only [RT,Q0,Q1,Q2,Q3,Q4,Q5,Q6,Q7,Q8,g137]
    rw [if_neg q]
    exact RStep.next hw j1 j2 j3 (.of0 j4 hH)
end
end Go.Sv.Try
namespace Go.Sv
open Go
theorem Bn5 {P:Program} {H:Hints} {f:FuncId} {nt:Nat} {a b c:Kt} {k2:List Kt} {x:Ex} {e:Env} {A:AS} {Q:Ex->Env->AS->Prop} (R:Ex->Env->AS->Prop) (h:Run P H f nt [a,b,c] x e A R) (hk:∀ x e A,R x e A->Run P H f nt k2 x e A Q):Run P H f nt (a::b::c::k2) x e A Q:=Ah2 (k1:=[a,b,c]) h hk
end Go.Sv
namespace Go.Sv.Try
open Go Go.Proofs
theorem Bd0 {r:Rd} {k:Nat} {id:Bts} (hk:k < 12) (h1:r.sure k 1=some id) (h2:id∈r.known) (hb:∀ j:Nat,j < k->∀ id,r.sure j 1=some id->¬ id∈r.known):r.agreed=some (k,id):=by
 unfold Rd.agreed
 have key:∀ m,m<=12->k < m->(List.range m).findSome? (fun (k:Nat)=>match r.sure (k:Int) 1 with
  | some id=>if id∈r.known then some (k,id) else none
  | none=>none)=some (k,id):=by
  intro m
  induction m with
  | zero=>intro _ q;omega
  | succ m ih =>
   intro hm hkm
   rw [List.range_succ,List.findSome?_append]
   rcases Nat.lt_or_ge k m with q | q
   . rw [ih (by omega) q];rfl
   . have e : k = m := by omega
     subst e
     have e0:(List.range k).findSome? (fun (k:Nat)=>match r.sure (k:Int) 1 with
      | some id=>if id∈r.known then some (k,id) else none
      | none=>none)=none:=by
      rw [List.findSome?_eq_none_iff]
      intro j hj
      have hj:=List.mem_range.1 hj
      cases q:r.sure (j:Int) 1 with
      | none=>rfl
      | some y=>simp only [];rw [if_neg (hb j hj y q)]
     rw [e0]
     simp only [List.findSome?_cons,h1,if_pos h2];rfl
 exact key 12 (by omega) hk
theorem Bd1 {r:Rd} (hb:∀ j:Nat,j < 12->∀ id,r.sure j 1=some id->¬ id∈r.known):r.agreed=none:=by
 unfold Rd.agreed
 rw [List.findSome?_eq_none_iff]
 intro j hj
 have hj:=List.mem_range.1 hj
 cases q:r.sure (j:Int) 1 with
 | none=>rfl
 | some y=>simp only [];rw [if_neg (hb j hj y q)]
section
variable {r:Rd} (h0:¬ r.now < 0) (h3:¬ r.step=3)
include h0 h3
theorem AY1 {k:Nat} {id:Bts} (h:r.agreed=some (k,id)):r.rule=(({ r with step:=3 }:Rd).do_ ⟨4,k,0,0,id⟩,true):=by
 unfold Rd.rule;rw [if_neg (by rintro (z | z);exact h0 z;exact h3 z),h]
theorem A71 {k:Nat} (h:r.agreed=none) (h':aheadI r.n r.v r.now=some k):r.rule=(r.begin k,true):=by
 unfold Rd.rule;rw [if_neg (by rintro (z | z);exact h0 z;exact h3 z),h,h']
def offered (r:Rd):Prop:=r.step=0/\(r.offers r.now.toNat).there=true/\(r.offers r.now.toNat).id∈r.known
theorem Bd2 {id:Bts} (h:r.agreed=none) (h':aheadI r.n r.v r.now=none) (c:offered r) (hc:r.choice (r.offers r.now.toNat)=some id):r.rule=(r.vote 0 id,true):=by
 unfold Rd.rule;rw [if_neg (by rintro (z | z);exact h0 z;exact h3 z),h,h'];simp only [];unfold offered at c;rw [if_pos c,hc]
theorem Bd3 (h:r.agreed=none) (h':aheadI r.n r.v r.now=none) (c:offered r) (hc:r.choice (r.offers r.now.toNat)=none):r.rule=r.rest:=by
 unfold Rd.rule;rw [if_neg (by rintro (z | z);exact h0 z;exact h3 z),h,h'];simp only [];unfold offered at c;rw [if_pos c,hc]
theorem AD7 (h:r.agreed=none) (h':aheadI r.n r.v r.now=none) (c:¬ offered r):r.rule=r.rest:=by
 unfold Rd.rule;rw [if_neg (by rintro (z | z);exact h0 z;exact h3 z),h,h'];simp only [];unfold offered at c;rw [if_neg c]
end
section
variable {A A' B:AS} {rp cp:Nat} {r r':Rd} {vb:Nat->Nat} {fk fa fk' fa':Option Nat} {kv av:V}
theorem BP6 {A:AS} {o:Ofr} (h:o.id.length=32):∃ A',evStore Try.prog 85 (.ptr A.blk.length 0) (.agg (offC o)) (A.push ⟨offC off0,.var⟩)=some A'/\Fr S0 A A'/\A'.blk[A.blk.length]?=some ⟨offC o,.var⟩:=by
 obtain ⟨A2,s1,s2,s3,s4⟩:=Ai4 (P:=Try.prog) A (z:=offC off0) (t:=85) (x:=.agg (offC o)) (cs:=offC o) rfl (by rw [Ad0 h];exact BN8) (by rw [Ad0 h];rfl) (AL9 o)
 exact ⟨A2,s1,s2,s3⟩
theorem BP7:(zeroT Try.prog 85).bind V.cells=some (offC off0):=by kernel_rfl
theorem BO3 {A:AS} {b:Nat} {k:BK} {o:Ofr} (hb:A.blk[b]?=some ⟨offC o,k⟩) (h:o.id.length=32):evLoad Try.prog 4 (.ptr b 0) A=some (.bool o.there)/\evLoad Try.prog 3 (.ptr b 1) A=some (.int .i64 o.valid)/\evLoad Try.prog 23 (.ptr b 2) A=some (.agg (bc o.id)) :=
 ⟨At.load1 hb (o:=0) ⟨[],.int .i64 o.valid::bc o.id,rfl,rfl⟩ ag4,At.load1 hb (o:=1) ⟨[.bool o.there],bc o.id,rfl,rfl⟩ ag3,At.load hb (o:=2) ⟨[.bool o.there,.int .i64 o.valid],[],by simp [offC],rfl⟩ AX5 AH3 (by rw [Aa5,h])⟩
theorem Cc1 (b:Nat):evFieldAddr Try.prog 85 (.ptr b 0) 0=some (.ptr b 0)/\evFieldAddr Try.prog 85 (.ptr b 0) 1=some (.ptr b 1)/\evFieldAddr Try.prog 85 (.ptr b 0) 2=some (.ptr b 2):=⟨by kernel_rfl,by kernel_rfl,by kernel_rfl⟩
set_option maxRecDepth 10000 in
set_option maxHeartbeats 16000000 in
theorem Bd4 (hw:WF A) (h:IsRd A rp r cp vb fk fa) (hr:Rng r) (hl:r.acts.length<=9000000):∃ w A',EvF Try.prog HH 60 [.ptr rp 0] A w A'/\RStep A rp cp vb fk fa A' r.rule.1/\w=.bool r.rule.2:=by
 refine Aa4 rfl Try.func60 (by unfold Try.f60;rfl) Try.ntmps60 (by unfold Try.f60;rfl) (by simp) ?_
 simp only [RT,Q0,Q1,Q2,Q3,Q4,Q5,Q6,Q7,Q8]
 have hfa:=AC1 rp
 have hsm:=h.cnt.small
 have hnow:=hr.now
 obtain ⟨kv,av,b1,b2,b3⟩:=h.box
 have ld:=Ao3 b1 h.ok
 by_cases q0:r.now < 0
 . have e : r.rule = (r, false) := by unfold Rd.rule; rw [if_pos (.inl q0)]
   simp only [RT,Q0,Q1,Q2,Q3,Q4,Q5,Q6,Q7,Q8,hfa,ld,decide_eq_true q0]
   rw [e];exact ⟨.rfl' h,rfl⟩
 by_cases q3:r.step=3
 . have e : r.rule = (r, false) := by unfold Rd.rule; rw [if_pos (.inr q3)]
   simp only [RT,Q0,Q1,Q2,Q3,Q4,Q5,Q6,Q7,Q8,hfa,ld,decide_eq_false q0,decide_eq_true q3]
   rw [e];exact ⟨.rfl' h,rfl⟩
 simp only [RT,Q0,Q1,Q2,Q3,Q4,Q5,Q6,Q7,Q8,hfa,ld,decide_eq_false q0,decide_eq_false q3]
 refine Aa6 (fun z e B=>Fr S0 A B/\e.get 0=.ptr rp 0/\∃ k:Nat,z=12 - k/\k<=12/\e.get 24=.int .i64 k/\∀ j:Nat,j < k->∀ id,r.sure j 1=some id->¬ id∈r.known)
  (fun z e B=>(Is z (.exit 0)/\Fr S0 A B/\e.get 0=.ptr rp 0/\r.agreed=none)∨(Is z .ret/\e.get 2=.bool r.rule.2/\RStep A rp cp vb fk fa B r.rule.1))
  ⟨_,.refl _ _,rfl,0,rfl,by omega,rfl,fun j hj=>by omega⟩ ?_ ?_
 . rintro z e B ⟨hB, g0, k, rfl, hk, g24, hno⟩
   simp only [RT,Q0,Q1,Q2,Q3,Q4,Q5,Q6,Q7,Q8,g24]
   refine Aa7 (fun g=>?_) (fun g=>?_)
   rotate_left
   . have : k = 12 := by omega
     subst this
     simp only [RT,Q0,Q1,Q2,Q3,Q4,Q5,Q6,Q7,Q8]
     exact .inl ⟨rfl,hB,g0,Bd1 hno⟩
   have hBr:=h.fr0 hB
   have wB:=hB.wf hw
   obtain ⟨_,C,k1,k2,x,hx,rfl,hsx⟩:=AD6 wB hBr (k:Int) 1
   simp only [RT,Q0,Q1,Q2,Q3,Q4,Q5,Q6,Q7,Q8,g0,g24]
   refine Aa0 k1 ?_
   obtain ⟨D,t1,t2,t3⟩:=AM0 (A:=C) hx
   have hD:=(hB.then0 k2).then0 t2
   simp only [RT,Q0,Q1,Q2,Q3,Q4,Q5,Q6,Q7,Q8,A32,t1]
   have nxt:(∀ id,r.sure k 1=some id->¬ id∈r.known)->∀ j:Nat,j < k+1->∀ id,r.sure j 1=some id->¬ id∈r.known:=fun q j hj=>by
    rcases Nat.lt_or_ge j k with z | z
    . exact hno j z
    . have : j = k := by omega
      subst this;exact q
   cases hs:r.sure (k:Int) 1 with
   | none =>
    simp only [RT,Q0,Q1,Q2,Q3,Q4,Q5,Q6,Q7,Q8,Option.isSome_none,g24]
    exact ⟨12 - (k+1),by omega,hD,g0,k+1,rfl,by omega,by rw [Ae4 (by omega)],nxt fun id q=>by rw [hs]at q;cases q⟩
   | some id =>
    obtain rfl:=hsx id hs
    have hDr:=h.fr0 hD
    obtain ⟨_,E,m1,m2,rfl⟩:=Av0 (hD.wf hw) hDr hx (by have:=hr.known;omega)
    simp only [RT,Q0,Q1,Q2,Q3,Q4,Q5,Q6,Q7,Q8,Option.isSome_some,g0,Ai5 t3 hx]
    refine Aa0 m1 ?_
    have hE:=hD.then0 m2
    by_cases qk:x∈r.known
    rotate_left
    . simp only [RT, Q0, Q1, Q2, Q3, Q4, Q5, Q6, Q7, Q8, decide_eq_false qk, g24]
      exact ⟨12 - (k+1),by omega,hE,g0,k+1,rfl,by omega,by rw [Ae4 (by omega)],nxt fun id q=>by rw [hs]at q;cases q;exact qk⟩
    have hag:=Bd0 (show k < 12 by omega) hs qk hno
    have hEr:=h.fr0 hE
    have wE:=hE.wf hw
    have bE:=hE.row0 b1
    obtain ⟨G,s1,s2,s3⟩:=(AB6 bE hEr.ok 3).2.1
    have hG:IsRd G rp { r with step:=3 } cp vb fk fa:=hEr.upd bE (b2.fr0 hE) (b3.fr0 hE) s2 s3 rfl rfl rfl rfl { h.ok with }
    have xr:C.blk.length≠rp:=by have:=Ac3 b1;have:=hB.len;have:=k2.len;omega
    have gG:=s2.rowNe (m2.row0 t3) xr
    obtain ⟨w,I,i1,i2⟩:=AM3 (s2.wf wE) hG (a:=⟨4,k,0,0,x⟩) hx (by show r.acts.length<=_;omega)
    simp only [RT,Q0,Q1,Q2,Q3,Q4,Q5,Q6,Q7,Q8,decide_eq_true qk,g0,hfa,s1,Ai5 gG hx,B31 hx]
    refine Aa0 i1 ?_
    simp only [RT,Q0,Q1,Q2,Q3,Q4,Q5,Q6,Q7,Q8]
    rw [AY1 q0 q3 hag]
    exact .inr ⟨rfl,rfl,RStep.next0 hw hE (RStep.next wE (s2.mono fun _ q=>.inl q) (.inl rfl) (.inl rfl) i2)⟩
 rintro z e B hz (⟨rfl,hB,g0,hag⟩ | ⟨rfl,g2,hst⟩)
 rotate_left
 . simp only [RT, Q0, Q1, Q2, Q3, Q4, Q5, Q6, Q7, Q8, g2]
   exact hst
 have hBr:=h.fr0 hB
 have wB:=hB.wf hw
 have bB:=hB.row0 b1
 have ldB:=Ao3 bB hBr.ok
 simp only [RT,Q0,Q1,Q2,Q3,Q4,Q5,Q6,Q7,Q8]
 rw [Bw9,Aa2 (by rfl)]
 obtain ⟨_,_,k1,hA,rfl⟩:=A70 (now:=r.now) hBr.cnt hnow.1
 rw [hA]at k1
 simp only [RT,Q0,Q1,Q2,Q3,Q4,Q5,Q6,Q7,Q8,g0,hfa,ldB]
 refine Aa0 k1 ?_
 cases qa:aheadI r.n r.v r.now with
 | some k =>
  obtain ⟨w,I,i1,i2⟩:=Ax8 wB hBr hr (R:=(k:Int)) (by omega) (by have:=(At8 qa).2;omega) (by omega)
  simp only [RT,Q0,Q1,Q2,Q3,Q4,Q5,Q6,Q7,Q8,Option.isSome_some,Option.getD_some,g0]
  refine Aa0 i1 ?_
  simp only [RT,Q0,Q1,Q2,Q3,Q4,Q5,Q6,Q7,Q8]
  rw [A71 q0 q3 hag qa]
  exact ⟨RStep.next0 hw hB i2,rfl⟩
 | none =>
 obtain ⟨i,hi⟩:=Int.eq_ofNat_of_zero_le (show 0<=r.now by omega)
 have hi12:i < 12:=by omega
 have hin:r.now.toNat=i:=by rw [hi];rfl
 obtain ⟨o,ho⟩:∃ o,o=r.offers i:=⟨_,rfl⟩
 have hoff:offered r ↔ (r.step=0/\o.there=true/\o.id∈r.known):=by unfold offered;rw [hin,<- ho]
 have hol:o.id.length=32:=by rw [ho];exact h.ok.offers i
 have hov:0<=o.valid/\o.valid<=1000:=by rw [ho];exact hr.offers i
 have hofl:=(B11 bB hBr.ok hi12).1
 rw [<- ho]at hofl
 have ldB3:evLoad Try.prog 3 (.ptr rp 3) B=some (.int .i64 (i:Int)):=by rw [ldB.2.2.2.1,hi]
 obtain ⟨C,t1,t2,t3⟩:=BP6 (A:=B) hol
 obtain ⟨ob,hob⟩:∃ b,b=B.blk.length:=⟨_,rfl⟩
 have hC:=hB.then0 t2
 have hCr:=h.fr0 hC
 have wC:=hC.wf hw
 have bC:=hC.row0 b1
 have ldC:=Ao3 bC hCr.ok
 have ldo:=BO3 t3 hol
 rw [<- hob]at ldo t3
 have fo:=Cc1 ob
 simp only [RT,Q0,Q1,Q2,Q3,Q4,Q5,Q6,Q7,Q8,Option.isSome_none,Option.getD_none]
 rw [Bx0,Aa2 (by rfl)]
 simp only [RT,Q0,Q1,Q2,Q3,Q4,Q5,Q6,Q7,Q8,g0,hfa,ldB3,Bb7 hi12,hofl,BP7,t1]
 rw [<- hob]
 simp only [RT,Q0,Q1,Q2,Q3,Q4,Q5,Q6,Q7,Q8,g0,hfa,ldC]
 have restL:∀ {D:AS},Fr S0 A D->∃ w A',EvF Try.prog HH 69 [.ptr rp 0] D w A'/\RStep A rp cp vb fk fa A' r.rest.1/\w=.bool r.rest.2:=by
  intro D hD
  obtain ⟨w,A',k1,k2,k3⟩:=Bc9 (hD.wf hw) (h.fr0 hD) hr (by omega) (by omega)
  exact ⟨w,A',k1,RStep.next0 hw hD k2,k3⟩
 by_cases c1:r.step=0
 rotate_left
 . have erule := AD7 q0 q3 hag qa (fun z => c1 (hoff.1 z).1)
   obtain ⟨_,A',i1,i2,rfl⟩:=restL hC
   simp only [RT,Q0,Q1,Q2,Q3,Q4,Q5,Q6,Q7,Q8,decide_eq_false c1,g0]
   refine Aa0 i1 ?_
   simp only [RT,Q0,Q1,Q2,Q3,Q4,Q5,Q6,Q7,Q8]
   rw [erule];exact ⟨i2,rfl⟩
 cases c2:o.there with
 | false =>
  have erule:=AD7 q0 q3 hag qa (fun z=>by have:=(hoff.1 z).2.1;rw [c2]at this;simp at this)
  obtain ⟨_,A',i1,i2,rfl⟩:=restL hC
  rw [c2]at ldo
  simp only [RT,Q0,Q1,Q2,Q3,Q4,Q5,Q6,Q7,Q8,decide_eq_true c1,fo,ldo,g0]
  refine Aa0 i1 ?_
  simp only [RT,Q0,Q1,Q2,Q3,Q4,Q5,Q6,Q7,Q8]
  rw [erule];exact ⟨i2,rfl⟩
 | true =>
 rw [c2]at ldo
 obtain ⟨_,D,m1,m2,rfl⟩:=Av0 wC hCr hol (by have:=hr.known;omega)
 have hD:=hC.then0 m2
 simp only [RT,Q0,Q1,Q2,Q3,Q4,Q5,Q6,Q7,Q8,decide_eq_true c1,fo,ldo,g0]
 refine Aa0 m1 ?_
 by_cases c3:o.id∈r.known
 rotate_left
 . have erule := AD7 q0 q3 hag qa (fun z => c3 (hoff.1 z).2.2)
   obtain ⟨_,A',i1,i2,rfl⟩:=restL hD
   simp only [RT,Q0,Q1,Q2,Q3,Q4,Q5,Q6,Q7,Q8,decide_eq_false c3,g0]
   refine Aa0 i1 ?_
   simp only [RT,Q0,Q1,Q2,Q3,Q4,Q5,Q6,Q7,Q8]
   rw [erule];exact ⟨i2,rfl⟩
 have hoffd:=hoff.2 ⟨c1,c2,c3⟩
 obtain ⟨_,E,n1,rfl,n2⟩:=Ao5 (A:=D)
 simp only [RT,Q0,Q1,Q2,Q3,Q4,Q5,Q6,Q7,Q8,decide_eq_true c3]
 refine Aa0 n1 ?_
 obtain ⟨G,u1,u2,u3⟩:=AM0 (A:=E) Ag3
 obtain ⟨nb,hnb⟩:∃ b,b=E.blk.length:=⟨_,rfl⟩
 have hG:=(hD.then0 n2).then0 u2
 have hGr:=h.fr0 hG
 have oG:=u2.row0 (n2.row0 (m2.row0 t3))
 have ldoG:=BO3 oG hol
 have wov:IntKind.i64.wrap (o.valid - 1)=o.valid - 1:=Ae1 (by omega) (by omega)
 simp only [RT,Q0,Q1,Q2,Q3,Q4,Q5,Q6,Q7,Q8,A32,u1]
 rw [<- hnb]at u3 ⊢
 simp only [RT,Q0,Q1,Q2,Q3,Q4,Q5,Q6,Q7,Q8,g0,fo,ldoG,wov]
 obtain ⟨_,I,j1,j2,x,hx,rfl,hsx⟩:=AD6 (hG.wf hw) hGr (o.valid - 1) 0
 refine Aa0 j1 ?_
 obtain ⟨J,v1,v2,v3⟩:=AM0 (A:=I) hx
 have hJ:=(hG.then0 j2).then0 v2
 have hJr:=h.fr0 hJ
 have wJ:=hJ.wf hw
 have bJ:=hJ.row0 b1
 have ldJ:=Ao3 bJ hJr.ok
 have oJ:=v2.row0 (j2.row0 oG)
 have ldoJ:=BO3 oJ hol
 have nJ:=v2.row0 (j2.row0 u3)
 have len1:=hB.len
 have len2:=(n2.len)
 have len3:=u2.len
 have len4:=j2.len
 simp only [RT,Q0,Q1,Q2,Q3,Q4,Q5,Q6,Q7,Q8,A32,v1]
 rw [Bx1,Aa2 (by rfl)]
 have hch:r.offers r.now.toNat=o:=by rw [hin,ho]
 have fin:∀ {K:AS} {y:Bts},Fr S0 A K->r.choice o=some y->K.blk[nb]?=some ⟨bc y,.var⟩->y.length=32->∃ w A',EvF Try.prog HH 57 [.ptr rp 0,.int .i64 0,.agg (bc y)] K w A'/\evLoad Try.prog 23 (.ptr nb 0) K=some (.agg (bc y))/\RStep A rp cp vb fk fa A' r.rule.1/\r.rule.2=true:=by
  intro K y hK hy gy yl
  have er:=Bd2 q0 q3 hag qa hoffd (by rw [hch];exact hy)
  obtain ⟨w,A',k1,k2⟩:=Aq3 (k:=0) (hK.wf hw) (h.fr0 hK) (by omega) yl (by omega)
  exact ⟨w,A',k1,Ai5 gy yl,by rw [er];exact RStep.next0 hw hK k2,by rw [er]⟩
 have wait:r.choice o=none->r.rule=r.rest:=fun hy=>Bd3 q0 q3 hag qa hoffd (by rw [hch];exact hy)
 refine Bn5 (fun z e K=>(Is z .normal/\e.get 0=.ptr rp 0/\e.get 9=.ptr nb 0/\Fr S0 A K/\∃ y,y.length=32/\K.blk[nb]?=some ⟨bc y,.var⟩/\r.choice o=some y)∨(Is z .ret/\r.choice o=none/\e.get 2=.bool r.rest.2/\RStep A rp cp vb fk fa K r.rest.1)) ?_ ?_
 rotate_left
 . clear g0
   rintro z e K (⟨rfl,g0,g9,hK,y,yl,gy,hy⟩ | ⟨rfl,hy,g2,hst⟩)
   . obtain ⟨w, A', k1, k2, k3, k4⟩ := fin hK hy gy yl
     simp only [RT,Q0,Q1,Q2,Q3,Q4,Q5,Q6,Q7,Q8,g0,g9,k2]
     refine Aa0 k1 ?_
     simp only [RT,Q0,Q1,Q2,Q3,Q4,Q5,Q6,Q7,Q8]
     exact ⟨k3,by rw [k4]⟩
   . have er := wait hy
     rw [er]
     simp only [RT,Q0,Q1,Q2,Q3,Q4,Q5,Q6,Q7,Q8,g2]
     exact hst
 have fo1:=fo
 obtain ⟨K,z1,z2,z3⟩:=AH4 nJ Ag3 hol
 have hK:Fr S0 A K:=hJ.row_ z2 (by have l1:=hC.len;have l2:=m2.len;have l3:=n2.len;rw [hnb];omega)
 have pl22:=AQ7
 by_cases d0:o.valid=0
 . have dgt : ¬ o.valid > 0 := by omega
   by_cases d1:r.locked=0
   . have hc : r.choice o = some o.id := by unfold Rd.choice; rw [if_pos ⟨d0, .inl d1⟩]
     simp only [RT,Q0,Q1,Q2,Q3,Q4,Q5,Q6,Q7,Q8,fo,ldoJ,decide_eq_true d0,g0,hfa,ldJ,decide_eq_true d1,z1]
     exact .inl ⟨rfl,hK,_,hol,z3,hc⟩
   by_cases d2:r.lock=o.id
   . have hc : r.choice o = some o.id := by unfold Rd.choice; rw [if_pos ⟨d0, .inr d2⟩]
     simp only [RT,Q0,Q1,Q2,Q3,Q4,Q5,Q6,Q7,Q8,fo,ldoJ,decide_eq_true d0,g0,hfa,ldJ,decide_eq_false d1,eqZ h.ok.lock hol,decide_eq_true d2,z1]
     exact .inl ⟨rfl,hK,_,hol,z3,hc⟩
   have hc:r.choice o=some n32:=by
    unfold Rd.choice
    rw [if_neg (fun z=>z.2.elim d1 d2),if_neg (fun z=>dgt z.1)]
   simp only [RT,Q0,Q1,Q2,Q3,Q4,Q5,Q6,Q7,Q8,fo,ldoJ,decide_eq_true d0,g0,hfa,ldJ,decide_eq_false d1,eqZ h.ok.lock hol,decide_eq_false d2]
   rw [AQ7,Aa2 (by rfl)]
   simp only [RT,Q0,Q1,Q2,Q3,Q4,Q5,Q6,Q7,Q8,fo,ldoJ,decide_eq_false dgt]
   rw [AQ8,Aa2 (by rfl)]
   simp only [RT,Q0,Q1,Q2,Q3,Q4,Q5,Q6,Q7,Q8,fo,ldoJ,decide_eq_false dgt]
   exact .inl ⟨rfl,g0,hJ,_,Ag3,nJ,hc⟩
 have dgt:o.valid > 0:=by omega
 simp only [RT,Q0,Q1,Q2,Q3,Q4,Q5,Q6,Q7,Q8,fo,ldoJ,decide_eq_false d0]
 rw [AQ7,Aa2 (by rfl)]
 by_cases d1:o.valid<=r.now
 rotate_left
 . have hc : r.choice o = some n32 := by
    unfold Rd.choice
    rw [if_neg (fun z=>d0 z.1),if_neg (fun z=>d1 z.2)]
   simp only [RT,Q0,Q1,Q2,Q3,Q4,Q5,Q6,Q7,Q8,fo,ldoJ,decide_eq_true dgt,g0,hfa,ldJ,decide_eq_false d1]
   rw [AQ8,Aa2 (by rfl)]
   simp only [RT,Q0,Q1,Q2,Q3,Q4,Q5,Q6,Q7,Q8,fo,ldoJ,decide_eq_true dgt,g0,hfa,ldJ,decide_eq_false d1]
   exact .inl ⟨rfl,hJ,_,Ag3,nJ,hc⟩
 obtain ⟨_,A',i1,i2,rfl⟩:=restL hJ
 by_cases d2:r.sure (o.valid - 1) 0=some o.id
 rotate_left
 . have hc : r.choice o = none := by
    unfold Rd.choice
    rw [if_neg (fun z=>d0 z.1),if_pos ⟨dgt,d1⟩,if_pos d2]
   cases hs:r.sure (o.valid - 1) 0 with
   | none =>
    simp only [RT,Q0,Q1,Q2,Q3,Q4,Q5,Q6,Q7,Q8,fo,ldoJ,decide_eq_true dgt,g0,hfa,ldJ,decide_eq_true d1,Option.isSome_none]
    refine Aa0 i1 ?_
    simp only [RT,Q0,Q1,Q2,Q3,Q4,Q5,Q6,Q7,Q8]
    exact .inr ⟨rfl,hc,i2⟩
   | some id =>
    have hxi:=hsx id hs
    have hxo:¬ x=o.id:=fun q=>d2 (by rw [hs,<- hxi,q])
    simp only [RT,Q0,Q1,Q2,Q3,Q4,Q5,Q6,Q7,Q8,fo,ldoJ,decide_eq_true dgt,g0,hfa,ldJ,decide_eq_true d1,Option.isSome_some,Ai5 v3 hx,eqZ hx hol,decide_eq_false hxo]
    refine Aa0 i1 ?_
    simp only [RT,Q0,Q1,Q2,Q3,Q4,Q5,Q6,Q7,Q8]
    exact .inr ⟨rfl,hc,i2⟩
 have hxo:x=o.id:=hsx _ d2
 simp only [RT,Q0,Q1,Q2,Q3,Q4,Q5,Q6,Q7,Q8,fo,ldoJ,decide_eq_true dgt,g0,hfa,ldJ,decide_eq_true d1,d2,Option.isSome_some,Ai5 v3 hx,eqZ hx hol,decide_eq_true hxo]
 rw [AQ8,Aa2 (by rfl)]
 by_cases d3:r.locked<=o.valid
 . have hc : r.choice o = some o.id := by
    unfold Rd.choice
    rw [if_neg (fun z=>d0 z.1),if_pos ⟨dgt,d1⟩,if_neg (fun z=>z d2),if_pos (.inl d3)]
   simp only [RT,Q0,Q1,Q2,Q3,Q4,Q5,Q6,Q7,Q8,fo,ldoJ,decide_eq_true dgt,g0,hfa,ldJ,decide_eq_true d1,decide_eq_true d3,z1]
   exact .inl ⟨rfl,hK,_,hol,z3,hc⟩
 by_cases d4:r.lock=o.id
 . have hc : r.choice o = some o.id := by
    unfold Rd.choice
    rw [if_neg (fun z=>d0 z.1),if_pos ⟨dgt,d1⟩,if_neg (fun z=>z d2),if_pos (.inr d4)]
   simp only [RT,Q0,Q1,Q2,Q3,Q4,Q5,Q6,Q7,Q8,fo,ldoJ,decide_eq_true dgt,g0,hfa,ldJ,decide_eq_true d1,decide_eq_false d3,eqZ h.ok.lock hol,decide_eq_true d4,z1]
   exact .inl ⟨rfl,hK,_,hol,z3,hc⟩
 have hc:r.choice o=some n32:=by
  unfold Rd.choice
  rw [if_neg (fun z=>d0 z.1),if_pos ⟨dgt,d1⟩,if_neg (fun z=>z d2),if_neg (fun z=>z.elim d3 d4)]
 simp only [RT,Q0,Q1,Q2,Q3,Q4,Q5,Q6,Q7,Q8,fo,ldoJ,decide_eq_true dgt,g0,hfa,ldJ,decide_eq_true d1,decide_eq_false d3,eqZ h.ok.lock hol,decide_eq_false d4]
 exact .inl ⟨rfl,hJ,_,Ag3,nJ,hc⟩
end
end Go.Sv.Try
namespace Go.Sv.Try
open Go Go.Proofs
section
variable {r:Rd}
theorem Rng.timer (h:Rng r) (k:Nat):Rng (r.timer k)/\(r.timer k).acts.length<=r.acts.length+1:=by
 unfold Rd.timer;split
 . exact ⟨h,by omega⟩
 . exact ⟨{ h with },by simp [Rd.do_]⟩
theorem Rng.vote (h:Rng r) {k:Nat} (hk:k < 2) (id:Bts):Rng (r.vote k id)/\(r.vote k id).acts.length<=r.acts.length+1:=by
 unfold Rd.vote;simp only [];split
 . exact ⟨{ h with step:=⟨by show (0:Int)<=1+k;omega,by show (1:Int)+k<=3;omega⟩ },by simp [Rd.do_]⟩
 . exact ⟨{ h with step:=⟨by show (0:Int)<=1+k;omega,by show (1:Int)+k<=3;omega⟩ },by simp⟩
theorem Am5 {f:Nat->Ofr} {i:Nat} {o:Ofr} (h:∀ j,0<=(f j).valid/\(f j).valid<=1000) (ho:0<=o.valid/\o.valid<=1000) (j:Nat):0<=(set1 f i o j).valid/\(set1 f i o j).valid<=1000:=by
 unfold set1;split
 . exact ho
 . exact h j
theorem Rng.begin (h:Rng r) {R:Int} (hR:0<=R):Rng (r.begin R)/\(r.begin R).acts.length<=r.acts.length+1:=by
 unfold Rd.begin;split
 . exact ⟨{ h with step:=⟨by show (0:Int)<=3;omega,by show (3:Int)<=3;omega⟩ },by simp⟩
 . have h1 : Rng { r with now := R, step := 0 } := { h with now := ⟨by show -1 <= R; omega, by show R < 12; omega⟩, step := ⟨by show (0 : Int) <= 0; omega, by show (0 : Int) <= 3; omega⟩ }
   simp only []
   generalize (if r.valid > 0 then r.best else r.fresh)=id
   split
   . exact h1.timer 0
   split
   . exact ⟨h1,by simp⟩
   split
   . exact h1.timer 0
   . exact ⟨{ h1 with offers:=Am5 h.offers h.valid },by simp [Rd.do_]⟩
theorem Rng.rest (h:Rng r):Rng r.rest.1/\r.rest.1.acts.length<=r.acts.length+2:=by
 by_cases q:∃ id,newSure r id
 . obtain ⟨id, q⟩ := q
   rw [A34 q]
   have hn:=h.now
   simp only []
   split
   . have h1 : Rng { r with valid := r.now + 1, best := id, locked := r.now + 1, lock := id } := { h with valid := ⟨by show 0 <= r.now + 1; omega, by show r.now + 1 <= 1000; omega⟩, locked := ⟨by show 0 <= r.now + 1; omega, by show r.now + 1 <= 1000; omega⟩ }
     obtain ⟨k1,k2⟩:=h1.vote (k:=1) (by omega) id
     exact ⟨k1,by have k2:_<=r.acts.length+1:=k2;omega⟩
   . exact ⟨{ h with valid:=⟨by show 0<=r.now+1;omega,by show r.now+1<=1000;omega⟩ },by simp⟩
 . rw [Bc8 fun id w => q ⟨id, w⟩]
   unfold rest2
   split
   . obtain ⟨k1, k2⟩ := h.vote (k := 1) (by omega) n32
     exact ⟨k1,Nat.le_trans k2 (by omega)⟩
   . simp only []
     have h1:Rng (if r.step=1/\need r.n<=allI r.n r.v r.now 0 then r.timer 1 else r)/\(if r.step=1/\need r.n<=allI r.n r.v r.now 0 then r.timer 1 else r).acts.length<=r.acts.length+1:=by
      split
      . exact h.timer 1
      . exact ⟨h,by omega⟩
     split
     . obtain ⟨k1, k2⟩ := h1.1.timer 2
       exact ⟨k1,Nat.le_trans k2 (by have:=h1.2;omega)⟩
     . exact ⟨h1.1,Nat.le_trans h1.2 (by omega)⟩
theorem Rng.rule (h:Rng r):Rng r.rule.1/\r.rule.1.acts.length<=r.acts.length+2:=by
 unfold Rd.rule;split
 . exact ⟨h,by simp⟩
 split
 . exact ⟨{ h with step:=⟨by show (0:Int)<=3;omega,by show (3:Int)<=3;omega⟩ },by simp [Rd.do_]⟩
 split
 . obtain ⟨k1, k2⟩ := h.begin (R := (_ : Nat)) (Int.natCast_nonneg _)
   exact ⟨k1,Nat.le_trans k2 (by omega)⟩
 split
 . split
   . obtain ⟨k1, k2⟩ := h.vote (k := 0) (by omega) _
     exact ⟨k1,Nat.le_trans k2 (by omega)⟩
   . exact h.rest
 . exact h.rest
theorem Rng.rules:∀ {k:Nat} {r:Rd},Rng r->Rng (Rd.rules k r)
 | 0,r,h=>h
 | k+1,r,h=>by
  unfold Rd.rules;split
  . exact Rng.rules h.rule.1
  . exact h.rule.1
theorem Rng.settle (h:Rng r):Rng r.settle.1:=by
 have:=h.rules (k:=1000)
 unfold Rd.settle
 exact { this with }
end
section
variable {A A' B:AS} {rp cp:Nat} {r r':Rd} {vb:Nat->Nat} {fk fa fk' fa':Option Nat} {kv av:V}
def GRes (A:AS) (rp cp:Nat) (vb:Nat->Nat) (fk fa:Option Nat) (A':AS) (x:Rd×List Act) (w:V):Prop :=
 ∃ fk' fo,Fr (rdS A rp vb fk fa) A A'/\Gr A fk fk'/\Gr A fa fo/\IsRd A' rp x.1 cp vb fk' none/\Lst eAct Hp.emp A' w x.2 fo/\(∀ f,fo=some f->fk'≠some f)/\∀ j,j < 24->fo≠some (vb j)
theorem GRes.next {x:Rd×List Act} {w:V} (hw:WF A) (hf:Fr (rdS A rp vb fk fa) A B) (g1:Gr A fk fk') (g2:Gr A fa fa') (k:GRes B rp cp vb fk' fa' A' x w):GRes A rp cp vb fk fa A' x w:=by
 obtain ⟨fk2,fo,k1,k2,k3,k4,k5,k6,k7⟩:=k
 exact ⟨fk2,fo,hf.trans k1 fun x q=>AC2 hf g1 g2 hw (hf.wf hw) q,g1.trans k2 hf.len,g2.trans k3 hf.len,k4,k5,k6,k7⟩
theorem GRes.next0 {x:Rd×List Act} {w:V} (hw:WF A) (hf:Fr S0 A B) (k:GRes B rp cp vb fk fa A' x w):GRes A rp cp vb fk fa A' x w:=k.next hw (hf.mono fun _ q=>q.elim) (.inl rfl) (.inl rfl)
set_option maxRecDepth 10000 in
set_option maxHeartbeats 16000000 in
theorem Ae8 (hw:WF A) (h:IsRd A rp r cp vb fk fa) (hr:Rng r) (hl:r.acts.length<=1000000):∃ w A',EvF Try.prog HH 47 [.ptr rp 0] A w A'/\GRes A rp cp vb fk fa A' r.settle w:=by
 refine Aa4 rfl Try.func47 (by unfold Try.f47;rfl) Try.ntmps47 (by unfold Try.f47;rfl) (by simp) ?_
 simp only [RT,Q0,Q1,Q2,Q3,Q4,Q5,Q6,Q7,Q8]
 have hfa:=AC1 rp
 refine Aa6 (fun z e B=>e.get 0=.ptr rp 0/\∃ (i:Nat) (ri:Rd),z=1000 - i/\i<=1000/\e.get 3=.int .i64 i/\RStep A rp cp vb fk fa B ri/\Rng ri/\ri.acts.length<=r.acts.length+2 * i/\Rd.rules 1000 r=Rd.rules (1000 - i) ri)
  (fun z e B=>Is z (.exit 0)/\e.get 0=.ptr rp 0/\RStep A rp cp vb fk fa B (Rd.rules 1000 r))
  ⟨_,rfl,0,r,rfl,by omega,rfl,.rfl' h,hr,by omega,rfl⟩ ?_ ?_
 . rintro z e B ⟨g0, i, ri, rfl, hi, g3, hst, hri, hla, hru⟩
   obtain ⟨fk1,fa1,j1,j2,j3,j4⟩:=hst
   simp only [RT,Q0,Q1,Q2,Q3,Q4,Q5,Q6,Q7,Q8,g3]
   by_cases q:i < 1000
   rotate_left
   . have : i = 1000 := by omega
     subst this
     simp only [RT,Q0,Q1,Q2,Q3,Q4,Q5,Q6,Q7,Q8,decide_eq_false (show ¬ (((1000:Nat):Int) < 1000) by omega)]
     rw [hru]
     exact ⟨rfl,g0,fk1,fa1,j1,j2,j3,j4⟩
   have wB:=j1.wf hw
   obtain ⟨_,C,k1,k2,rfl⟩:=Bd4 wB j4 hri (by omega)
   simp only [RT,Q0,Q1,Q2,Q3,Q4,Q5,Q6,Q7,Q8,decide_eq_true (show (i:Int) < 1000 by omega),g0]
   refine Aa0 k1 ?_
   have hst2:=RStep.next hw j1 j2 j3 k2
   obtain ⟨d,hd⟩:∃ d,1000 - i=d+1:=⟨999 - i,by omega⟩
   have e1:Rd.rules (1000 - i) ri=if ri.rule.2=true then Rd.rules (1000 - (i+1)) ri.rule.1 else ri.rule.1:=by
    rw [hd,show 1000 - (i+1)=d by omega];rfl
   rw [e1]at hru
   obtain ⟨y1,y2⟩:=hri.rule
   cases qb:ri.rule.2 with
   | true =>
    rw [if_pos qb]at hru
    simp only [RT,Q0,Q1,Q2,Q3,Q4,Q5,Q6,Q7,Q8,g3]
    exact ⟨1000 - (i+1),by omega,g0,i+1,ri.rule.1,rfl,by omega,by rw [Ae4 (by omega)],hst2,y1,by omega,hru⟩
   | false =>
    rw [if_neg (by rw [qb];simp)]at hru
    simp only [RT,Q0,Q1,Q2,Q3,Q4,Q5,Q6,Q7,Q8]
    rw [hru]
    exact ⟨rfl,g0,hst2⟩
 . rintro z e B hz ⟨rfl, g0, fk1, fa1, j1, j2, j3, j4⟩
   obtain ⟨kv,av,b1,b2,b3⟩:=j4.box
   have ld:=Ao3 b1 j4.ok
   obtain ⟨C,s1,s2,s3⟩:=Cc0 b1 j4.ok (w:=.snil) rfl []
   simp only [RT,Q0,Q1,Q2,Q3,Q4,Q5,Q6,Q7,Q8,g0,hfa,ld,s1]
   have hC:IsRd C rp { Rd.rules 1000 r with acts:=[] } cp vb fk1 none:=by
    refine { box:=⟨kv,.snil,s3,b2.fr s2 (.box b1),.nil⟩,cnt:=?_,ok:={ j4.ok with },rc:=j4.rc,ne1:=fun f _ q=>(by cases q),ne2:=fun j hj=>⟨(j4.ne2 j hj).1,fun q=>by cases q⟩ }
    exact j4.cnt.fr s2 (fun q=>j4.rc (by injection q with q;exact q.symm)) fun j hj=>⟨fun q=>j4.cnt.nevar hj b1 (by injection q),fun q=>by cases q⟩
   exact ⟨fk1,fa1,j1.trans s2 fun z q=>.inl (.inl q),j2,j3,hC,b3.fr s2 (.box b1),fun f q z=>j4.ne1 f z q,fun j hj=>(j4.ne2 j hj).2⟩
end
end Go.Sv.Try
namespace Go.Sv.Try
open Go Go.Proofs
section
variable {A A' B:AS} {rp cp:Nat} {r r':Rd} {vb:Nat->Nat} {fk fa fk' fa':Option Nat} {kv av:V}
theorem RStep.wf (hw:WF A) (h:RStep A rp cp vb fk fa B r):WF B:=by obtain ⟨_,_,h1,_⟩:=h;exact h1.wf hw
theorem RStep.chain (hw:WF A) (h:RStep A rp cp vb fk fa B r) (k:∀ fk' fa',IsRd B rp r cp vb fk' fa'->RStep B rp cp vb fk' fa' A' r'):RStep A rp cp vb fk fa A' r':=by
 obtain ⟨fk',fa',h1,h2,h3,h4⟩:=h
 exact (k fk' fa' h4).next hw h1 h2 h3
def RStepS (A:AS) (rp cp:Nat) (vb:Nat->Nat) (fk fa:Option Nat) (A':AS) (r':Rd):Prop:=∃ fk',Fr (rdS A rp vb fk fa) A A'/\Gr A fk fk'/\IsRd A' rp r' cp vb fk' fa
theorem RStepS.toR (h:RStepS A rp cp vb fk fa B r):RStep A rp cp vb fk fa B r:=by
 obtain ⟨fk',h1,h2,h3⟩:=h
 exact ⟨fk',fa,h1,h2,.inl rfl,h3⟩
theorem RStepS.rfl' (h:IsRd A rp r cp vb fk fa):RStepS A rp cp vb fk fa A r:=⟨fk,.refl _ _,.inl rfl,h⟩
theorem RStepS.of0 (h:IsRd A rp r cp vb fk fa) (hf:Fr S0 A B):RStepS A rp cp vb fk fa B r:=⟨fk,hf.mono fun _ q=>q.elim,.inl rfl,h.fr0 hf⟩
theorem RStepS.upd (hf:Fr (·=.row rp) A B) (h:IsRd B rp r' cp vb fk fa):RStepS A rp cp vb fk fa B r':=⟨fk,hf.mono fun _ q=>.inl q,.inl rfl,h⟩
theorem RStepS.next (hw:WF A) (hf:Fr (rdS A rp vb fk fa) A B) (g1:Gr A fk fk') (g2:Gr A fa fa) (k:RStepS B rp cp vb fk' fa A' r'):RStepS A rp cp vb fk fa A' r':=by
 obtain ⟨fk2,k1,k2,k4⟩:=k
 exact ⟨fk2,hf.trans k1 fun x q=>AC2 hf g1 g2 hw (hf.wf hw) q,g1.trans k2 hf.len,k4⟩
theorem RStepS.next0 (hw:WF A) (hf:Fr S0 A B) (k:RStepS B rp cp vb fk fa A' r'):RStepS A rp cp vb fk fa A' r':=k.next hw (hf.mono fun _ q=>q.elim) (.inl rfl) (.inl rfl)
theorem RStepS.then0 {C:AS} (h:RStepS A rp cp vb fk fa B r) (hf:Fr S0 B C):RStepS A rp cp vb fk fa C r:=by
 obtain ⟨fk',h1,h2,h4⟩:=h
 exact ⟨fk',h1.then0 hf,h2,h4.fr0 hf⟩
theorem RStepS.wf (hw:WF A) (h:RStepS A rp cp vb fk fa B r):WF B:=h.toR.wf hw
theorem BP8 {x:Bts} (h:x.length=32):bsl Try.prog 25 1 (some [(0,.agg (bc x))])=some (.newSl (bc x) 1 32):=AQ4 Try.underlying25 AH3 B17 rfl (by rw [Aa5,h]) (by decide)
set_option maxRecDepth 10000 in
set_option maxHeartbeats 8000000 in
theorem Av1 (hw:WF A) (h:IsRd A rp r cp vb fk fa) (hr:Rng r) {id:Bts} (hid:id.length=32):∃ w A',EvF Try.prog HH 41 [.ptr rp 0,.agg (bc id)] A w A'/\RStepS A rp cp vb fk fa A' (r.Remember id):=by
 refine Aa4 rfl Try.func41 (by unfold Try.f41;rfl) Try.ntmps41 (by unfold Try.f41;rfl) (by simp) ?_
 simp only [RT,Q0,Q1,Q2,Q3,Q4,Q5,Q6,Q7,Q8]
 obtain ⟨A1,e1,f1,r1,n1⟩:=Aa9 A (bc id)
 rw [<- e1]
 have h1:=h.fr0 f1
 have w1:=f1.wf hw
 have hfa:=AC1 rp
 unfold Rd.Remember
 by_cases q1:id=z32
 . simp only [RT, Q0, Q1, Q2, Q3, Q4, Q5, Q6, Q7, Q8, Ai5 r1 hid, Am4, eqZ hid Ab2, decide_eq_true q1]
   rw [if_neg (fun z=>z.1 q1)]
   exact .of0 h f1
 obtain ⟨_,A2,k1,k2,rfl⟩:=Av0 w1 h1 hid (by have:=hr.known;omega)
 have f2:=f1.then0 k2
 have h2:=h.fr0 f2
 have w2:=f2.wf hw
 simp only [RT,Q0,Q1,Q2,Q3,Q4,Q5,Q6,Q7,Q8,Ai5 r1 hid,Am4,eqZ hid Ab2,decide_eq_false q1]
 refine Aa0 k1 ?_
 by_cases q2:id∈r.known
 . simp only [RT, Q0, Q1, Q2, Q3, Q4, Q5, Q6, Q7, Q8, decide_eq_true q2]
   rw [if_neg (fun z=>z.2.1 q2)]
   exact .of0 h f2
 obtain ⟨kv,av,b1,b2,b3⟩:=h2.box
 have ld:=Ao3 b1 h2.ok
 have hln:=fun B=>b2.len (P:=Try.prog) Try.underlying25 B
 simp only [RT,Q0,Q1,Q2,Q3,Q4,Q5,Q6,Q7,Q8,decide_eq_false q2,hfa,ld,hln]
 by_cases q3:r.known.length < 32
 rotate_left
 . simp only [RT, Q0, Q1, Q2, Q3, Q4, Q5, Q6, Q7, Q8, decide_eq_false (show ¬ ((r.known.length : Int) < 32) by omega)]
   rw [if_neg (fun z=>q3 z.2.2)]
   exact .of0 h f2
 simp only [RT,Q0,Q1,Q2,Q3,Q4,Q5,Q6,Q7,Q8,decide_eq_true (show ((r.known.length:Int) < 32) by omega)]
 rw [if_pos ⟨q1,q2,q3⟩]
 obtain ⟨v4,A3,fk',p1,p2,p3,p4⟩:=b2.push (P:=Try.prog) (t:=25) (tx:=25) (n:=32) rfl Cd9 Try.underlying25 w2 (y:=id) (cs':=bc id) ⟨rfl,hid⟩ (by omega) (by omega)
 have b4:=p3.row _ _ b1 (Aa8 b1)
 have k4:Lst eAct Hp.emp A3 av r.acts fa:=b3.fr p3 (by
  cases fk with
  | none=>exact fun _ q=>q.elim
  | some g=>exact Off.fam fun q=>h.ne1 g rfl q)
 obtain ⟨A4,s1,s2,s3⟩:=Ce3 b4 h1.ok p2.one (r.known++[id])
 rw [BL4,Aa2 (by rfl)]
 simp only [RT,Q0,Q1,Q2,Q3,Q4,Q5,Q6,Q7,Q8,hfa,ld,Ai5 (k2.row0 r1) hid,BP8 hid,p1,s1]
 have hc3:IsCnt A4 cp r.n r.v vb:=by
  refine (h2.cnt.fr p3 (Aa8 h2.cnt.box) fun j hj=>⟨?_,?_⟩).fr s2 (fun q=>h.rc (by injection q with q;exact q.symm)) fun j hj=>⟨fun q=>h2.cnt.nevar hj b1 (by injection q),fun q=>by cases q⟩
  . intro q
    cases fk with
    | none=>exact q.elim
    | some g =>
     obtain ⟨k,base,z1,z2⟩:=q
     rw [h2.cnt.row j hj]at z1;cases z1;cases z2
     exact (h.ne2 j hj).1 rfl
  . intro q
    cases fk with
    | none=>exact q.elim
    | some g=>exact (h.ne2 j hj).1 (by rw [show vb j=g from q])
 refine RStepS.next0 hw f2 ⟨fk',(p3.mono (S':=rdS A2 rp vb fk fa) fun z q=>.inr (.inr (.inl q))).trans s2 fun z q=>.inl (.inl q),p4,?_⟩
 refine { box:=⟨v4,av,s3,p2.fr s2 (.box b4),k4.fr s2 (.box b4)⟩,cnt:=hc3,ok:={ h.ok with },rc:=h.rc,ne1:=fun f q z=>?_,ne2:=fun j hj=>⟨fun q=>?_,(h.ne2 j hj).2⟩ }
 . rcases p4.or q with y | y
   . exact h.ne1 f y z
   . have:=b3.famLt f z;omega
 . rcases p4.or q with y | y
   . exact (h.ne2 j hj).1 y
   . have:=h2.cnt.lt hj;omega
theorem Rng.remember (h:Rng r) (id:Bts):Rng (r.Remember id)/\(r.Remember id).acts=r.acts:=by
 unfold Rd.Remember;split
 . exact ⟨{ h with known:=by show (r.known++[id]).length<=_;rename_i q;rw [List.length_append];have:=q.2.2;simp;omega },rfl⟩
 . exact ⟨h,rfl⟩
set_option maxRecDepth 10000 in
theorem Bd5 (hw:WF A) (h:IsRd A rp r cp vb fk fa) (hr:Rng r) (hl:r.acts.length<=1000000) {id:Bts} (hid:id.length=32):∃ w A',EvF Try.prog HH 50 [.ptr rp 0,.agg (bc id)] A w A'/\GRes A rp cp vb fk fa A' (r.Know id) w:=by
 refine Aa4 rfl Try.func50 (by unfold Try.f50;rfl) Try.ntmps50 (by unfold Try.f50;rfl) (by simp) ?_
 simp only [RT,Q0,Q1,Q2,Q3,Q4,Q5,Q6,Q7,Q8]
 obtain ⟨A1,e1,f1,r1,n1⟩:=Aa9 A (bc id)
 rw [<- e1]
 simp only [RT,Q0,Q1,Q2,Q3,Q4,Q5,Q6,Q7,Q8,Ai5 r1 hid]
 obtain ⟨w,A2,k1,k2⟩:=Av1 (f1.wf hw) (h.fr0 f1) hr hid
 refine Aa0 k1 ?_
 obtain ⟨hr2,ha2⟩:=hr.remember id
 obtain ⟨fk2,fa2,j1,j2,j3,j4⟩:=k2.toR
 obtain ⟨w,A3,m1,m2⟩:=Ae8 (j1.wf (f1.wf hw)) j4 hr2 (by rw [ha2];omega)
 simp only [RT,Q0,Q1,Q2,Q3,Q4,Q5,Q6,Q7,Q8]
 refine Aa0 m1 ?_
 simp only [RT,Q0,Q1,Q2,Q3,Q4,Q5,Q6,Q7,Q8]
 exact GRes.next0 hw f1 (m2.next (f1.wf hw) j1 j2 j3)
set_option maxRecDepth 10000 in
theorem A72 (h:IsRd A rp r cp vb fk fa):∃ w A',EvF Try.prog HH 38 [.ptr rp 0] A w A'/\A'=A/\w=.tup [.int .i64 r.now,.int .i64 r.step]:=by
 refine Aa4 rfl Try.func38 (by unfold Try.f38;rfl) Try.ntmps38 (by unfold Try.f38;rfl) (by simp) ?_
 obtain ⟨kv,av,b1,b2,b3⟩:=h.box
 have ld:=Ao3 b1 h.ok
 simp only [RT,Q0,Q1,Q2,Q3,Q4,Q5,Q6,Q7,Q8]
 rw [BL1,Aa2 (by rfl)]
 simp only [RT,Q0,Q1,Q2,Q3,Q4,Q5,Q6,Q7,Q8,AC1 rp,ld]
set_option maxRecDepth 10000 in
set_option maxHeartbeats 8000000 in
theorem AY2 (hw:WF A) (h:IsRd A rp r cp vb fk fa) (hr:Rng r) (hl:r.acts.length<=100000) {id:Bts} (hid:id.length=32):∃ w A',EvF Try.prog HH 25 [.ptr rp 0,.agg (bc id)] A w A'/\GRes A rp cp vb fk fa A' (r.Begin id) w:=by
 refine Aa4 rfl Try.func25 (by unfold Try.f25;rfl) Try.ntmps25 (by unfold Try.f25;rfl) (by simp) ?_
 simp only [RT,Q0,Q1,Q2,Q3,Q4,Q5,Q6,Q7,Q8]
 obtain ⟨A1,e1,f1,r1,n1⟩:=Aa9 A (bc id)
 rw [<- e1]
 have h1:=h.fr0 f1
 have w1:=f1.wf hw
 have hfa:=AC1 rp
 obtain ⟨kv,av,b1,b2,b3⟩:=h1.box
 have ld:=Ao3 b1 h.ok
 unfold Rd.Begin
 by_cases q0:r.now >= 0
 . rw [if_pos q0]
   simp only [RT,Q0,Q1,Q2,Q3,Q4,Q5,Q6,Q7,Q8,hfa,ld,decide_eq_true q0]
   obtain ⟨w,A3,m1,m2⟩:=Ae8 w1 h1 hr (by omega)
   refine Aa0 m1 ?_
   simp only [RT,Q0,Q1,Q2,Q3,Q4,Q5,Q6,Q7,Q8]
   exact GRes.next0 hw f1 m2
 rw [if_neg q0]
 have key:∀ {B:AS} {r2:Rd},IsRd B rp r2 cp vb fk fa->WF B->Rng r2->r2.acts.length<=100000->∃ w1 C w2 D,EvF Try.prog HH 48 [.ptr rp 0,.int .i64 0] B w1 C/\EvF Try.prog HH 47 [.ptr rp 0] C w2 D/\GRes B rp cp vb fk fa D ((r2.begin 0).settle) w2:=by
  intro B r2 hB wB hr2 hl2
  obtain ⟨w,C,k1,fk2,fa2,j1,j2,j3,j4⟩:=Ax8 wB hB hr2 (R:=0) (by omega) (by omega) (by omega)
  obtain ⟨y1,y2⟩:=hr2.begin (R:=0) (by omega)
  obtain ⟨w',D,m1,m2⟩:=Ae8 (j1.wf wB) j4 y1 (by omega)
  exact ⟨w,C,w',D,k1,m1,m2.next wB j1 j2 j3⟩
 simp only [RT,Q0,Q1,Q2,Q3,Q4,Q5,Q6,Q7,Q8,hfa,ld,decide_eq_false q0,Ai5 r1 hid,Am4,eqZ hid Ab2]
 by_cases q1:id=z32
 . obtain ⟨_, C, w2, D, k1, k2, k3⟩ := key h1 w1 hr hl
   simp only [RT,Q0,Q1,Q2,Q3,Q4,Q5,Q6,Q7,Q8,decide_eq_true q1]
   refine Aa0 k1 ?_
   simp only [RT,Q0,Q1,Q2,Q3,Q4,Q5,Q6,Q7,Q8]
   refine Aa0 k2 ?_
   simp only [RT,Q0,Q1,Q2,Q3,Q4,Q5,Q6,Q7,Q8]
   rw [if_pos q1]
   exact GRes.next0 hw f1 k3
 . obtain ⟨A2, s1, s2, s3⟩ := (BO8 b1 h.ok hid).2.2
   have h2:IsRd A2 rp { r with fresh:=id } cp vb fk fa:=h1.upd b1 b2 b3 s2 s3 rfl rfl rfl rfl { h.ok with fresh:=hid }
   obtain ⟨_,C,w2,D,k1,k2,k3⟩:=key h2 (s2.wf w1) { hr with } hl
   simp only [RT,Q0,Q1,Q2,Q3,Q4,Q5,Q6,Q7,Q8,decide_eq_false q1,Ai5 r1 hid,hfa,s1]
   refine Aa0 k1 ?_
   simp only [RT,Q0,Q1,Q2,Q3,Q4,Q5,Q6,Q7,Q8]
   refine Aa0 k2 ?_
   simp only [RT,Q0,Q1,Q2,Q3,Q4,Q5,Q6,Q7,Q8]
   rw [if_neg q1]
   exact GRes.next0 hw f1 (k3.next w1 (s2.mono fun _ q=>.inl q) (.inl rfl) (.inl rfl))
end
end Go.Sv.Try
