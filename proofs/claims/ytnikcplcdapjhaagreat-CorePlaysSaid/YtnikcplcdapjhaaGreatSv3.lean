/- Code, in both machines. -/
import Derived.Test.YtnikcplcdapjhaaGreatSv2
import GoSem.ClaimChange
import Derived.ChangeSame
set_option linter.unnecessarySimpa false
set_option linter.unusedSimpArgs false
set_option linter.unusedVariables false
namespace Go.Sv
open Go
def codeOk(P:Program)(H:Hints)(f:FuncId):Code->Bool
 |.region id ops draw=>!draw || kO P ops (H.ak f id)
 |.seq a b=>codeOk P H f a && codeOk P H f b
 |.cond _ a b=>codeOk P H f a && codeOk P H f b
 |.block _ a=>codeOk P H f a
 |.loop a=>codeOk P H f a
 |.scope a=>codeOk P H f a
 |.rangeFunc _ _ a b=>codeOk P H f a && codeOk P H f b
 | _=>true
theorem Bd9{P:Program}{H:Hints}{f:FuncId}{a c:Code}(hs:Sub a c)(h:codeOk P H f c=true):codeOk P H f a=true:=by
 induction hs with
 |refl=>exact h
 |pQ _ ih=>have:=ih h;simp only[codeOk,Bool.and_eq_true]at this;exact this.1
 |rv _ ih=>have:=ih h;simp only[codeOk,Bool.and_eq_true]at this;exact this.2
 |pk _ ih=>have:=ih h;simp only[codeOk,Bool.and_eq_true]at this;exact this.1
 |pn _ ih=>have:=ih h;simp only[codeOk,Bool.and_eq_true]at this;exact this.2
 |block _ ih=>have:=ih h;simpa only[codeOk] using this
 |loop _ ih=>have:=ih h;simpa only[codeOk] using this
 |scope _ ih=>have:=ih h;simpa only[codeOk] using this
 |nS _ ih=>have:=ih h;simp only[codeOk,Bool.and_eq_true]at this;exact this.1
 |nT _ ih=>have:=ih h;simp only[codeOk,Bool.and_eq_true]at this;exact this.2
structure fK(P:Program)(H:Hints):Prop where
 mixed:P.follows .mixedOrders=true
 code:∀(g:FuncId) fn body,P.funcs[g]?=some fn->fn.body=some body->codeOk P H g body=true
 name : ∀ (g : FuncId) fn, P.funcs[g]? = some fn -> fn.body.isSome = true -> (fn.name == "runtime.NumGoroutine") = false
 ground:∀(g:FuncId) v,H.ground g=some v->v.flat=true/\∃k,∀orc odr,(evFn P { ak:=H.ak } k g [] ⟨[],[],[],[],orc,odr⟩).map (fun r=>(r.1,r.2.orc,r.2.odr))=some (v,orc,odr)
theorem A35{P:Program}{H H':Hints}(h:H.ak=H'.ak)(f:FuncId):∀c,codeOk P H f c=codeOk P H' f c:=by
 intro c
 induction c with
 |region id ops draw=>simp only[codeOk,h]
 |seq a b iha ihb=>simp only[codeOk,iha,ihb]
 |cond c a b iha ihb=>simp only[codeOk,iha,ihb]
 |block id a ih=>simp only[codeOk,ih]
 |loop a ih=>simp only[codeOk,ih]
 |scope a ih=>simp only[codeOk,ih]
 |rangeFunc g ps a b iha ihb=>simp only[codeOk,iha,ihb]
 | _=>rfl
def mn(P:Program)(m0:Machine)(A:AS)(b:Frame)(a:Act)(cs:List Frame)(w:World)(k:List Item):Ex->Prop
 |.normal=>Live P m0 A (lone (b.atR a k) cs w)
 |.exit id=>∃k1,exitTo id k1=exitTo id k/\Live P m0 A (lone (b.atR a (.code (.exit id)::k1)) cs w)
 |.ret=>∃k1,Live P m0 A (lone (b.atR a (.code .ret::k1)) cs w)
section
variable {P:Program} {H:Hints} {C:Calls} {base n0:Nat} {W:World} {nt kf:Nat} {m0:Machine} {f:FuncId} {fn:Func} {cbody:Code}
def jz(P:Program)(base n0:Nat)(W:World)(nt:Nat)(m0:Machine)(b:Frame)(cs:List Frame)(k:List Item)(ρ:Rho)(A:AS)(w:World)(x:Ex)(e':Env)(A':AS):Prop :=
 ∃ ρ' a' w',Adv P base W ρ A w ρ' A' w'/\ER ρ' e' a'.tmps/\a'.tmps.size=nt/\Marks ρ' w' n0 a'.defers/\mn P m0 A' b a' cs w' k x
structure mM(P:Program)(base n0:Nat)(W:World)(nt:Nat)(b:Frame)(ρ:Rho)(A:AS)(w:World)(a:Act)(e:Env):Prop where
 ro:RO ρ b
 inv:Inv P base W ρ A w
 er:ER ρ e a.tmps
 size:a.tmps.size=nt
 marks:Marks ρ w n0 a.defers
 room:n0<=w.heap.size
theorem jz.oi{b:Frame}{cs:List Frame}{k:List Item}{ρ ρ1:Rho}{A A1 A':AS}{w w1:World}{x:Ex}{e':Env}(h:Adv P base W ρ A w ρ1 A1 w1)(hr:jz P base n0 W nt m0 b cs k ρ1 A1 w1 x e' A'):jz P base n0 W nt m0 b cs k ρ A w x e' A':=by
 obtain⟨ρ',a',w',h1,h2⟩:=hr
 exact⟨ρ',a',w',h.trans h1,h2⟩
theorem mn.mq{A:AS}{b:Frame}{a:Act}{cs:List Frame}{w:World}{k k':List Item}{x:Ex}(hx:x≠.normal)(hk:∀id,exitTo id k=exitTo id k')(h:mn P m0 A b a cs w k x):mn P m0 A b a cs w k' x:=by
 cases x with
 |normal=>exact absurd rfl hx
 |exit id=>obtain⟨k1,h1,h2⟩:=h;exact⟨k1,h1.trans (hk id),h2⟩
 |ret=>exact h
theorem Ae2{b:Frame}{a:Act}{cs:List Frame}{w:World}{i:Item}{k:List Item}(h:∀ops l,i≠.inRegion ops l):cJ (lone (b.atR a (i::k)) cs w)=false :=
 Ag4 (by
  intro ops l k' q
  simp only[Frame.atR,List.cons.injEq]at q
  exact h ops l q.1)
theorem Bm2{c:Code}{b:Frame}{cs:List Frame}{k:List Item}
 (ih:∀{ρ A w a e x e' A'},mM P base n0 W nt b ρ A w a e->aM P H C kf f nt c e A=some (x,e',A') ->
  Live P m0 A (lone (b.atR a (.code c::.inLoop c::k)) cs w)->jz P base n0 W nt m0 b cs (.inLoop c::k) ρ A w x e' A'):
 ∀(n:Nat) {ρ A w a e x e' A'},mM P base n0 W nt b ρ A w a e->gQ (fun e A=>aM P H C kf f nt c e A) n e A=some (x,e',A') ->
  Live P m0 A (lone (b.atR a (.code c::.inLoop c::k)) cs w)->jz P base n0 W nt m0 b cs k ρ A w x e' A'
 | 0,ρ,A,w,a,e,x,e',A',hI,hv,hL=>by simp[gQ]at hv
 |n+1,ρ,A,w,a,e,x,e',A',hI,hv,hL=>by
  unfold gQ at hv
  split at hv
  . rename_i e1 A1 h1
    obtain⟨ρ1,a1,w1,q1,q2,q3,q4,q5⟩:=ih hI h1 hL
    have hL2:=Live.quiet q5 stepR_inLoop (Ae2 (by simp))
    exact jz.oi q1 (Bm2 ih n ⟨hI.ro.mono q1.le,q1.inv,q2,q3,q4,Nat.le_trans hI.room q1.fu.size⟩ hv hL2)
  . rename_i hne
    obtain⟨ρ1,a1,w1,q1,q2,q3,q4,q5⟩:=ih hI hv hL
    exact⟨ρ1,a1,w1,q1,q2,q3,q4,mn.mq (k:=.inLoop c::k) (fun hx=>by subst hx;exact hne _ _ hv) (fun id=>rfl) q5⟩
theorem A36(hC:dJ P C)(hP:fK P H)(hf:P.funcs[f]?=some fn)(hb:fn.body=some cbody)(hnt:fn.ntmps=nt){b:Frame}(hbf:b.fn=f){cs:List Frame}:
 ∀(c:Code),Sub c cbody->∀{k:List Item} {ρ A w a e x e' A'},mM P base n0 W nt b ρ A w a e->aM P H C kf f nt c e A=some (x,e',A') ->
  Live P m0 A (lone (b.atR a (.code c::k)) cs w)->jz P base n0 W nt m0 b cs k ρ A w x e' A':=by
 intro c
 induction c with
 |skip =>
  intro hs k ρ A w a e x e' A' hI hv hL
  simp[aM]at hv;obtain⟨rfl,rfl,rfl⟩:=hv
  exact⟨ρ,a,w,.refl hI.inv,hI.er,hI.size,hI.marks,hL.quiet stepR_skip (Ae2 (by simp))⟩
 |label l =>
  intro hs k ρ A w a e x e' A' hI hv hL
  simp[aM]at hv;obtain⟨rfl,rfl,rfl⟩:=hv
  exact⟨ρ,a,w,.refl hI.inv,hI.er,hI.size,hI.marks,hL.quiet stepR_label (Ae2 (by simp))⟩
 |region id ops draw =>
  intro hs k ρ A w a e x e' A' hI hv hL
  cases draw with
  |false =>
   simp only[aM,Bool.false_eq_true,if_false,Option.map_eq_some_iff]at hv
   obtain⟨⟨e1,A1⟩,h1,h2⟩:=hv
   simp at h2;obtain⟨rfl,rfl,rfl⟩:=h2
   obtain⟨ρ',a',w',q1,q2,q3,q4,q5⟩:=Bd6 hC hI.inv hI.er hI.size h1 hL
   exact⟨ρ',a',w',q1,q2,q3,by rw[q4];exact hI.marks.adv q1,q5⟩
  |true =>
   simp only[aM,if_true,Option.map_eq_some_iff]at hv
   obtain⟨⟨e1,A1⟩,h1,h2⟩:=hv
   simp at h2;obtain⟨rfl,rfl,rfl⟩:=h2
   have hok:=Bd9 (f:=f) hs (hP.code f fn cbody hf hb)
   simp only[codeOk,Bool.not_true,Bool.false_or]at hok
   obtain⟨ρ',a',w',q1,q2,q3,q4,q5⟩:=A34 hC hP.mixed hok hI.inv hI.er hI.size h1 hL
   exact⟨ρ',a',w',q1,q2,q3,by rw[q4];exact hI.marks.adv q1,q5⟩
 |seq c1 c2 ih1 ih2 =>
  intro hs k ρ A w a e x e' A' hI hv hL
  have hL1:=hL.quiet stepR_seq (Ae2 (by simp))
  simp only[aM]at hv
  split at hv
  . rename_i e1 A1 h1
    obtain⟨ρ1,a1,w1,q1,q2,q3,q4,q5⟩:=ih1 hs.pQ hI h1 hL1
    exact jz.oi q1 (ih2 hs.rv ⟨hI.ro.mono q1.le,q1.inv,q2,q3,q4,Nat.le_trans hI.room q1.fu.size⟩ hv q5)
  . rename_i hne
    obtain⟨ρ1,a1,w1,q1,q2,q3,q4,q5⟩:=ih1 hs.pQ hI hv hL1
    exact⟨ρ1,a1,w1,q1,q2,q3,q4,mn.mq (k:=.code c2::k) (fun hx=>by subst hx;exact hne _ _ hv) (fun id=>rfl) q5⟩
 |cond o c1 c2 ih1 ih2 =>
  intro hs k ρ A w a e x e' A' hI hv hL
  simp only[aM]at hv
  split at hv
  . rename_i ho
    have hov:=(AH3 (a:=a) (fun t _=>hI.er t) ho).dR
    have hL1:=hL.quiet (stepR_cond hov) (Ae2 (by simp))
    simp only[if_true]at hL1
    exact ih1 hs.pk hI hv hL1
  . rename_i ho
    have hov:=(AH3 (a:=a) (fun t _=>hI.er t) ho).dR
    have hL1:=hL.quiet (stepR_cond hov) (Ae2 (by simp))
    simp only[Bool.false_eq_true,if_false]at hL1
    exact ih2 hs.pn hI hv hL1
  . simp at hv
 |block id c ih =>
  intro hs k ρ A w a e x e' A' hI hv hL
  have hL1:=hL.quiet stepR_block (Ae2 (by simp))
  simp only[aM,Option.map_eq_some_iff]at hv
  obtain⟨⟨x1,e1,A1⟩,h1,h2⟩:=hv
  simp only[Prod.mk.injEq]at h2;obtain⟨rfl,rfl,rfl⟩:=h2
  obtain⟨ρ1,a1,w1,q1,q2,q3,q4,q5⟩:=ih hs.block hI h1 hL1
  refine⟨ρ1,a1,w1,q1,q2,q3,q4,?_⟩
  cases x1 with
  |normal=>simp;exact Live.quiet q5 stepR_inBlock (Ae2 (by simp))
  |exit id' =>
   obtain⟨k1,h3,h4⟩:=q5
   by_cases hid:id'=id
   . subst hid
     simp only[if_true]
     have h5:exitTo id' k1=some k:=by rw[h3];simp[exitTo]
     exact h4.quiet (stepR_exit h5) (Ae2 (by simp))
   . rw[if_neg (by simpa using hid)]
     refine⟨k1,?_,h4⟩
     rw[h3]
     have:(id == id')=false:=by simpa using fun e=>hid e.symm
     simp[exitTo,this]
  |ret=>simp;exact q5
 |loop c ih =>
  intro hs k ρ A w a e x e' A' hI hv hL
  have hL1:=hL.quiet stepR_loop (Ae2 (by simp))
  simp only[aM]at hv
  exact Bm2 (fun hI hv hL=>ih hs.loop hI hv hL) kf hI hv hL1
 |scope c ih =>
  intro hs k ρ A w a e x e' A' hI hv hL
  have dA:step P (lone (b.atR a (.code (.scope c)::k)) cs w)=.next (lone (b.atR a (.code c::.inScope c::k)) cs w):=
   step_lone_go (by simp[stepG,stepG.exec,Frame.atR])
  have hL1:=hL.quiet dA (Ae2 (by simp))
  simp only[aM]at hv
  obtain⟨ρ1,a1,w1,q1,q2,q3,q4,q5⟩:=ih hs.scope hI hv hL1
  refine⟨ρ1,a1,w1,q1,q2,q3,q4,?_⟩
  cases x with
  |normal =>
   have qo:step P (lone (b.atR a1 (.inScope c::k)) cs w1)=.next (lone (b.atR a1 k) cs w1):=
    step_lone_go (by simp[stepG,stepG.exec,Frame.atR])
   exact Live.quiet q5 qo (Ae2 (by simp))
  |exit id=>exact mn.mq (k:=.inScope c::k) (by simp) (fun id=>rfl) q5
  |ret=>exact q5
 |exit id =>
  intro hs k ρ A w a e x e' A' hI hv hL
  simp[aM]at hv;obtain⟨rfl,rfl,rfl⟩:=hv
  exact⟨ρ,a,w,.refl hI.inv,hI.er,hI.size,hI.marks,k,rfl,hL⟩
 |ret =>
  intro hs k ρ A w a e x e' A' hI hv hL
  simp[aM]at hv;obtain⟨rfl,rfl,rfl⟩:=hv
  exact⟨ρ,a,w,.refl hI.inv,hI.er,hI.size,hI.marks,k,hL⟩
 |rangeFunc g ps as bd ih1 ih2 =>
  intro hs k ρ A w a e x e' A' hI hv hL
  simp only[aM]at hv
  split at hv
  case h_2=>simp at hv
  rename_i v2 A2 kC
  split at hv
  case h_2=>simp at hv
  rename_i r hr
  split at hv
  . simp at hv
  rename_i rY
  unfold jU at kC
  split at kC
  case h_2=>simp at kC
  rename_i h first cap hge
  subst hbf
  obtain⟨lx,mark,w1,he,hA1,hM1⟩:=Bd8 hI.inv hI.ro hI.marks hI.room ps as bd hI.er hf (by rw[hI.size,hnt]) hb hs.nS hs.nT
  have hgv:=(AH3 (a:=a) (fun t _=>hI.er t) hge).mono hA1.le
  obtain⟨first',cap',e1,h1,h2⟩:=hgv.l7
  obtain⟨⟨fn',body',rZ,oj⟩,oU⟩:=hC.call _ _ _ _ _ kC
  have hy:VRs (ρ.fI A.loops.length lx) [V.yield A.loops.length] [Value.func (.yield lx) #[] #[]]:=.cons (.yield (by simp[Rho.fI])) (.nil _)
  have gL:VRs (ρ.fI A.loops.length lx) (first++[.yield A.loops.length]++cap) (first'++#[Value.func (.yield lx) #[] #[]]++cap').toList:=by
   simp only[Array.toList_append]
   exact(h1.append hy).append h2
  have ng:(resolve a.eval (rangeCall g lx) 0).run P w1=.ok { target:=.fn (.func h) cap',args:=first'++#[Value.func (.yield lx) #[] #[]] } w1:=by
   show(Deferred.ofValue (a.eval g) ((#[Operand.const (.func (.yield lx) #[] #[])]:Array Operand).map a.eval)).run P w1=_
   rw[e1]
   simp[Deferred.ofValue,Act.eval]
  have hinv:(invoke (.fn (.func h) cap') (first'++#[Value.func (.yield lx) #[] #[]])).run P w1=.ok (.enter h (first'++#[Value.func (.yield lx) #[] #[]]++cap')) w1:=by
   simp only[invoke]
   exact AB4 rZ (by rw[oj];rfl) (hC.name h fn' rZ (by rw[oj];rfl)) w1
  have dA:=stepR_rangeFunc (b:=b) (a:=a) (k:=k) (cs:=cs) he ng hinv
  have hL1:=hL.quiet dA (Ae2 (by simp))
  obtain⟨ρ2,v',w2,fr,q1,q2,q3,q4,q5,q6⟩:=oU m0 base W _ w1 _ _ hA1.inv gL (hL1.of rfl rfl)
  have hs2:=step_leave_returned (P:=P) (cs:=cs) (c:=b.atR { a with defers:=mark++a.defers } (.inRangeFunc lx::k)) q5
  rw[finish_atR_inRangeFunc]at hs2
  have hL2:=q3.quiet hs2 q6
  have hlp:ρ2.lp A.loops.length=some lx:=q1.le.lp _ _ (by simp[Rho.fI])
  obtain⟨hbx,r0,r',e3,e4,e5⟩:=q1.inv.lp _ _ hlp
  rw[hr]at e3;cases e3
  obtain⟨f1,f2,f3,f4,f5,f6,f7,f8⟩:=e5
  have ga:=run_endLoop (P:=P) e4 (by rw[f1];exact rY)
  obtain⟨rx,hrx⟩:∃rx:Loop,rx={ r' with state:=.exhausted }:=⟨_,rfl⟩
  have hLR:LR ρ2 P { r with state:=.exhausted } rx:=by rw[hrx];exact⟨rfl,f2,f3,f4,f5,f6,f7,f8⟩
  rw[<- hrx]at ga
  have qq:=stepR_endRangeFunc (P:=P) (b:=b) (a:={ a with defers:=mark++a.defers }) (k:=k) (cs:=cs) ga
  have hL3:=hL2.quiet qq (Ae2 (by simp))
  have hA3:=q1.inv.jc hlp hLR
  have hA:=(hA1.trans q1).trans hA3
  have hM:=(hM1.adv q1).adv hA3
  rw[f2]at hL3
  split at hv
  . rename_i hp
    simp at hv;obtain⟨rfl,rfl,rfl⟩:=hv
    rw[hp]at hL3
    exact⟨ρ2,{ a with defers:=mark++a.defers },_,hA,hI.er.mono hA.le,hI.size,hM,hL3.of rfl rfl⟩
  . rename_i hp
    simp at hv;obtain⟨rfl,rfl,rfl⟩:=hv
    rw[hp]at hL3
    exact⟨ρ2,{ a with defers:=mark++a.defers },_,hA,hI.er.mono hA.le,hI.size,hM,k,hL3.of rfl rfl⟩
  . rename_i id hp
    simp at hv;obtain⟨rfl,rfl,rfl⟩:=hv
    rw[hp]at hL3
    exact⟨ρ2,{ a with defers:=mark++a.defers },_,hA,hI.er.mono hA.le,hI.size,hM,k,rfl,hL3.of rfl rfl⟩
  . simp at hv
 |goto l=>intro hs k ρ A w a e x e' A' hI hv hL;simp[aM]at hv
 |refuse s=>intro hs k ρ A w a e x e' A' hI hv hL;simp[aM]at hv
end
end Go.Sv
namespace Go.Sv
open Go
theorem AM7:∀(l:List V) (i t:Nat),(eD i l).get t=if i<=t then(l[t-i]?).getD .undef else .undef
 |[],i,t=>by simp[eD,Env.get]
 |v::l,i,t=>by
  have ih:=AM7 l (i+1) t
  simp only[eD,Env.get]
  by_cases h:i=t
  . subst h;simp
  . have h':(i == t)=false:=by simpa using h
    rw[h',ih]
    simp only[Bool.false_eq_true,if_false]
    by_cases hit:i<=t
    . rw[if_pos hit,if_pos (by omega)]
      rw[show t-i=(t-(i+1))+1 by omega,List.getElem?_cons_succ]
    . rw[if_neg hit,if_neg (by omega)]
theorem Bm3{ρ:Rho}{args:List V}{args':Array Value}(h:VRs ρ args args'.toList)(n:Nat):ER ρ (eD 0 args) (args'++Array.replicate n undef):=by
 intro t
 rw[AM7]
 simp only[Nat.zero_le,if_true,Nat.sub_zero]
 cases hv:args[t]? with
 |none=>simp only[Option.getD_none];exact .undef _
 |some v =>
  obtain⟨v',h1,h2⟩:=h.getElem? hv
  simp only[Option.getD_some]
  have hlt:t<args'.size:=by have:=(LG.1 h1).1;simpa using this
  have h1':args'[t]?=some v':=by simpa using h1
  rw[Array.getD_eq_getD_getElem?,Array.getElem?_append_left hlt,h1']
  exact h2
theorem Au9{P:Program}{base:Nat}{W:World}{ρ:Rho}{A:AS}{w:World}{e:Env}{tmps:Array Value}(hI:Inv P base W ρ A w)(hE:ER ρ e tmps)(g:ResultVar->Sem Value)
 (hg1:∀t,g (.tmp t)=pure (tmps.getD t undef)) (hg2:∀a t,g (.cell a t)=(do loadVar t (<- asAddr (tmps.getD a undef)))):∀{rs:List ResultVar} {vs:List V},aW P e A rs=some vs ->
 ∃vs',(rs.mapM g).run P w=.ok vs' w/\VRs ρ vs vs'
 |[],vs,h=>by simp[aW]at h;subst h;exact⟨[],rfl,.nil _⟩
 |.tmp t::rs,vs,h=>by
  simp only[aW,Option.map_eq_some_iff]at h
  obtain⟨vs1,h1,rfl⟩:=h
  obtain⟨vs',h2,h3⟩:=Au9 hI hE g hg1 hg2 h1
  refine⟨tmps.getD t undef::vs',?_,.cons (hE t) h3⟩
  rw[List.mapM_cons,hg1]
  simp only[Sem.run_bind,Sem.run_pure,Result.andThen_ok,h2]
 |.cell a t::rs,vs,h=>by
  simp only[aW]at h
  split at h
  . rename_i v vs1 h1 h2
    simp at h;subst h
    obtain⟨vs',h3,h4⟩:=Au9 hI hE g hg1 hg2 h2
    obtain⟨v',h5,h6⟩:=AG1 hI (hE a) h1
    refine⟨v'::vs',?_,.cons h6 h4⟩
    have oV:∀x x',VR ρ x x'->aa P t x A=some v->∃ad,x'=.pointer (some ad):=by
     intro x x' ha h1
     unfold aa at h1
     split at h1
     . obtain⟨y,d,_,q⟩:=ha.ff;exact⟨_,q⟩
     . obtain⟨y,d,_,q⟩:=ha.ff;exact⟨_,q⟩
     . simp at h1
    obtain⟨ad,oV⟩:=oV _ _ (hE a) h1
    rw[oV]at h5
    have h5':(loadVar t ad).run P w=.ok v' w:=by simpa[Instr.loadAt,Instr.sureAddr] using h5
    have h6':(asAddr (.pointer (some ad))).run P w=.ok ad w:=rfl
    rw[List.mapM_cons,hg2]
    simp only[Sem.run_bind,oV,h6',Sem.run_pure,Result.andThen_ok,h5',h3]
  . simp at h
theorem Bm4{ρ:Rho}{vs:List V}{vs':List Value}(h:VRs ρ vs vs'):VR ρ (single vs) (if h:vs'.toArray.size=1 then vs'.toArray[0] else .tuple vs'.toArray):=by
 match vs,vs',h with
 |[],l',h =>
  rw[h.dI]
  exact .dy (.nil _)
 |[v],l',h =>
  obtain⟨v',r',rfl,h1,h2⟩:=h.cons_inv
  rw[h2.dI]
  exact h1
 |v1::v2::vs,l',h =>
  obtain⟨v',r',rfl,h1,h2⟩:=h.cons_inv
  obtain⟨v'',r'',rfl,h3,h4⟩:=h2.cons_inv
  simp only[single]
  rw[dif_neg (by simp)]
  exact .dy h
theorem Be0{P:Program}{base:Nat}{W:World}{ρ:Rho}{A:AS}{w:World}{e:Env}{tmps:Array Value}(hI:Inv P base W ρ A w)(hE:ER ρ e tmps){fn:Func}{vs:List V}(h:aW P e A fn.results.toList=some vs):
 ∃v',(results fn tmps).run P w=.ok v' w/\VR ρ (single vs) v':=by
 have ng:∃g:ResultVar->Sem Value,results fn tmps=(do
  let vs <- fn.results.mapM g
  pure (if h:vs.size=1 then vs[0] else .tuple vs))/\(∀t,g (.tmp t)=pure (tmps.getD t undef))/\(∀a t,g (.cell a t)=(do loadVar t (<- asAddr (tmps.getD a undef)))):=⟨_,rfl,fun _=>rfl,fun _ _=>rfl⟩
 obtain⟨g,hr,hg1,hg2⟩:=ng
 obtain⟨vs',h1,h2⟩:=Au9 hI hE g hg1 hg2 h
 refine⟨_,?_,Bm4 h2⟩
 rw[hr,Array.mapM_eq_mapM_toList]
 simp only[Sem.run_bind,Sem.run_map,h1,Sem.run_pure,Result.andThen_ok]
theorem AB6{P:Program}{base n0:Nat}{W:World}{ρ:Rho}{A:AS}{m0:Machine}{cs:List Frame}(hb:base<=n0):∀(ds:List Deferred) {w:World} {fr:Frame},Inv P base W ρ A w->Marks ρ w n0 ds->fr.mode=.returning->fr.defers=ds ->
 (∀ops l k,fr.todo≠.inRegion ops l::k)->Live P m0 A (lone fr cs w) ->
 ∃w',Inv P base W ρ A w'/\w'.heap.size=w.heap.size/\(∀i,i<n0->w'.heap[i]?=w.heap[i]?)/\Live P m0 A (lone { fr with defers:=[] } cs w')
 |[],w,fr,hI,hM,hm,hd,ht,hL=>⟨w,hI,rfl,fun _ _=>rfl,by
  have:({ fr with defers:=[] }:Frame)=fr:=by rw[<- hd]
  rw[this];exact hL⟩
 |d::ds,w,fr,hI,hM,hm,hd,ht,hL=>by
  obtain⟨r,h1,h2,h3,h4⟩:=hM.each d (by simp)
  have hlt:=Ak4 h3
  have jC:=run_takeDeferred (P:=P) h3
  have hs:=step_collected (P:=P) (fr:=fr) (cs:=cs) (by rw[hm];simp) hd (by rw[h1]) jC
  have hL1:=hL.quiet hs (Ag4 ht)
  have bM:=As8 (Obj.deferred none) hlt
  have hI1:Inv P base W ρ A (w.putObj r (.deferred none)):=hI.world rfl rfl rfl (by simp) (fun i hi=>by rw[bM,if_neg (by omega)]) (fun x hx=>by
   rw[bM,if_neg]
   rintro rfl
   exact h4 hx)
  have hM1:Marks ρ (w.putObj r (.deferred none)) n0 ds:=⟨fun d' hd'=>by
   obtain⟨r',e1,e2,e3,e4⟩:=hM.each d' (by simp[hd'])
   refine⟨r',e1,e2,?_,e4⟩
   rw[bM,if_neg]
   . exact e3
   . rintro rfl
     have hne:=(List.pairwise_cons.1 hM.apart).1 d' hd'
     rw[h1,e1]at hne
     exact hne rfl,(List.pairwise_cons.1 hM.apart).2⟩
  have hL1':Live P m0 A (lone { fr with defers:=ds } cs (w.putObj r (.deferred none))):=by simpa using hL1
  obtain⟨w',q1,q2,q3,q4⟩:=AB6 hb ds (fr:={ fr with defers:=ds }) hI1 hM1 hm rfl ht hL1'
  exact⟨w',q1,by rw[q2];simp,fun i hi=>by rw[q3 i hi,bM,if_neg (by omega)],q4⟩
theorem AX5{ρ:Rho}:∀(ps:List Tmp) (vs:List V) (args':List Value) {e e0:Env} {tmps:Array Value},VRs ρ vs args'->ca e ps vs=some e0->ER ρ e tmps->(∀p∈ps,p<tmps.size) ->
 ER ρ e0 ((ps.zip args').foldl (fun tmps (t,a)=>tmps.setIfInBounds t a) tmps)/\((ps.zip args').foldl (fun tmps (t,a)=>tmps.setIfInBounds t a) tmps).size=tmps.size/\args'.length=ps.length
 |[],[],args',e,e0,tmps,hv,h,hE,_=>by
  rw[hv.dI]
  simp[ca]at h;subst h
  exact⟨hE,rfl,rfl⟩
 |[],v::vs,args',e,e0,tmps,hv,h,hE,_=>by simp[ca]at h
 |p::ps,[],args',e,e0,tmps,hv,h,hE,_=>by simp[ca]at h
 |p::ps,v::vs,args',e,e0,tmps,hv,h,hE,hp=>by
  obtain⟨v',r',rfl,h1,h2⟩:=hv.cons_inv
  simp only[ca]at h
  have hlt:=hp p (by simp)
  have hE1:ER ρ ((p,v)::e) (tmps.setIfInBounds p v'):=by
   intro t
   simp only[Env.get,Array.getD_eq_getD_getElem?,Array.getElem?_setIfInBounds]
   by_cases hpt:p=t
   . subst hpt;simp[hlt];exact h1
   . have:(p == t)=false:=by simpa using hpt
     simp only[this,Bool.false_eq_true,if_false,hpt]
     have:=hE t
     rwa[Array.getD_eq_getD_getElem?]at this
  obtain⟨q1,q2,q3⟩:=AX5 ps vs r' h2 h hE1 (fun q hq=>by simp;exact hp q (by simp[hq]))
  exact⟨by simpa using q1,by simpa using q2,by simp[q3]⟩
theorem B73{P:Program}{H:Hints}{k:Nat}(hP:fK P H)(hG:∀f v,H.ground f=some v->∀A,oS P f [] A v A)(hC:dJ P ⟨evFn P H k,cS P H k⟩){g:FuncId}{args:List V}{A:AS}{v:V}{A':AS}(hv:evFn P H (k+1) g args A=some (v,A')):oS P g args A v A':=by
 unfold evFn at hv
 split at hv
 . rename_i v0 hg
   simp at hv
   obtain⟨rfl,rfl⟩:=hv
   split at hg
   . rename_i he
     have:args=[]:=by simpa using he
     subst this
     exact hG _ _ hg _
   . simp at hg
 split at hv
 . simp at hv
 rename_i fn hf
 split at hv
 . simp at hv
 rename_i body hb
 split at hv
 case isFalse=>simp at hv
 rename_i hlen
 refine⟨⟨fn,body,hf,hb⟩,?_⟩
 intro m0 base W ρ w args' cs hI eR hL
 let b:Frame:=Frame.enter P g args' .normal
 let a:Act:={ tmps:=args'++Array.replicate (fn.ntmps-args'.size) undef,defers:=[] }
 have hb0:Frame.enter P g args' .normal=b.atR a [.code body]:=by simp[Frame.enter,Frame.atR,b,a,hf,hb]
 have hbf:b.fn=g:=rfl
 have hro:b.roundOf=none:=rfl
 have hk:b.kind=.normal:=rfl
 have hal:args'.size=args.length:=by have:=eR.len;simp at this;omega
 have tu:a.tmps.size=fn.ntmps:=by simp[a];omega
 rw[hb0]at hL
 have hCI:mM P base w.heap.size W fn.ntmps b ρ A w a (eD 0 args):=⟨.inl hro,hI,Bm3 eR _,tu,.nil _ _ _,Nat.le_refl _⟩
 have leave:∀{x:Ex} {e:Env} {A1:AS},aM P H ⟨evFn P H k,cS P H k⟩ k g fn.ntmps body (eD 0 args) A=some (x,e,A1)->(x=.normal∨x=.ret) ->
  (aW P e A1 fn.results.toList).map (fun vs=>(single vs,A1))=some (v,A') ->
  ∃ ρ' v' w' fr,Adv P base W ρ A w ρ' A' w'/\VR ρ' v v'/\Live P m0 A' (lone fr cs w')/\fr.fn=g/\fr.leaving P w' (.returned v')/\cJ (lone fr cs w')=false:=by
  intro x e A1 sa hx ng
  simp only[Option.map_eq_some_iff]at ng
  obtain⟨vs,h1,h2⟩:=ng
  simp at h2;obtain⟨rfl,rfl⟩:=h2
  obtain⟨ρ1,a1,w1,q1,q2,q3,q4,q5⟩:=A36 hC hP hf hb rfl hbf body (.refl _) hCI sa hL
  have tw:∃fr:Frame,fr.mode=.returning/\fr.defers=a1.defers/\fr.fn=g/\fr.kind=.normal/\fr.tmps=a1.tmps/\(∀ops l k,fr.todo≠.inRegion ops l::k)/\Live P m0 A1 (lone fr cs w1):=by
   rcases hx with rfl |rfl
   . refine⟨{ b.atR a1 [] with mode:=.returning },rfl,rfl,rfl,rfl,rfl,?_,?_⟩
     . intro ops l k q;simp[Frame.atR]at q
     . exact Live.quiet q5 (stepR_end hro) (Ag4 (by intro ops l k q;simp[Frame.atR]at q))
   . obtain⟨k1,q5⟩:=q5
     refine⟨{ b.atR a1 (.code .ret::k1)with mode:=.returning },rfl,rfl,rfl,rfl,rfl,?_,?_⟩
     . intro ops l k q;simp[Frame.atR]at q
     . exact q5.quiet (stepR_ret hro) (Ae2 (by simp))
  obtain⟨fr,f1,f2,f3,f4,f5,f6,f7⟩:=tw
  obtain⟨w2,u1,u2,u3,u4⟩:=AB6 (cs:=cs) (m0:=m0) hI.size a1.defers q1.inv q4 f1 f2 f6 f7
  obtain⟨v',r1,r2⟩:=Be0 u1 q2 h1
  refine⟨ρ1,v',w2,{ fr with defers:=[] },⟨q1.le,u1,⟨by rw[u2];exact q1.fu.size,fun i hi hn=>by rw[u3 i hi,q1.fu.eN i hi hn]⟩,q1.fa,q1.new⟩,r2,u4,f3,?_,Ag4 f6⟩
  exact⟨f1,rfl,f4,fn,by show P.funcs[fr.fn]?=some fn;rw[f3];exact hf,by show(results fn fr.tmps).run P w2=.ok v' w2;rw[f5];exact r1⟩
 split at hv
 . rename_i e A1 h1;exact leave h1 (.inl rfl) hv
 . rename_i e A1 h1;exact leave h1 (.inr rfl) hv
 . simp at hv
end Go.Sv
namespace Go.Sv
open Go
theorem Bm5(ps:Array Tmp)(args:Array Value)(t0:Array Value):(ps.zip args).foldl (fun tmps (t,a)=>tmps.setIfInBounds t a) t0=(ps.toList.zip args.toList).foldl (fun tmps (t,a)=>tmps.setIfInBounds t a) t0:=by
 rw[<- Array.foldl_toList,Array.toList_zip]
theorem A88{P:Program}{H:Hints}{k:Nat}(hP:fK P H)(hC:dJ P ⟨evFn P H k,cS P H k⟩){l:Nat}{args:List V}{A:AS}{v:V}{A':AS}(hv:cS P H (k+1) l args A=some (v,A')):mK P l args A v A':=by
 unfold cS at hv
 split at hv
 . simp at hv
 rename_i r hr
 split at hv
 case h_2=>simp at hv
 rename_i fn e0 hf sd
 split at hv
 case isFalse=>simp at hv
 rename_i hps
 split at hv
 case h_2=>simp at hv
 rename_i e1 A1 oW
 split at hv
 case h_2=>simp at hv
 rename_i r1 hr1
 split at hv
 case isFalse=>simp at hv
 rename_i qs
 split at hv
 case h_2=>simp at hv
 rename_i x2 e2 A2 gY
 split at hv
 case h_2=>simp at hv
 rename_i r2 hr2
 simp only[Option.some.injEq,Prod.mk.injEq]at hv
 obtain⟨rfl,rfl⟩:=hv
 intro m0 base W ρ w args' x fr cs hI eR hl
 obtain⟨hbx,r0,r',q1,q2,q3⟩:=hI.lp l x hl
 rw[hr]at q1;cases q1
 obtain⟨f1,f2,f3,f4,f5,f6,f7,fn',f8,f9,cbody,f10,f11,f12⟩:=q3
 rw[hf]at f8;cases f8
 have tz:=AX5 r.params args args'.toList eR sd f7 (fun p hp=>by rw[f9];simpa using List.all_eq_true.1 hps p hp)
 obtain⟨g1,g2,g3⟩:=tz
 have hsz:args'.size=r'.params.size:=by
  have:r'.params.toList.length=args'.toList.length:=by rw[f4,g3]
  simpa using this.symm
 refine⟨r',q2,hsz,fun hL=>?_⟩
 let tm:Array Value:=(r'.params.zip args').foldl (fun tmps (t,a)=>tmps.setIfInBounds t a) r'.tmps
 have htm:tm=(r.params.zip args'.toList).foldl (fun tmps (t,a)=>tmps.setIfInBounds t a) r'.tmps:=by
  show(r'.params.zip args').foldl (fun tmps (t,a)=>tmps.setIfInBounds t a) r'.tmps=_
  rw[Bm5,f4]
 let b:Frame:=Frame.round x r'.fn tm r'.assign r'.body .normal
 have hb0:Frame.round x r'.fn tm r'.assign r'.body .normal=b.atR { tmps:=tm,defers:=[] } [.code r'.assign,.beginRound,.code r'.body]:=by simp[Frame.round,Frame.atR,b]
 have hbf:b.fn=r.fn:=f3
 have hro:b.roundOf=some x:=rfl
 have hk:b.kind=.normal:=rfl
 change Live P m0 A (lone (Frame.round x r'.fn tm r'.assign r'.body .normal) (fr::cs) w)at hL
 rw[hb0,f5,f6]at hL
 have hE0:ER ρ e0 tm:=by rw[htm];exact g1
 have hS0:tm.size=fn.ntmps:=by rw[htm,g2,f9]
 obtain⟨ρ1,a1,w1,s1,s2,s3,s4,s5⟩:=A36 (n0:=w.heap.size) hC hP hf f10 rfl hbf r.assign f11 ⟨.inr ⟨l,x,hro,hl⟩,hI,hE0,hS0,.nil _ _ _,Nat.le_refl _⟩ oW hL
 have hl1:=s1.le.lp _ _ hl
 obtain⟨_,r1',rr,t1,t2,t3⟩:=s1.inv.lp l x hl1
 rw[hr1]at t1;cases t1
 obtain⟨h1,h2,h3,h4,h5,h6,h7,h8⟩:=t3
 have sf:=run_beginRound (P:=P) t2 (by rw[h1];exact qs)
 obtain⟨rx,hrx⟩:∃rx:Loop,rx={ rr with state:=.busy }:=⟨_,rfl⟩
 have hLRx:LR ρ1 P { r1 with state:=.busy } rx:=by rw[hrx];exact⟨rfl,h2,h3,h4,h5,h6,h7,h8⟩
 rw[<- hrx]at sf
 have s6:=s1.inv.jc hl1 hLRx
 have hL2:=Live.quiet s5 (stepR_beginRound hro sf) (Ae2 (by simp))
 obtain⟨ρ2,a2,w2,u1,u2,u3,u4,u5⟩:=A36 (n0:=w.heap.size) (base:=base) (W:=W) hC hP hf f10 rfl hbf r.body f12 (k:=[]) (ρ:=ρ1) ⟨.inr ⟨l,x,hro,hl1⟩,s6.inv,s2,s3,s4.adv s6,Nat.le_trans s1.fu.size s6.fu.size⟩ gY (hL2.of rfl rfl)
 have hl2:=u1.le.lp _ _ hl1
 obtain⟨_,r2',rq,v1,v2,v3⟩:=u1.inv.lp l x hl2
 rw[hr2]at v1;cases v1
 obtain⟨i1,i2,i3,i4,i5,i6,i7,i8⟩:=v3
 have hA:=(s1.trans s6).trans u1
 cases x2 with
 |normal =>
  have ga:=run_endRound (P:=P) none v2
  have hp:=u1.inv.jc hl2 (r:={ r2 with state:=.ready,pending:=none }) (r':={ rq with state:=.ready,pending:=none }) ⟨rfl,rfl,i3,i4,i5,i6,i7,i8⟩
  exact⟨ρ2,.bool true,_,hA.trans hp,.bool true,((Live.quiet u5 (stepR_round_end hro hk ga) (Ag4 (by intro ops l k q;simp[Frame.atR]at q)))).of rfl rfl⟩
 |ret =>
  obtain⟨k1,u5⟩:=u5
  have ga:=run_endRound (P:=P) (some .ret) v2
  have hp:=u1.inv.jc hl2 (r:={ r2 with state:=.done,pending:=some .ret }) (r':={ rq with state:=.done,pending:=some .ret }) ⟨rfl,rfl,i3,i4,i5,i6,i7,i8⟩
  exact⟨ρ2,.bool false,_,hA.trans hp,.bool false,((Live.quiet u5 (stepR_round_ret hro hk ga) (Ae2 (by simp)))).of rfl rfl⟩
 |exit id =>
  obtain⟨k1,hx,u5⟩:=u5
  have ga:=run_endRound (P:=P) (some (.exit id)) v2
  have hp:=u1.inv.jc hl2 (r:={ r2 with state:=.done,pending:=some (.exit id) }) (r':={ rq with state:=.done,pending:=some (.exit id) }) ⟨rfl,rfl,i3,i4,i5,i6,i7,i8⟩
  exact⟨ρ2,.bool false,_,hA.trans hp,.bool false,((Live.quiet u5 (stepR_round_exit hro hk (by rw[hx];rfl) ga) (Ae2 (by simp)))).of rfl rfl⟩
theorem Bm6{P:Program}{H:Hints}(hP:fK P H)(h0:∀f,H.ground f=none):∀k,dJ P ⟨evFn P H k,cS P H k⟩
 | 0=>⟨fun g args A v A' h=>by simp[evFn]at h,fun l args A v A' h=>by simp[cS]at h,hP.name⟩
 |k+1=>⟨fun g args A v A' h=>B73 hP (fun f v hf=>by rw[h0]at hf;simp at hf) (Bm6 hP h0 k) h,fun l args A v A' h=>A88 hP (Bm6 hP h0 k) h,hP.name⟩
theorem Bm7{P:Program}{H:Hints}(hP:fK P H)(g:FuncId)(v:V)(hg:H.ground g=some v)(A:AS):oS P g [] A v A:=by
 obtain⟨sg,k,hk⟩:=hP.ground g v hg
 have hP0:fK P { ak:=H.ak }:=⟨hP.mixed,fun g fn body h1 h2=>by rw[<- hP.code g fn body h1 h2];exact A35 (P:=P) (H:={ ak:=H.ak }) (H':=H) rfl g body,hP.name,fun g v h=>by simp at h⟩
 have hk:=hk A.orc A.odr
 simp only[Option.map_eq_some_iff]at hk
 obtain⟨⟨v1,A1⟩,h1,h2⟩:=hk
 simp only[Prod.mk.injEq]at h2
 obtain⟨rfl,h3,h4⟩:=h2
 obtain⟨hfn,jC⟩:=(Bm6 hP0 (fun _=>rfl) k).call _ _ _ _ _ h1
 refine⟨hfn,?_⟩
 intro m0 base W ρ w args' cs hI eR hL
 have hI0:Inv P w.heap.size w ⟨fun _=>none,fun _=>0,fun _=>none,fun _=>none,fun _=>none⟩ ⟨[],[],[],[],A.orc,A.odr⟩ w :=
  { os:=rfl,tape:=rfl,output:=rfl,size:=Nat.le_refl _,old:=fun _ _=>rfl,blk:=fun b x d h=>by simp at h,inj:=fun b1 b2 x d1 d2 k1 k2 h=>by simp at h
    fam:=fun b k f β x h=>by simp at h,own:=fun b k f β _ h=>by simp at h,map:=fun r x h=>by simp at h,dX:=fun r1 r2 x h=>by simp at h
    it:=fun r x h=>by simp at h,dY:=fun r1 r2 x h=>by simp at h,lp:=fun r x h=>by simp at h,dZ:=fun r1 r2 x h=>by simp at h }
 have qw:VRs ⟨fun _=>none,fun _=>0,fun _=>none,fun _=>none,fun _=>none⟩ [] args'.toList:=by rw[eR.dI];exact .nil _
 obtain⟨ρ',v',w',fr,q1,q2,q3,q4,q5,q6⟩:=jC m0 w.heap.size w _ w args' cs hI0 qw (hL.of rfl rfl)
 have hI':Inv P base W ρ A w':=hI.world q1.inv.os q1.inv.tape q1.inv.output q1.fu.size (fun i hi=>q1.inv.old i (by have:=hI.size;omega)) (fun x hx=>q1.inv.old x (hI.ik hx))
 have hv:VR ρ v1 v':=by
  cases v1<;>simp[V.flat]at sg
  . rw[q2.dR];exact .bool _
  . rw[q2.bD];exact .int _ _
  . obtain⟨s,e1,e2⟩:=q2.fg;rw[e1,e2];exact .str _
 exact⟨ρ,v',w',fr,⟨.refl ρ,hI',⟨q1.fu.size,fun i hi _=>q1.inv.old i hi⟩,.refl _ _,.refl _ _ _⟩,hv,q3.of h3.symm h4.symm,q4,q5,q6⟩
theorem BM2{P:Program}{H:Hints}(hP:fK P H):∀k,dJ P ⟨evFn P H k,cS P H k⟩
 | 0=>⟨fun g args A v A' h=>by simp[evFn]at h,fun l args A v A' h=>by simp[cS]at h,hP.name⟩
 |k+1=>⟨fun g args A v A' h=>B73 hP (fun f v hf A=>Bm7 hP f v hf A) (BM2 hP k) h,fun l args A v A' h=>A88 hP (BM2 hP k) h,hP.name⟩
theorem A37{P:Program}{H:Hints}(hP:fK P H){f:FuncId}{args:List V}{args':Array Value}{base:Nat}{w:World}{ρ:Rho}{A:AS}{Q:V->AS->Prop}
 (hI:Inv P base w ρ A w) (eR:VRs ρ args args'.toList) (hA:A.odr=0) (hev:∀orc,∃k v A',evFn P H k f args { A with orc:=orc }=some (v,A')/\Q v A'):
 Go.Calls P f args' w fun e w'=>∃v' v A' ρ',e=.returned v'/\VR ρ' v v'/\Q v A'/\Adv P base w ρ A w ρ' A' w':=by
 intro cs
 let m0:=lone (Frame.enter P f args' .normal) cs w
 obtain⟨k,v,A',h1,h2⟩:=hev (kB P m0)
 have hI':Inv P base w ρ { A with orc:=kB P m0 } w:=hI.abs (fun _ _ _ q=>q) (fun i k f β q r s=>hI.own i k f β q r s) (fun _ _ _ q=>q) (fun _ _ q=>q) (fun _ _ q=>q)
 have hL:Live P m0 { A with orc:=kB P m0 } m0:=⟨rfl,by show Path P m0 A.odr m0;rw[hA];exact .refl⟩
 obtain⟨ρ',v',w',fr,q1,q2,q3,q4,q5,q6⟩:=((BM2 hP k).call f args _ v A' h1).2 m0 base w ρ w args' cs hI' eR hL
 exact⟨.returned v',w',fr,⟨v',v,A',ρ',rfl,q2,h2,⟨q1.le,q1.inv,q1.fu,⟨q1.fa.ln,q1.fa.gS,q1.fa.blk,q1.fa.maps⟩,⟨q1.new.b,q1.new.m,q1.new.has⟩⟩⟩,q3.path.steps,q4,q5⟩
end Go.Sv
namespace Go.Sv
open Go
inductive Sh where
 |bool
 |int (k:IntKind)
 |str
 |sl (e:Sh) (sz:Nat)
 |arr (n:Nat) (e:Sh) (sz:Nat)
 |struct (fs:List (Sh×Nat×Nat)) (total:Nat)
 deriving Inhabited
inductive Dat where
 |bool (b:Bool)
 |int (n:Int)
 |str (s:List UInt8)
 |nil
 |sl (l:List Dat)
 |agg (l:List Dat)
 deriving Inhabited
def jq:Nat->List (Sh×Nat×Nat)->Option Nat
 |a,[]=>some a
 |a,(_,o,z)::r=>if o=a then jq (a+z) r else none
def sh(P:Program):Nat->TypeId->Option Sh
 | 0,_=>none
 |d+1,t =>
  match P.underlying t with
  |some .bool=>some .bool
  |some (.int k)=>some (.int k)
  |some .string=>some .str
  |some (.slice e)=>match sh P d e,szT P e with
   |some s,some (n+1)=>some (.sl s (n+1))
   | _,_=>none
  |some (.array n e)=>match sh P d e,szT P e,szT P t with
   |some s,some (k+1),some z=>if z=n*(k+1)then some (.arr n s (k+1))else none
   | _,_,_=>none
  |some (.struct fs)=>match (fs.toList.mapM fun f=>match sh P d f.type,szT P f.type with | some s,some z=>some (s,f.offset,z) | _,_=>none),szT P t with
   |some l,some z=>if jq 0 l=some z then some (.struct l z)else none
   | _,_=>none
  | _=>none
inductive eS(A:AS):Sh->Dat->List V->Prop
 |bool (b:Bool):eS A .bool (.bool b) [.bool b]
 |int (k:IntKind) (n:Int) (h:k.min<=n/\n<=k.max):eS A (.int k) (.int n) [.int k n]
 |str (s:List UInt8) (h:s.length<=maxLen):eS A .str (.str s) [.str s]
 |nil (e:Sh) (sz:Nat):eS A (.sl e sz) .nil [.ah]
 |sl {e:Sh} {sz b:Nat} {l:List Dat} {cells:List V} (hb:A.blk[b]?=some ⟨cells,.ro⟩) (hl:cells.length=l.length*sz) (hm:l.length<=maxLen)
  (h:∀(i:Nat) d,l[i]?=some d->eS A e d ((cells.drop (i*sz)).take sz)):eS A (.sl e sz) (.sl l) [.sl b 0 l.length sz]
 |arr {n sz:Nat} {e:Sh} {l:List Dat} {vs:List V} (hl:l.length=n) (hv:vs.length=n*sz) (h:∀(i:Nat) d,l[i]?=some d->eS A e d ((vs.drop (i*sz)).take sz)):eS A (.arr n e sz) (.agg l) vs
 |struct {fs:List (Sh×Nat×Nat)} {total:Nat} {l:List Dat} {vs:List V} (hl:l.length=fs.length) (hv:vs.length=total)
  (h:∀(i:Nat) f d,fs[i]?=some f->l[i]?=some d->eS A f.1 d ((vs.drop f.2.1).take f.2.2)):eS A (.struct fs total) (.agg l) vs
theorem eS.mono{A A':AS}(hg:∀(b:Nat) k,A.blk[b]?=some k->A'.blk[b]?=some k){s:Sh}{d:Dat}{vs:List V}(h:eS A s d vs):eS A' s d vs:=by
 induction h with
 |bool b=>exact .bool b
 |int k n h=>exact .int k n h
 |str s h=>exact .str s h
 |nil e sz=>exact .nil e sz
 |sl hb hl hm _ ih=>exact .sl (hg _ _ hb) hl hm ih
 |arr hl hv _ ih=>exact .arr hl hv ih
 |struct hl hv _ ih=>exact .struct hl hv ih
mutual
def Dat.eL:Dat->Nat
 |.str s=>s.length+1
 |.sl l=>eJ l+1
 |.agg l=>eJ l+1
 | _=>1
def eJ:List Dat->Nat
 |[]=>0
 |d::l=>d.eL+eJ l
end
mutual
def fL{H:Type}:DataW H->Nat
 |.lit (.string bytes)=>bytes.length+1
 |.lit _=>1
 |.nil=>1
 |.ptr d=>fL d+1
 |.slice elems spare=>bulkWs elems+bulkWs spare+1
 |.agg parts=>bulkWs parts+1
 |.iface _ d=>fL d+1
 |.map _=>1
 |.held _=>1
def bulkWs{H:Type}:List (DataW H)->Nat
 |[]=>0
 |d::r=>fL d+bulkWs r
end
structure iJ(P:Program)(W:World)(ρ:Rho)(A:AS):Prop where
 inv:Inv P W.heap.size W ρ A W
 ro:∀(b:Nat) k,A.blk[b]?=some k->k.kind=.ro
 all:∀b,b<A.blk.length->ρ.b b≠none
 maps:A.maps=[]
 its:A.its=[]
 loops:A.loops=[]
 odr:A.odr=0
def AS.empty:AS:=⟨[],[],[],[],fun _ _=>0,0⟩
def Rho.empty:Rho:=⟨fun _=>none,fun _=>0,fun _=>none,fun _=>none,fun _=>none⟩
theorem Be1(P:Program)(W:World):iJ P W .empty .empty :=
 ⟨{ os:=rfl,tape:=rfl,output:=rfl,size:=Nat.le_refl _,old:=fun _ _=>rfl,blk:=fun b x d h=>by simp[Rho.empty]at h,inj:=fun b1 b2 x d1 d2 k1 k2 h=>by simp[Rho.empty]at h
    fam:=fun b k f β x h=>by simp[Rho.empty]at h,own:=fun b k f β _ h=>by simp[AS.empty]at h,map:=fun r x h=>by simp[Rho.empty]at h,dX:=fun r1 r2 x h=>by simp[Rho.empty]at h
    it:=fun r x h=>by simp[Rho.empty]at h,dY:=fun r1 r2 x h=>by simp[Rho.empty]at h,lp:=fun r x h=>by simp[Rho.empty]at h,dZ:=fun r1 r2 x h=>by simp[Rho.empty]at h },
  fun b k h=>by simp[AS.empty]at h,fun b h=>by simp[AS.empty]at h,rfl,rfl,rfl,rfl⟩
structure Ext(ρ:Rho)(A:AS)(ρ':Rho)(A':AS):Prop where
 le:ρ.le ρ'
 grow:∀(b:Nat) k,A.blk[b]?=some k->A'.blk[b]?=some k
theorem Ext.refl(ρ:Rho)(A:AS):Ext ρ A ρ A:=⟨.refl ρ,fun _ _ h=>h⟩
theorem Ext.trans{ρ ρ1 ρ2:Rho}{A A1 A2:AS}(h:Ext ρ A ρ1 A1)(k:Ext ρ1 A1 ρ2 A2):Ext ρ A ρ2 A2:=⟨h.le.trans k.le,fun b x q=>k.grow b x (h.grow b x q)⟩
theorem iJ.row{P:Program}{W:World}{ρ:Rho}{A:AS}(h:iJ P W ρ A){x d:Nat}{c:Array Value}{el:TypeId}{fr:Nat×Nat}{vs:List V}(hx:W.heap[x]?=some (.cells c el fr))(hlen:vs.length+d<=c.size)
 (ef:∀(i:Nat) v,vs[i]?=some v->∃v',c[i+d]?=some v'/\VR ρ v v'):
 ∃ ρ',iJ P W ρ' (A.push ⟨vs,.ro⟩)/\Ext ρ A ρ' (A.push ⟨vs,.ro⟩)/\ρ'.b A.blk.length=some (x,d)/\ρ'.sz x=c.size:=by
 have hI:=h.inv
 have hbn:=hI.jn (Nat.le_refl A.blk.length)
 have hsz:∀i d',ρ.b i=some (x,d')->ρ.sz x=c.size:=by
  intro i d' q
  obtain⟨k,_,h2,_⟩:=hI.blk i x d' q
  obtain⟨c1,el1,fr1,e1,e2,_⟩:=h2.row
  rw[hx]at e1;cases e1;exact e2.symm
 have hle:ρ.le (ρ.bf A.blk.length x d c.size):=Rho.gp hbn hsz
 have bM:∀i y e,(ρ.bf A.blk.length x d c.size).b i=some (y,e)->(i=A.blk.length/\y=x/\e=d)∨(i≠A.blk.length/\ρ.b i=some (y,e)):=by
  intro i y e he
  simp only[Rho.bf]at he
  split at he
  . rename_i e';simp at he;exact .inl ⟨e',he.1.symm,he.2.symm⟩
  . rename_i e';exact .inr ⟨e',he⟩
 have hroA:∀(i:Nat) k,(A.push ⟨vs,.ro⟩).blk[i]?=some k->k.kind=.ro:=by
  intro i k hk
  rcases Aw5 hk with q |⟨_,q⟩
  . exact h.ro i k q
  . rw[q]
 refine⟨ρ.bf A.blk.length x d c.size,⟨?_,hroA,?_,h.maps,h.its,h.loops,h.odr⟩,⟨hle,fun b k q=>Ag8 q⟩,by simp[Rho.bf],by simp[Rho.bf]⟩
 . refine { os:=hI.os,tape:=hI.tape,output:=hI.output,size:=hI.size,old:=hI.old,blk:=?_,inj:=?_,fam:=?_,own:=?_,map:=?_,dX:=hI.dX,it:=?_,dY:=hI.dY,lp:=?_,dZ:=hI.dZ }
   . intro i y e he
     rcases bM i y e he with⟨rfl,rfl,rfl⟩ |⟨hne,he⟩
     . exact⟨_,Af7 A _,⟨c,el,fr,hx,by simp[Rho.bf],fun q=>absurd rfl q,hlen,fun i v hv=>let ⟨v',a,q⟩:=ef i v hv;⟨v',a,q.mono hle⟩⟩,fun q=>absurd rfl q⟩
     . obtain⟨k1,h1,h2,h3⟩:=hI.blk i y e he
       exact⟨k1,Ag8 h1,h2.mono hle he,h3⟩
   . intro b1 b2 y d1 d2 k1 k2 h1 h2 h3 h4
     exact .inr (.inl ⟨hroA _ _ h3,hroA _ _ h4⟩)
   . intro b1 k1 f β y h1 h2 h3
     rw[hroA _ _ h2]at h3;simp at h3
   . intro b1 k1 f β h1 h2 h3
     rw[hroA _ _ h2]at h3;simp at h3
   . intro r y hy
     obtain⟨_,mo,_,h1,_⟩:=hI.map r y hy
     rw[h.maps]at h1;simp at h1
   . intro r y hy
     obtain⟨_,mo,_,h1,_⟩:=hI.it r y hy
     rw[h.its]at h1;simp at h1
   . intro r y hy
     obtain⟨_,mo,_,h1,_⟩:=hI.lp r y hy
     rw[h.loops]at h1;simp at h1
 . intro b hb
   simp only[AS.push,List.length_append,List.length_singleton]at hb
   simp only[Rho.bf]
   split
   . simp
   . exact h.all b (by omega)
theorem Af9{α β:Type}{f:α->Option β}:∀{l:List α} {r:List β},l.mapM f=some r->r.length=l.length/\∀(i:Nat) a,l[i]?=some a->∃b,r[i]?=some b/\f a=some b
 |[],r,h=>by simp at h;subst h;exact⟨rfl,fun i a q=>by simp at q⟩
 |x::l,r,h=>by
  rw[List.mapM_cons]at h
  cases hx:f x with
  |none=>simp[hx]at h
  |some y =>
   cases hl:l.mapM f with
   |none=>simp[hx,hl]at h
   |some ys =>
    simp[hx,hl]at h;subst h
    obtain⟨h1,h2⟩:=Af9 hl
    refine⟨by simp[h1],fun i a q=>?_⟩
    cases i with
    |zero=>simp at q;subst q;exact⟨y,rfl,hx⟩
    |succ i=>simp at q;obtain⟨b,e1,e2⟩:=h2 i a q;exact⟨b,by simpa using e1,e2⟩
theorem Aq2{α:Type}{sz:Nat}:∀(vss:List (List α)),(∀vs∈vss,vs.length=sz)->vss.flatten.length=vss.length*sz/\∀(i:Nat) vs,vss[i]?=some vs->(vss.flatten.drop (i*sz)).take sz=vs
 |[],_=>⟨by simp,fun i vs h=>by simp at h⟩
 |v::vss,h=>by
  obtain⟨h1,h2⟩:=Aq2 vss (fun vs hv=>h vs (by simp[hv]))
  have hv:=h v (by simp)
  refine⟨by simp only[List.flatten_cons,List.length_append,h1,List.length_cons,hv,Nat.add_mul];omega,fun i vs hi=>?_⟩
  cases i with
  |zero=>simp at hi;subst hi;simp[<- hv]
  |succ i =>
   simp at hi
   have:=h2 i vs hi
   rw[List.flatten_cons,show(i+1)*sz=v.length+i*sz by rw[hv,Nat.add_mul];omega,<- List.drop_drop,List.drop_left]
   exact this
theorem Bm8{α:Type}:∀(zs:List Nat) (a:Nat) (cs:List α),cs.length=a+zs.sum->((List.range zs.length).map fun i=>(cs.drop (a+(zs.take i).sum)).take (zs.getD i 0)).flatten=cs.drop a
 |[],a,cs,h=>by simp at h ⊢;omega
 |z::zs,a,cs,h=>by
  have ih:=Bm8 zs (a+z) cs (by simp at h;omega)
  rw[List.length_cons,List.range_succ_eq_map]
  simp only[List.map_cons,List.map_map,List.flatten_cons,List.take_zero,List.sum_nil,Nat.add_zero,List.getD_cons_zero]
  have:(List.map ((fun i=>List.take ((z::zs).getD i 0) (List.drop (a+(List.take i (z::zs)).sum) cs)) ∘ Nat.succ) (List.range zs.length)) =
   (List.range zs.length).map fun i=>(cs.drop (a+z+(zs.take i).sum)).take (zs.getD i 0):=by
   apply List.map_congr_left
   intro i _
   simp[Nat.add_assoc]
  rw[this,ih]
  rw[show List.drop (a+z) cs=List.drop z (List.drop a cs) by rw[List.drop_drop],List.take_append_drop]
theorem Ax7{α:Type}:∀(vss:List (List α)) (i:Nat) (vs:List α),vss[i]?=some vs->(vss.flatten.drop ((vss.take i).map List.length).sum).take vs.length=vs
 |[],i,vs,h=>by simp at h
 |v::vss,i,vs,h=>by
  cases i with
  |zero=>simp at h;subst h;simp
  |succ i =>
   simp at h
   have:=Ax7 vss i vs h
   simp only[List.flatten_cons,List.take_succ_cons,List.map_cons,List.sum_cons]
   rw[<- List.drop_drop,List.drop_left]
   exact this
theorem VRs.flatten{ρ:Rho}:∀{vss:List (List V)} {css:List (List Value)},vss.length=css.length->(∀(i:Nat) vs cs,vss[i]?=some vs->css[i]?=some cs->VRs ρ vs cs)->VRs ρ vss.flatten css.flatten
 |[],[],_,_=>.nil _
 |[],c::css,h,_=>by simp at h
 |v::vss,[],h,_=>by simp at h
 |v::vss,c::css,h,hh=>by
  simp only[List.flatten_cons]
  exact(hh 0 v c rfl rfl).append (VRs.flatten (by simpa using h) (fun i vs cs a b=>hh (i+1) vs cs (by simpa using a) (by simpa using b)))
theorem AM8{w:World}{x o n:Nat}{sp:Option Nat}{cs:List Value}(h:w.cells? 0 ⟨x,o,sp⟩ (n+1)=some cs):sp=none/\cs.length=n+1/\∃c el fr,w.heap[x]?=some (.cells c el fr)/\o+(n+1)<=c.size /\
 ∀(i:Nat) v,cs[i]?=some v->c[o+i]?=some v:=by
 unfold World.cells? at h
 rw[if_pos (Nat.zero_le _)]at h
 obtain⟨h1,h2⟩:=Af9 h
 simp at h1
 obtain⟨b0,q1,q2⟩:=h2 0 0 (by simp)
 have q2':w.cell? ⟨x,o,sp⟩=some b0:=by simpa[Addr.add] using q2
 have hsp:sp=none/\∃c el fr,w.heap[x]?=some (.cells c el fr):=by
  unfold World.cell? at q2'
  split at q2'
  . rename_i c el fr hx
    cases sp with
    |none=>exact⟨rfl,c,el,fr,hx⟩
    |some y=>simp at q2'
  . simp at q2'
 obtain⟨rfl,c,el,fr,hx⟩:=hsp
 have ef:∀i,w.cell? ((⟨x,o,none⟩:Addr).add i)=c[o+i]?:=by
  intro i;rw[Addr.add_lit];exact Ag6 hx
 refine⟨rfl,h1,c,el,fr,hx,?_,fun i v hv=>?_⟩
 . obtain⟨b1,q3,q4⟩:=h2 n n (by simp)
   rw[ef]at q4
   have:=(Array.getElem?_eq_some_iff.1 q4).1
   omega
 . have hi:i<n+1:=by have:=(LG.1 hv).1;omega
   obtain⟨b1,q3,q4⟩:=h2 i i (by simp[hi])
   rw[hv]at q3;cases q3
   rw[ef]at q4;exact q4
def fp(W:World):Prop:=∃(x:Nat) (c:Array Value) (el:TypeId) (fr:Nat×Nat),W.heap[x]?=some (.cells c el fr)
structure Item(H:Type) where
 t:TypeId
 s:Sh
 cs:List Value
 d:DataW H
section
variable {H:Type} {enc:TypeId×Value->H} {P:Program} {W:World}
def iy(enc:TypeId×Value->H)(P:Program)(W:World)(fuel:Nat):Prop :=
 ∀(t:TypeId) (cs:List Value) (d:DataW H) (ps:List MemPlace) (df:Nat) (s:Sh),DataW.trod enc P W 0 (fun _=>true) true fuel t cs=some (d,ps)->sh P df t=some s ->
  (∀v∈cs,∀a n c,v=.slice (some a) n c->fp W)->∀ ρ A,iJ P W ρ A->∃ ρ' A' vs dat,Ext ρ A ρ' A'/\iJ P W ρ' A'/\VRs ρ' vs cs/\eS A' s dat vs/\dat.eL<=fL d
theorem At0{fuel:Nat}(ih:iy enc P W fuel):∀(items:List (Item H)),(∀it∈items,(∃ps df,DataW.trod enc P W 0 (fun _=>true) true fuel it.t it.cs=some (it.d,ps)/\sh P df it.t=some it.s) /\
 (∀v∈it.cs,∀a n c,v=.slice (some a) n c->fp W))->∀ ρ A,iJ P W ρ A ->
 ∃(ρ':Rho) (A':AS) (vss:List (List V)) (dats:List Dat),Ext ρ A ρ' A'/\iJ P W ρ' A'/\vss.length=items.length/\dats.length=items.length /\
  (∀(i:Nat) it,items[i]?=some it->∃vs dat,vss[i]?=some vs/\dats[i]?=some dat/\VRs ρ' vs it.cs/\eS A' it.s dat vs)/\eJ dats<=bulkWs (items.map (·.d))
 |[],_,ρ,A,hA=>⟨ρ,A,[],[],.refl ρ A,hA,rfl,rfl,fun i it h=>by simp at h,by simp[eJ,bulkWs]⟩
 |it::items,h,ρ,A,hA=>by
  obtain⟨⟨ps,df,h1,h2⟩,h3⟩:=h it (by simp)
  obtain⟨ρ1,A1,vs,dat,q1,q2,q3,q4,q5⟩:=ih it.t it.cs it.d ps df it.s h1 h2 h3 ρ A hA
  obtain⟨ρ2,A2,vss,dats,r1,r2,r3,r4,r5,r6⟩:=At0 ih items (fun x hx=>h x (by simp[hx])) ρ1 A1 q2
  refine⟨ρ2,A2,vs::vss,dat::dats,q1.trans r1,r2,by simp[r3],by simp[r4],fun i x hx=>?_,?_⟩
  . cases i with
    |zero=>simp at hx;subst hx;exact⟨vs,dat,rfl,rfl,q3.mono r1.le,q4.mono r1.grow⟩
    |succ i=>simp at hx;obtain⟨vs',dat',e1,e2,e3⟩:=r5 i x hx;exact⟨vs',dat',by simpa using e1,by simpa using e2,e3⟩
  . simp only[eJ,List.map_cons,bulkWs];omega
end
end Go.Sv
namespace Go.Sv
open Go
section
variable {H:Type} {enc:TypeId×Value->H} {P:Program} {W:World}
theorem Ah7{t:TypeId}{n:Nat}(h:szT P t=some n):P.cellsOf t=n:=by
 unfold szT at h
 simp[Program.cellsOf,h]
theorem Bm9{α:Type}(n S:Nat)(cs:List α)(h:cs.length=n*S):((List.range n).map fun i=>(cs.drop (i*S)).take S).flatten=cs:=by
 have:=Bm8 (List.replicate n S) 0 cs (by simp[h])
 simp only[List.length_replicate,Nat.zero_add,List.drop_zero]at this
 refine Eq.trans ?_ this
 congr 1
 apply List.map_congr_left
 intro i hi
 simp at hi
 have h1:((List.replicate n S).take i).sum=i*S:=by
  rw[List.take_replicate,Nat.min_eq_left (by omega)];simp
 have h2:(List.replicate n S).getD i 0=S:=by simp[List.getD,hi]
 rw[h1,h2]
theorem AH9:∀(l:List (Sh×Nat×Nat)) (a z:Nat),jq a l=some z->z=a+(l.map (·.2.2)).sum/\∀(i:Nat) f,l[i]?=some f->f.2.1=a+((l.map (·.2.2)).take i).sum
 |[],a,z,h=>by simp[jq]at h;exact⟨by simp[h],fun i f q=>by simp at q⟩
 | (s,o,y)::l,a,z,h=>by
  simp only[jq]at h
  split at h
  . rename_i ho
    obtain⟨h1,h2⟩:=AH9 l (a+y) z h
    refine⟨by simp;omega,fun i f q=>?_⟩
    cases i with
    |zero=>simp at q;subst q;simp[ho]
    |succ i=>simp at q;have:=h2 i f q;simp;omega
  . simp at h
theorem A38{fuel df:Nat}(ih:iy enc P W fuel){e:TypeId}{se:Sh}{n:Nat}(hse:sh P df e=some se){a:Addr}{len cap:Nat}(hlc:len<=cap)(kJ:cap<=maxLen)(dx:fp W){d:DataW H}{ps:List MemPlace}
 (h:(((List.range len).mapM fun i=>(W.cells? 0 (a.add (i*(n+1))) (n+1)).bind (DataW.trod enc P W 0 (fun _=>true) true fuel e)).bind fun elems =>
  (if (true:Bool)=true then(List.range (cap-len)).mapM fun j=>(W.cells? 0 (a.add ((len+j)*(n+1))) (n+1)).bind (DataW.trod enc P W 0 (fun _=>true) true fuel e)else some []).map fun rest =>
   (DataW.slice (elems.map (·.1)) (rest.map (·.1)),MemPlace.row a ((elems.length+rest.length)*(n+1))++(elems++rest).flatMap (·.2)))=some (d,ps)) {ρ:Rho} {A:AS} (hA:iJ P W ρ A):
 ∃ ρ' A' vs dat,Ext ρ A ρ' A'/\iJ P W ρ' A'/\VRs ρ' vs [.slice (some a) len cap]/\eS A' (.sl se (n+1)) dat vs/\dat.eL<=fL d:=by
 simp only[if_true]at h
 cases h1:(List.range len).mapM fun i=>(W.cells? 0 (a.add (i*(n+1))) (n+1)).bind (DataW.trod enc P W 0 (fun _=>true) true fuel e)with
 |none=>rw[h1]at h;simp at h
 |some elems =>
  rw[h1]at h
  simp only[Option.bind_some]at h
  cases h2:(List.range (cap-len)).mapM fun j=>(W.cells? 0 (a.add ((len+j)*(n+1))) (n+1)).bind (DataW.trod enc P W 0 (fun _=>true) true fuel e)with
  |none=>rw[h2]at h;simp at h
  |some rest =>
   rw[h2]at h
   simp only[Option.map_some,Option.some.injEq,Prod.mk.injEq]at h
   obtain⟨rfl,_⟩:=h
   obtain⟨g1,g2⟩:=Af9 h1
   obtain⟨g3,g4⟩:=Af9 h2
   simp at g1 g3
   have hat:∀i,i<cap->∃cs x,W.cells? 0 (a.add (i*(n+1))) (n+1)=some cs/\DataW.trod enc P W 0 (fun _=>true) true fuel e cs=some x/\(i<len->elems[i]?=some x):=by
    intro i hi
    by_cases hil:i<len
    . obtain⟨x,e1,e2⟩:=g2 i i (by simp[hil])
      cases hc:W.cells? 0 (a.add (i*(n+1))) (n+1)with
      |none=>rw[hc]at e2;simp at e2
      |some cs=>rw[hc]at e2;exact⟨cs,x,rfl,e2,fun _=>e1⟩
    . obtain⟨x,e1,e2⟩:=g4 (i-len) (i-len) (List.getElem?_range (by omega))
      rw[show len+(i-len)=i by omega]at e2
      cases hc:W.cells? 0 (a.add (i*(n+1))) (n+1)with
      |none=>rw[hc]at e2;simp at e2
      |some cs=>rw[hc]at e2;exact⟨cs,x,rfl,e2,fun q=>absurd q hil⟩
   rcases Nat.eq_zero_or_pos cap with hc0 |hc0
   ·
    subst hc0
    have hl0:len=0:=by omega
    subst hl0
    obtain⟨x,c,el,fr,hx⟩:=dx
    obtain⟨ρ',q1,q2,q3,q4⟩:=hA.row (d:=0) (vs:=[]) hx (by simp) (fun i v hv=>by simp at hv)
    refine⟨ρ',_,[.sl A.blk.length 0 0 (n+1)],.sl [],q2,q1,.cons (.slz _ _ a q3) (.nil _),?_,by simp[Dat.eL,eJ,fL]⟩
    exact eS.sl (l:=[]) (cells:=[]) (Af7 A _) (by simp) (Nat.zero_le _) (fun i d hd=>by simp at hd)
   ·
    obtain⟨bx,bo,bs⟩:=a
    obtain⟨cs0,x0,e1,_,_⟩:=hat 0 hc0
    have e1':W.cells? 0 ⟨bx,bo,bs⟩ (n+1)=some cs0:=by simpa[Addr.add] using e1
    obtain⟨rfl,_,c,el,fr,hx,_,_⟩:=AM8 e1'
    have ef:∀i,i<cap->∃cs x,cs.length=n+1/\DataW.trod enc P W 0 (fun _=>true) true fuel e cs=some x/\(i<len->elems[i]?=some x)/\bo+i*(n+1)+(n+1)<=c.size/\∀(j:Nat) v,cs[j]?=some v->c[bo+i*(n+1)+j]?=some v:=by
     intro i hi
     obtain⟨cs,x,e1,e2,e3⟩:=hat i hi
     rw[Addr.add_lit]at e1
     obtain⟨_,q1,c',el',fr',q2,q3,q4⟩:=AM8 e1
     rw[hx]at q2;cases q2
     exact⟨cs,x,q1,e2,e3,q3,q4⟩
    have kx:bo+cap*(n+1)<=c.size:=by
     obtain⟨cs,x,_,_,_,q,_⟩:=ef (cap-1) (by omega)
     have:(cap-1)*(n+1)+(n+1)=cap*(n+1):=by rw[<- Nat.succ_mul];congr 1;omega
     omega
    have hch:∃css:List (List Value),css.length=len/\∀(i:Nat) cs,css[i]?=some cs->cs.length=n+1/\(∃x,elems[i]?=some x/\DataW.trod enc P W 0 (fun _=>true) true fuel e cs=some x)/\∀(j:Nat) v,cs[j]?=some v->c[bo+i*(n+1)+j]?=some v:=by
     have key:∀m,m<=len->∃css:List (List Value),css.length=m/\∀(i:Nat) cs,css[i]?=some cs->cs.length=n+1/\(∃x,elems[i]?=some x/\DataW.trod enc P W 0 (fun _=>true) true fuel e cs=some x)/\∀(j:Nat) v,cs[j]?=some v->c[bo+i*(n+1)+j]?=some v:=by
      intro m
      induction m with
      |zero=>intro _;exact⟨[],rfl,fun i cs hi=>by simp at hi⟩
      |succ m ihm =>
       intro hm
       obtain⟨css,r1,r2⟩:=ihm (by omega)
       obtain⟨cs,x,q1,q2,q3,_,q5⟩:=ef m (by omega)
       refine⟨css++[cs],by simp[r1],fun i cs' hi=>?_⟩
       by_cases him:i<m
       . rw[List.getElem?_append_left (by omega)]at hi;exact r2 i cs' hi
       . rw[List.getElem?_append_right (by omega)]at hi
         have hi':i=m:=by
          have:=(LG.1 hi).1
          simp at this;omega
         subst hi'
         simp[r1]at hi;subst hi
         exact⟨q1,⟨x,q3 (by omega),q2⟩,q5⟩
     exact key len (Nat.le_refl _)
    obtain⟨css,r1,r2⟩:=hch
    have tA:∃items:List (Item H),items.length=len/\∀(i:Nat) it,items[i]?=some it->∃cs x,css[i]?=some cs/\elems[i]?=some x/\it=⟨e,se,cs,x.1⟩:=by
     refine⟨(css.zip elems).map fun p=>⟨e,se,p.1,p.2.1⟩,by simp[r1,g1],fun i it hi=>?_⟩
     simp only[List.getElem?_map]at hi
     cases hz:(css.zip elems)[i]? with
     |none=>simp[hz]at hi
     |some p =>
      simp[hz]at hi
      obtain⟨p1,p2⟩:=p
      rw[List.getElem?_zip_eq_some]at hz
      exact⟨p1,p2,hz.1,hz.2,hi.symm⟩
    obtain⟨items,hil,gz⟩:=tA
    have lu:fp W:=⟨bx,c,el,fr,hx⟩
    obtain⟨ρ1,A1,vss,dats,s1,s2,s3,s4,s5,s6⟩:=At0 ih items (fun it hit=>by
     obtain⟨i,hi⟩:=List.mem_iff_getElem?.1 hit
     obtain⟨cs,x,q1,q2,rfl⟩:=gz i it hi
     obtain⟨_,⟨x',q3,q4⟩,_⟩:=r2 i cs q1
     rw[q2]at q3;cases q3
     exact⟨⟨x.2,df,q4,hse⟩,fun _ _ _ _ _ _=>lu⟩) ρ A hA
    have mr:∀vs∈vss,vs.length=n+1:=by
     intro vs hvs
     obtain⟨i,hi⟩:=List.mem_iff_getElem?.1 hvs
     have jd:i<items.length:=by rw[<- s3];exact(LG.1 hi).1
     obtain⟨vs',dat,q1,q2,q3,q4⟩:=s5 i _ (LH jd)
     rw[hi]at q1;cases q1
     obtain⟨cs,x,q5,q6,q7⟩:=gz i _ (LH jd)
     rw[q7]at q3
     rw[q3.len];exact(r2 i cs q5).1
    obtain⟨f1,f2⟩:=Aq2 vss mr
    have hvl:vss.length=len:=by rw[s3,hil]
    obtain⟨ρ2,t1,t2,t3,t4⟩:=s2.row (x:=bx) (d:=bo) (c:=c) (el:=el) (fr:=fr) (vs:=vss.flatten) hx (by
     rw[f1,hvl]
     have:=Nat.mul_le_mul_right (n+1) hlc
     omega) (fun i v hv=>by
     have hi:i<len*(n+1):=by have:=(LG.1 hv).1;rw[f1,hvl]at this;exact this
     have hq:i/(n+1)<len:=by rw[Nat.div_lt_iff_lt_mul (by omega)];exact hi
     have jd:i/(n+1)<items.length:=by rw[hil];exact hq
     obtain⟨vs,dat,q1,q2,q3,q4⟩:=s5 _ _ (LH jd)
     obtain⟨cs,x,q5,q6,q7⟩:=gz _ _ (LH jd)
     rw[q7]at q3
     have hv2:=f2 _ vs q1
     have tB:i%(n+1)<n+1:=Nat.mod_lt _ (by omega)
     have bM:vs[i%(n+1)]?=some v:=by
      rw[<- hv2,List.getElem?_take,if_pos tB,List.getElem?_drop,<- hv]
      congr 1
      have:=Nat.div_add_mod i (n+1)
      rw[Nat.mul_comm];exact this
     obtain⟨v',q8,q9⟩:=q3.getElem? bM
     refine⟨v',?_,q9⟩
     have:=(r2 _ cs q5).2.2 _ v' q8
     rw[<- this]
     congr 1
     have:=Nat.div_add_mod i (n+1)
     rw[Nat.mul_comm]at this
     omega)
    have hdl:dats.length=len:=by rw[s4,hil]
    refine⟨ρ2,_,[.sl A1.blk.length 0 len (n+1)],.sl dats,s1.trans t2,t1,.cons ?_ (.nil _),?_,?_⟩
    . have:=VR.sl (ρ:=ρ2) (b:=A1.blk.length) (o:=0) (n:=len) (sz:=n+1) (x:=bx) (d:=bo) (cap:=cap) t3 hlc (by rw[t4];omega)
      simpa using this
    . have:=eS.sl (A:=A1.push ⟨vss.flatten,.ro⟩) (e:=se) (sz:=n+1) (b:=A1.blk.length) (l:=dats) (cells:=vss.flatten) (Af7 A1 _) (by rw[f1,hdl,hvl]) (by omega) (fun i d hd=>by
       have jd:i<items.length:=by rw[<- s4];exact(LG.1 hd).1
       obtain⟨vs,dat,q1,q2,q3,q4⟩:=s5 i _ (LH jd)
       rw[hd]at q2;cases q2
       obtain⟨cs,x,q5,q6,q7⟩:=gz i _ (LH jd)
       rw[q7]at q4
       rw[f2 i vs q1]
       exact q4.mono t2.grow)
      rw[hdl]at this
      exact this
    . have om:items.map (·.d)=elems.map (·.1):=by
       apply List.ext_getElem?
       intro i
       rw[List.getElem?_map,List.getElem?_map]
       cases hi:items[i]? with
       |none =>
        have:len<=i:=by rw[<- hil];exact List.getElem?_eq_none_iff.1 hi
        rw[List.getElem?_eq_none (by omega)];rfl
       |some it =>
        obtain⟨cs,x,q5,q6,q7⟩:=gz i it hi
        rw[q6,q7];rfl
      rw[om]at s6
      simp only[Dat.eL,fL]
      omega
theorem Bn0{fuel df:Nat}(ih:iy enc P W fuel){e:TypeId}{se:Sh}{n S:Nat}(hse:sh P df e=some se){cs:List Value}(hlen:cs.length=n*S){xs:List (DataW H×List MemPlace)}
 (h:((List.range n).mapM fun i=>DataW.trod enc P W 0 (fun _=>true) true fuel e ((cs.drop (i*S)).take S))=some xs) (dx:∀v∈cs,∀a n c,v=.slice (some a) n c->fp W) {ρ:Rho} {A:AS} (hA:iJ P W ρ A):
 ∃ ρ' A' vs dat,Ext ρ A ρ' A'/\iJ P W ρ' A'/\VRs ρ' vs cs/\eS A' (.arr n se S) dat vs/\dat.eL<=fL (DataW.agg (xs.map (·.1))):=by
 obtain⟨g1,g2⟩:=Af9 h
 simp at g1
 obtain⟨items,hil,gz⟩:∃items:List (Item H),items.length=n/\∀(i:Nat) it,items[i]?=some it->i<n/\∃x,xs[i]?=some x/\it=⟨e,se,(cs.drop (i*S)).take S,x.1⟩:=by
  refine⟨((List.range n).zip xs).map fun p=>⟨e,se,(cs.drop (p.1*S)).take S,p.2.1⟩,by simp[g1],fun i it hi=>?_⟩
  simp only[List.getElem?_map]at hi
  cases hz:((List.range n).zip xs)[i]? with
  |none=>simp[hz]at hi
  |some p =>
   simp[hz]at hi
   obtain⟨p1,p2⟩:=p
   rw[List.getElem?_zip_eq_some]at hz
   obtain⟨z1,z2⟩:=hz
   obtain⟨z3,z4⟩:=LG.1 z1
   simp at z3 z4;subst z4
   exact⟨z3,p2,z2,hi.symm⟩
 obtain⟨ρ1,A1,vss,dats,s1,s2,s3,s4,s5,s6⟩:=At0 ih items (fun it hit=>by
  obtain⟨i,hi⟩:=List.mem_iff_getElem?.1 hit
  obtain⟨q0,x,q1,rfl⟩:=gz i it hi
  obtain⟨x',q2,q3⟩:=g2 i i (List.getElem?_range q0)
  rw[q1]at q2;cases q2
  exact⟨⟨x.2,df,q3,hse⟩,fun v hv a m c e1=>dx v (List.mem_of_mem_drop (List.mem_of_mem_take hv)) a m c e1⟩) ρ A hA
 have hvl:vss.length=n:=by rw[s3,hil]
 have hdl:dats.length=n:=by rw[s4,hil]
 have jB:∀(i:Nat) vs,vss[i]?=some vs->i<n/\VRs ρ1 vs ((cs.drop (i*S)).take S)/\∀dat,dats[i]?=some dat->eS A1 se dat vs:=by
  intro i vs hvs
  have jd:i<items.length:=by rw[<- s3];exact(LG.1 hvs).1
  obtain⟨vs',dat,q1,q2,q3,q4⟩:=s5 i _ (LH jd)
  rw[hvs]at q1;cases q1
  obtain⟨q0,x,q5,q6⟩:=gz i _ (LH jd)
  rw[q6]at q3 q4
  exact⟨q0,q3,fun d hd=>by rw[hd]at q2;cases q2;exact q4⟩
 have mr:∀vs∈vss,vs.length=S:=by
  intro vs hvs
  obtain⟨i,hi⟩:=List.mem_iff_getElem?.1 hvs
  obtain⟨q0,q1,_⟩:=jB i vs hi
  rw[q1.len,List.length_take,List.length_drop,hlen]
  have h1:(i+1)*S<=n*S:=Nat.mul_le_mul_right S q0
  rw[Nat.add_mul]at h1
  omega
 obtain⟨f1,f2⟩:=Aq2 vss mr
 refine⟨ρ1,A1,vss.flatten,.agg dats,s1,s2,?_,?_,?_⟩
 . have hc:=Bm9 n S cs hlen
   rw[<- hc]
   refine VRs.flatten (by simp[hvl]) (fun i vs cs' h1 h2=>?_)
   obtain⟨q0,q1,_⟩:=jB i vs h1
   rw[List.getElem?_map,List.getElem?_range q0]at h2
   simp at h2;subst h2
   exact q1
 . refine .arr hdl (by rw[f1,hvl]) (fun i d hd=>?_)
   have hiv:i<vss.length:=by rw[hvl,<- hdl];exact(LG.1 hd).1
   have hv:=LH hiv
   rw[f2 i _ hv]
   exact(jB i _ hv).2.2 d hd
 . have om:items.map (·.d)=xs.map (·.1):=by
    apply List.ext_getElem?
    intro i
    rw[List.getElem?_map,List.getElem?_map]
    cases hi:items[i]? with
    |none =>
     have:n<=i:=by rw[<- hil];exact List.getElem?_eq_none_iff.1 hi
     rw[List.getElem?_eq_none (by omega)];rfl
    |some it =>
     obtain⟨_,x,q5,q6⟩:=gz i it hi
     rw[q5,q6];rfl
   rw[om]at s6
   simp only[Dat.eL,fL]
   omega
theorem AX6{fuel df:Nat}(ih:iy enc P W fuel){fs:Array Field}{l:List (Sh×Nat×Nat)}{z:Nat}
 (hl:(fs.toList.mapM fun f=>match sh P df f.type,szT P f.type with |some s,some z=>some (s,f.offset,z) | _,_=>none)=some l) (hz:jq 0 l=some z) {cs:List Value} (hlen:cs.length=z) {xs:List (DataW H×List MemPlace)}
 (h:(fs.toList.mapM fun f=>DataW.trod enc P W 0 (fun _=>true) true fuel f.type ((cs.drop f.offset).take (P.cellsOf f.type)))=some xs) (dx:∀v∈cs,∀a n c,v=.slice (some a) n c->fp W) {ρ:Rho} {A:AS} (hA:iJ P W ρ A):
 ∃ ρ' A' vs dat,Ext ρ A ρ' A'/\iJ P W ρ' A'/\VRs ρ' vs cs/\eS A' (.struct l z) dat vs/\dat.eL<=fL (DataW.agg (xs.map (·.1))):=by
 obtain⟨g1,g2⟩:=Af9 h
 obtain⟨k1,k2⟩:=Af9 hl
 obtain⟨c1,c2⟩:=AH9 l 0 z hz
 simp only[Nat.zero_add]at c1 c2
 have hll:l.length=fs.toList.length:=k1
 have hxl:xs.length=l.length:=by rw[g1,k1]
 have qx:∀(i:Nat) f,fs.toList[i]?=some f->∃s y x,l[i]?=some (s,f.offset,y)/\sh P df f.type=some s/\P.cellsOf f.type=y/\xs[i]?=some x/\DataW.trod enc P W 0 (fun _=>true) true fuel f.type ((cs.drop f.offset).take y)=some x:=by
  intro i f hf
  obtain⟨x,q1,q2⟩:=g2 i f hf
  obtain⟨y,q3,q4⟩:=k2 i f hf
  split at q4
  . rename_i s1 z1 e1 e2
    simp at q4;subst q4
    have:=Ah7 e2
    rw[this]at q2
    exact⟨s1,z1,x,q3,e1,this,q1,q2⟩
  . simp at q4
 obtain⟨items,hil,gz⟩:∃items:List (Item H),items.length=l.length/\∀(i:Nat) it,items[i]?=some it->∃f s y x,fs.toList[i]?=some f/\l[i]?=some (s,f.offset,y)/\sh P df f.type=some s/\xs[i]?=some x /\
  DataW.trod enc P W 0 (fun _=>true) true fuel f.type ((cs.drop f.offset).take y)=some x/\it=⟨f.type,s,(cs.drop f.offset).take y,x.1⟩:=by
  have key:∀m,m<=l.length->∃items:List (Item H),items.length=m/\∀(i:Nat) it,items[i]?=some it->∃f s y x,fs.toList[i]?=some f/\l[i]?=some (s,f.offset,y)/\sh P df f.type=some s/\xs[i]?=some x /\
   DataW.trod enc P W 0 (fun _=>true) true fuel f.type ((cs.drop f.offset).take y)=some x/\it=⟨f.type,s,(cs.drop f.offset).take y,x.1⟩:=by
   intro m
   induction m with
   |zero=>intro _;exact⟨[],rfl,fun i it hi=>by simp at hi⟩
   |succ m ihm =>
    intro hm
    obtain⟨items,r1,r2⟩:=ihm (by omega)
    have hf:=LH (show m<fs.toList.length by omega)
    generalize fs.toList[m]=f at hf
    obtain⟨s,y,x,q1,q2,q3,q4,q5⟩:=qx m f hf
    refine⟨items++[⟨f.type,s,(cs.drop f.offset).take y,x.1⟩],by simp[r1],fun i it hi=>?_⟩
    by_cases him:i<m
    . rw[List.getElem?_append_left (by omega)]at hi;exact r2 i it hi
    . rw[List.getElem?_append_right (by omega)]at hi
      have hi':i=m:=by
       have:=(LG.1 hi).1
       simp at this;omega
      subst hi'
      simp[r1]at hi;subst hi
      exact⟨f,s,y,x,hf,q1,q2,q4,q5,rfl⟩
  exact key l.length (Nat.le_refl _)
 obtain⟨ρ1,A1,vss,dats,s1,s2,s3,s4,s5,s6⟩:=At0 ih items (fun it hit=>by
  obtain⟨i,hi⟩:=List.mem_iff_getElem?.1 hit
  obtain⟨f,s,y,x,q1,q2,q3,q4,q5,rfl⟩:=gz i it hi
  exact⟨⟨x.2,df,q5,q3⟩,fun v hv a m c e1=>dx v (List.mem_of_mem_drop (List.mem_of_mem_take hv)) a m c e1⟩) ρ A hA
 have hvl:vss.length=l.length:=by rw[s3,hil]
 have hdl:dats.length=l.length:=by rw[s4,hil]
 let zs:List Nat:=l.map (·.2.2)
 have hzl:zs.length=l.length:=by simp[zs]
 have pr:cs.length=0+zs.sum:=by rw[hlen,c1];simp[zs]
 have jB:∀(i:Nat) vs,vss[i]?=some vs->∃s o y,l[i]?=some (s,o,y)/\zs.getD i 0=y/\o=(zs.take i).sum/\VRs ρ1 vs ((cs.drop o).take y)/\vs.length=y/\∀dat,dats[i]?=some dat->eS A1 s dat vs:=by
  intro i vs hvs
  have jd:i<items.length:=by rw[<- s3];exact(LG.1 hvs).1
  obtain⟨vs',dat,q1,q2,q3,q4⟩:=s5 i _ (LH jd)
  rw[hvs]at q1;cases q1
  obtain⟨f,s,y,x,r1,r2,r3,r4,r5,r6⟩:=gz i _ (LH jd)
  rw[r6]at q3 q4
  have ho:f.offset=(zs.take i).sum:=c2 i _ r2
  have hzi:zs[i]?=some y:=by simp[zs,r2]
  have bM:zs.getD i 0=y:=by simp[List.getD,hzi]
  have si:(zs.take i).sum+y<=zs.sum:=by
   have h1:zs.sum=(zs.take i).sum+(zs.drop i).sum:=by rw[<- List.sum_append,List.take_append_drop]
   have h2:zs.drop i=y::zs.drop (i+1):=by
    have hlt:=(LG.1 hzi)
    obtain⟨h3,h4⟩:=hlt
    rw[List.drop_eq_getElem_cons h3,h4]
   rw[h1,h2];simp
  refine⟨s,f.offset,y,r2,bM,ho,q3,?_,fun d hd=>by rw[hd]at q2;cases q2;exact q4⟩
  rw[q3.len,List.length_take,List.length_drop,pr,ho]
  omega
 refine⟨ρ1,A1,vss.flatten,.agg dats,s1,s2,?_,?_,?_⟩
 . have hp:=Bm8 zs 0 cs pr
   simp only[Nat.zero_add,List.drop_zero]at hp
   rw[<- hp]
   refine VRs.flatten (by simp[hvl,hzl]) (fun i vs cs' h1 h2=>?_)
   obtain⟨s,o,y,q1,q2,q3,q4,_⟩:=jB i vs h1
   have hi:i<zs.length:=by rw[hzl,<- hvl];exact(LG.1 h1).1
   rw[List.getElem?_map,List.getElem?_range hi]at h2
   simp only[Option.map_some,Option.some.injEq]at h2
   rw[<- h2,q2,<- q3]
   exact q4
 . have sj:vss.flatten.length=zs.sum:=by
    rw[List.length_flatten]
    congr 1
    apply List.ext_getElem?
    intro i
    rw[List.getElem?_map]
    cases hi:vss[i]? with
    |none =>
     have:l.length<=i:=by rw[<- hvl];exact List.getElem?_eq_none_iff.1 hi
     rw[List.getElem?_eq_none (by omega)];rfl
    |some vs =>
     obtain⟨s,o,y,q1,q2,q3,q4,q5,_⟩:=jB i vs hi
     simp[zs,q1,q5]
   refine .struct hdl (by rw[sj,c1]) (fun i f d hf hd=>?_)
   have hiv:i<vss.length:=by rw[hvl];exact(LG.1 hf).1
   have hv:=LH hiv
   obtain⟨s,o,y,q1,q2,q3,q4,q5,q6⟩:=jB i _ hv
   rw[hf]at q1;cases q1
   have hfl:=Ax7 vss i _ hv
   have si:((vss.take i).map List.length).sum=(zs.take i).sum:=by
    congr 1
    rw[List.map_take]
    congr 1
    apply List.ext_getElem?
    intro j
    rw[List.getElem?_map]
    cases hj:vss[j]? with
    |none =>
     have:l.length<=j:=by rw[<- hvl];exact List.getElem?_eq_none_iff.1 hj
     rw[List.getElem?_eq_none (by omega)];rfl
    |some vs =>
     obtain⟨s',o',y',p1,p2,p3,p4,p5,_⟩:=jB j vs hj
     simp[zs,p1,p5]
   rw[si,q5,<- q3]at hfl
   rw[hfl]
   exact q6 d hd
 . have om:items.map (·.d)=xs.map (·.1):=by
    apply List.ext_getElem?
    intro i
    rw[List.getElem?_map,List.getElem?_map]
    cases hi:items[i]? with
    |none =>
     have:l.length<=i:=by rw[<- hil];exact List.getElem?_eq_none_iff.1 hi
     rw[List.getElem?_eq_none (by omega)];rfl
    |some it =>
     obtain⟨f,s,y,x,r1,r2,r3,r4,r5,r6⟩:=gz i it hi
     rw[r4,r6];rfl
   rw[om]at s6
   simp only[Dat.eL,fL]
   omega
set_option maxHeartbeats 1000000 in
theorem AX7:∀fuel,iy enc P W fuel
 | 0=>fun t cs d ps df s h=>by simp[DataW.trod]at h
 |fuel+1=>by
  have ih:=AX7 fuel
  intro t cs d ps df s h hs dx ρ A hA
  cases df with
  |zero=>simp[sh]at hs
  |succ df =>
   simp only[sh]at hs
   unfold DataW.trod at h
   split at hs
   ·
    rename_i hu
    simp at hs;subst hs
    rw[hu]at h
    split at h<;>simp_all
    obtain⟨rfl,_⟩:=h
    exact⟨ρ,A,.refl ρ A,hA,[.bool _],.cons (.bool _) (.nil _),.bool _,.bool _,by simp[Dat.eL,fL]⟩
   ·
    rename_i k hu
    simp at hs;subst hs
    rw[hu]at h
    split at h<;>simp_all
    rename_i k' n _
    obtain⟨⟨rfl,hw⟩,rfl,_⟩:=h
    refine⟨ρ,A,.refl ρ A,hA,[.int _ n],.cons (.int _ _) (.nil _),.int n,.int _ n ?_,by simp[Dat.eL,fL]⟩
    simpa[Lit.wf] using hw
   ·
    rename_i hu
    simp at hs;subst hs
    rw[hu]at h
    split at h<;>simp_all
    rename_i b
    obtain⟨hw,rfl,_⟩:=h
    have hl:b.data.toList.length=b.size:=by rw[Array.length_toList];rfl
    exact⟨ρ,A,.refl ρ A,hA,[.str b.data.toList],.cons (.str b) (.nil _),.str b.data.toList,.str _ (by rw[hl];exact hw),by simp[Dat.eL,fL]⟩
   ·
    rename_i e hu
    split at hs
    . rename_i se n hse hsz
      simp at hs;subst hs
      rw[hu]at h
      simp only at h
      have hce:=Ah7 hsz
      split at h<;>try (simp_all;done)
      . simp_all
        obtain⟨rfl,_⟩:=h
        exact⟨ρ,A,.refl ρ A,hA,[.ah],.cons .ah (.nil _),.nil,.nil _ _,by simp[Dat.eL,fL]⟩
      . rename_i e' a len cap heq
        have hee:e'=e:=by simpa using heq.symm
        subst hee
        rw[hce]at h
        split at h
        case isFalse=>simp at h
        rename_i jx
        exact A38 ih hse jx.2.1 jx.2.2 (dx _ (by simp) a len cap rfl) h hA
    . simp at hs
   ·
    rename_i n e hu
    split at hs
    . rename_i se k z hse hsz hst
      split at hs
      case isFalse=>simp at hs
      rename_i hz
      simp at hs;subst hs
      rw[hu]at h
      have hce:=Ah7 hsz
      have hct:=Ah7 hst
      split at h<;>try (simp_all;done)
      rename_i cs' n' e' heq
      have hee:n'=n/\e'=e:=by simpa[eq_comm] using heq
      obtain⟨rfl,rfl⟩:=hee
      split at h
      case isFalse=>simp at h
      rename_i hlen
      rw[hce]at h
      simp only[Option.map_eq_some_iff]at h
      obtain⟨xs,h1,h2⟩:=h
      simp at h2
      obtain⟨rfl,_⟩:=h2
      exact Bn0 ih hse (by rw[hlen,hct,hz]) h1 dx hA
    . simp at hs
   ·
    rename_i fs hu
    split at hs
    . rename_i l z hl hst
      split at hs
      case isFalse=>simp at hs
      rename_i hz
      simp at hs;subst hs
      rw[hu]at h
      have hct:=Ah7 hst
      split at h<;>try (simp_all;done)
      rename_i cs' fs' heq
      have hee:fs'=fs:=by simpa[eq_comm] using heq
      subst hee
      split at h
      case isFalse=>simp at h
      rename_i hlen
      simp only[Option.map_eq_some_iff]at h
      obtain⟨xs,h1,h2⟩:=h
      simp at h2
      obtain⟨rfl,_⟩:=h2
      exact AX6 ih hl hz (by rw[hlen,hct]) h1 dx hA
    . simp at hs
   . simp at hs
end
end Go.Sv
namespace Go.Sv
open Go Go.ChangeShapes
theorem Ak6{α β:Type}{f g:α->Option β}:∀{l:List α} {r:List β},l.mapM f=some r->(∀a∈l,∀b∈r,f a=some b->g a=some b)->l.mapM g=some r
 |[],r,h,_=>by simpa using h
 |x::l,r,h,hg=>by
  rw[List.mapM_cons]at h ⊢
  cases hx:f x with
  |none=>simp[hx]at h
  |some y =>
   cases hl:l.mapM f with
   |none=>simp[hx,hl]at h
   |some ys =>
    simp[hx,hl]at h;subst h
    have h1:=hg x (by simp) y (by simp) hx
    have h2:=Ak6 hl (fun a ha b hb=>hg a (by simp[ha]) b (by simp[hb]))
    simp[h1,h2]
section
variable {H:Type} {enc:TypeId×Value->H} {P:Program} {W W':World}
theorem Be2(hold:∀i,i<W.heap.size->W'.heap[i]?=W.heap[i]?){a:Addr}{v:Value}(h:W.cell? a=some v):W'.cell? a=some v:=by
 unfold World.cell? at h ⊢
 split at h
 . rename_i c el fr hx
   have:=(Array.getElem?_eq_some_iff.1 hx).1
   rw[hold _ this,hx]
   exact h
 . simp at h
theorem AI0(hold:∀i,i<W.heap.size->W'.heap[i]?=W.heap[i]?){a:Addr}{n:Nat}{cs:List Value}(h:W.cells? 0 a n=some cs):W'.cells? 0 a n=some cs:=by
 unfold World.cells? at h ⊢
 rw[if_pos (Nat.zero_le _)]at h ⊢
 exact Ak6 h (fun i _ b _ hb=>Be2 hold hb)
theorem BM3{a:Addr}{n i:Nat}(h:i<n):∃p∈MemPlace.row a n,p.block=a.block:=⟨.cell a.block (a.off+i),List.mem_map.2 ⟨i,by simpa using h,rfl⟩,rfl⟩
set_option maxHeartbeats 1000000 in
theorem AM9(hold:∀i,i<W.heap.size->W'.heap[i]?=W.heap[i]?)(sp:Nat->Bool):∀(fuel:Nat) (t:TypeId) (cs:List Value) (d:DataW H) (ps:List MemPlace) (df:Nat) (s:Sh),
 DataW.trod enc P W 0 (fun _=>true) true fuel t cs=some (d,ps)->sh P df t=some s->(∀p∈ps,sp p.block=true)->DataW.trod enc P W' 0 sp true fuel t cs=some (d,ps)
 | 0,t,cs,d,ps,df,s,h,_,_=>by simp[DataW.trod]at h
 |fuel+1,t,cs,d,ps,df,s,h,hs,hp=>by
  have ih:=AM9 hold sp fuel
  cases df with
  |zero=>simp[sh]at hs
  |succ df =>
   simp only[sh]at hs
   unfold DataW.trod at h ⊢
   split at hs
   . rename_i hu
     rw[hu]at h ⊢
     split at h<;>simp_all
   . rename_i k hu
     rw[hu]at h ⊢
     split at h<;>simp_all
   . rename_i hu
     rw[hu]at h ⊢
     split at h<;>simp_all
   . rename_i e hu
     split at hs
     . rename_i se n hse hsz
       rw[hu]at h ⊢
       simp only at h
       have hce:=Ah7 hsz
       split at h<;>try (simp_all;done)
       rename_i e' a len cap heq
       have hee:e'=e:=by simpa using heq.symm
       subst hee
       split at h
       case isFalse=>simp at h
       rename_i jx
       simp only[if_pos jx]
       simp only[if_true]at h
       simp only[Option.bind_eq_some_iff,Option.map_eq_some_iff,Prod.mk.injEq]at h ⊢
       obtain⟨elems,h1,rest,h2,rfl,rfl⟩:=h
       have sk:∀x∈elems++rest,∀p∈x.2,sp p.block=true:=fun x hx p hpx=>hp p (by
        simp only[List.mem_append,List.mem_flatMap]
        exact .inr ⟨x,by simpa using hx,hpx⟩)
       refine⟨elems,Ak6 h1 (fun i _ b hb hbb=>?_),rest,?_,rfl,rfl⟩
       . simp only[Option.bind_eq_some_iff]at hbb ⊢
         obtain⟨cs1,q1,q2⟩:=hbb
         exact⟨cs1,AI0 hold q1,ih _ _ _ _ df se q2 hse (sk b (by simp[hb]))⟩
       . have hl:=(Af9 h2).1
         simp at hl
         by_cases hc:cap-len=0
         . have:rest=[]:=List.length_eq_zero_iff.1 (by omega)
           subst this
           split
           . rw[hc];rfl
           . rfl
         . have hel:=(Af9 h1).1
           simp at hel
           have tC:sp a.block=true:=by
            obtain⟨p,q1,q2⟩:=BM3 (a:=a) (n:=(elems.length+rest.length)*P.cellsOf e') (i:=0) (by rw[hce];exact Nat.mul_pos (by omega) (by omega))
            rw[<- q2]
            exact hp p (by simp only[List.mem_append];exact .inl q1)
           rw[if_pos tC]
           exact Ak6 h2 (fun i _ b hb hbb=>by
            simp only[Option.bind_eq_some_iff]at hbb ⊢
            obtain⟨cs1,q1,q2⟩:=hbb
            exact⟨cs1,AI0 hold q1,ih _ _ _ _ df se q2 hse (sk b (by simp[hb]))⟩)
     . simp at hs
   . rename_i n e hu
     split at hs
     . rename_i se k z hse hsz hst
       rw[hu]at h ⊢
       split at h<;>try (simp_all;done)
       rename_i cs' n' e' heq
       have hee:n'=n/\e'=e:=by simpa[eq_comm] using heq
       obtain⟨rfl,rfl⟩:=hee
       split at h
       case isFalse=>simp at h
       rename_i hlen
       rw[if_pos hlen]
       simp only[Option.map_eq_some_iff,Prod.mk.injEq]at h ⊢
       obtain⟨xs,h1,rfl,rfl⟩:=h
       exact⟨xs,Ak6 h1 (fun i _ b hb hbb=>ih _ _ _ _ df se hbb hse (fun p hpx=>hp p (by simp only[List.mem_flatMap];exact⟨b,hb,hpx⟩))),rfl,rfl⟩
     . simp at hs
   . rename_i fs hu
     split at hs
     . rename_i l z hl hst
       rw[hu]at h ⊢
       split at h<;>try (simp_all;done)
       rename_i cs' fs' heq
       have hee:fs'=fs:=by simpa[eq_comm] using heq
       subst hee
       split at h
       case isFalse=>simp at h
       rename_i hlen
       rw[if_pos hlen]
       simp only[Option.map_eq_some_iff,Prod.mk.injEq]at h ⊢
       obtain⟨xs,h1,rfl,rfl⟩:=h
       refine⟨xs,Ak6 h1 (fun f hf b hb hbb=>?_),rfl,rfl⟩
       obtain⟨i,hi⟩:=List.mem_iff_getElem?.1 hf
       obtain⟨y,_,q4⟩:=(Af9 hl).2 i f hi
       split at q4
       . rename_i s1 z1 e1 e2
         exact ih _ _ _ _ df s1 hbb e1 (fun p hpx=>hp p (by simp only[List.mem_flatMap];exact⟨b,hb,hpx⟩))
       . simp at q4
     . simp at hs
   . simp at hs
theorem Aq3(hold:∀i,i<W.heap.size->W'.heap[i]?=W.heap[i]?)(sp:Nat->Bool):∀(ts:List TypeId) (vs:List Value) (ds:List (DataW H)) (ps:List MemPlace),DataW.TrodAll enc P W 0 (fun _=>true) true ts vs ds ps ->
 (∀t∈ts,∃df s,sh P df t=some s)->(∀p∈ps,sp p.block=true)->DataW.TrodAll enc P W' 0 sp true ts vs ds ps
 |[],[],[],ps,h,_,_=>h
 |t::ts,v::vs,d::ds,ps,h,hs,hp=>by
  obtain⟨p,q,⟨fuel,h1⟩,h2,rfl⟩:=h
  obtain⟨df,s,h3⟩:=hs t (by simp)
  exact⟨p,q,⟨fuel,AM9 hold sp fuel t _ d p df s h1 h3 (fun x hx=>hp x (by simp[hx]))⟩,Aq3 hold sp ts vs ds q h2 (fun t ht=>hs t (by simp[ht])) (fun x hx=>hp x (by simp[hx])),rfl⟩
 |[],[],_::_,_,h,_,_=>h.elim
 |[],_::_,_,_,h,_,_=>h.elim
 | _::_,[],_,_,h,_,_=>h.elim
 | _::_,_::_,[],_,h,_,_=>h.elim
theorem A39(hold:∀i,i<W.heap.size->W'.heap[i]?=W.heap[i]?)(hos:W'.os=W.os)(nh:W'.output=W.output)(may:MemPlace->Prop):W.keptBut W' may:=by
 refine⟨hos,nh,fun i hi=>?_⟩
 rw[hold i hi]
 obtain⟨o,ho⟩:∃o,W.heap[i]?=some o:=⟨_,Array.getElem?_eq_getElem hi⟩
 rw[ho]
 cases o<;>simp
theorem Bn1{f:Func}{s:ChangeSpec}{apart fresh handsOn again:Bool}{args:Array Value}{ds gs:List (DataW H)}{before:List MemPlace}{tb:TypeId}
 (hW:DataW.Whole enc P f.params.toList s.vars apart W args.toList ds gs before) (hv:s.vars=[]) (hs:∀t∈f.params.toList,∃df s,sh P df t=some s)
 (hr:(s.fn H (ds++gs)).results=[.lit (.bool true)]) (ha:(s.fn H (ds++gs)).args=ds) (hvv:(s.fn H (ds++gs)).vars=[])
 (hrt:f.resultTypes=#[tb]) (hub:P.underlying tb=some .bool)
 (hold:∀i,i<W.heap.size->W'.heap[i]?=W.heap[i]?) (hos:W'.os=W.os) (nh:W'.output=W.output):s.post enc P f apart fresh handsOn again W args (.bool true) W':=by
 obtain⟨p,q,h1,h2,h3,h4,h5⟩:=id hW
 have hgs:gs=[]/\q=[]:=by
  rw[hv]at h2
  cases gs with
  |nil=>exact⟨rfl,h2⟩
  |cons g gs=>exact h2.elim
 obtain⟨rfl,rfl⟩:=hgs
 simp only[List.append_nil]at h3
 subst h3
 have hbt:∀(w:World) (b:Nat) (sp:Nat->Bool) (hd:Bool),DataW.TrodAll enc P w b sp hd f.resultTypes.toList ((Value.bool true).resultList f.resultTypes.size) [.lit (.bool true)] []:=by
  intro w b sp hd
  rw[hrt]
  refine⟨[],[],⟨1,?_⟩,rfl,rfl⟩
  simp[DataW.trod,hub,Value.cells]
 have sm:∀x∈before,(fun b=>decide (b<W.heap.size)) x.block=true:=fun x hx=>by simpa using hW.lt x hx
 refine⟨ds,[],before,[],before,[],hW,by rw[hr];exact hbt _ _ _ _,by rw[ha];exact Aq3 hold _ _ _ _ _ h1 hs sm,by rw[hv,hvv];rfl,A39 hold hos nh _,fun _=>?_⟩
 refine⟨fun j t r e1 e2=>?_,_,[],before,⟨before,[],trodAll_append (Aq3 hold (fun _=>true) _ _ _ _ h1 hs (fun _ _=>rfl)) (hbt W' 0 (fun _=>true) true),by rw[hv];rfl,by simp,?_,h5⟩,fun p hp _=>hp⟩
 . rw[hrt]at e1 e2
   cases j with
   |zero =>
    simp at e1;subst e1
    have:r=.bool true:=by simpa[Value.resultList] using e2.symm
    subst this
    simp[Value.okWide,hub,Cell.okWide,Cell.ok]
   |succ j=>simp at e1
 . intro b off hp
   have:=h4 b off hp
   unfold World.frozen? at this ⊢
   have hlt:=hW.lt _ hp
   rw[hold b hlt]
   exact this
end
end Go.Sv
namespace Go.Sv
open Go Go.ChangeShapes
def Sh.isAgg:Sh->Bool
 |.arr .. | .struct ..=>true
 | _=>false
def lF(A:AS)(s:Sh)(d:Dat)(v:V):Prop:=if s.isAgg=true then ∃vs,v=.agg vs/\eS A s d vs else eS A s d [v]
theorem lF.mono{A A':AS}(hg:∀(b:Nat) k,A.blk[b]?=some k->A'.blk[b]?=some k){s:Sh}{d:Dat}{v:V}(h:lF A s d v):lF A' s d v:=by
 unfold lF at h ⊢
 split at h
 . rename_i hs;rw[if_pos hs];obtain⟨vs,h1,h2⟩:=h;exact⟨vs,h1,h2.mono hg⟩
 . rename_i hs;rw[if_neg hs];exact h.mono hg
inductive ArgsOk(A:AS):List Sh->List Dat->List V->Prop
 |nil:ArgsOk A [] [] []
 |cons {s:Sh} {d:Dat} {v:V} {ss:List Sh} {ds:List Dat} {vs:List V} (h:lF A s d v) (hs:ArgsOk A ss ds vs):ArgsOk A (s::ss) (d::ds) (v::vs)
theorem ArgsOk.mono{A A':AS}(hg:∀(b:Nat) k,A.blk[b]?=some k->A'.blk[b]?=some k){ss:List Sh}{ds:List Dat}{vs:List V}(h:ArgsOk A ss ds vs):ArgsOk A' ss ds vs:=by
 induction h with
 |nil=>exact .nil
 |cons h _ ih=>exact .cons (h.mono hg) ih
section
variable {H:Type} {enc:TypeId×Value->H} {P:Program} {W:World}
theorem AK1{r:Reach}{base:Nat}{a:Addr}{e:TypeId}{n:Nat}(h:W.has P r base a e n):fp W:=by
 obtain⟨_,_,row,cells,h1,_⟩:=h
 unfold World.shape? at h1
 split at h1
 . rename_i c el fr hx;exact⟨_,c,el,fr,hx⟩
 . simp at h1
theorem Al7{base:Nat}{t:TypeId}{a:Addr}{n c:Nat}(h:Cell.okWide P W .any base t (.slice (some a) n c)):fp W:=by
 unfold Cell.okWide at h
 split at h<;>try (simp_all;done)
 unfold Cell.ok at h
 split at h<;>try (simp_all;done)
 exact AK1 h.2.2
theorem B74{d:Nat}{t:TypeId}{s:Sh}(h:sh P d t=some s):s.isAgg=true↔((∃n e,P.underlying t=some (.array n e))∨∃fs,P.underlying t=some (.struct fs)):=by
 cases d with
 |zero=>simp[sh]at h
 |succ d =>
  simp only[sh]at h
  split at h
  . rename_i hu;simp at h;subst h;simp[Sh.isAgg,hu]
  . rename_i hu;simp at h;subst h;simp[Sh.isAgg,hu]
  . rename_i hu;simp at h;subst h;simp[Sh.isAgg,hu]
  . rename_i e hu
    split at h
    . simp at h;subst h;simp[Sh.isAgg,hu]
    . simp at h
  . rename_i n e hu
    split at h
    . split at h
      . simp at h;subst h;simp[Sh.isAgg,hu]
      . simp at h
    . simp at h
  . rename_i fs hu
    split at h
    . split at h
      . simp at h;subst h;simp[Sh.isAgg,hu]
      . simp at h
    . simp at h
  . simp at h
theorem AN0:∀(ts:List TypeId) (vs:List Value) (ds:List (DataW H)) (ps:List MemPlace) (df:Nat) (ss:List Sh),DataW.TrodAll enc P W 0 (fun _=>true) true ts vs ds ps->ts.mapM (sh P df)=some ss ->
 (∀(base:Nat),(∀(j:Nat) t v,ts[j]?=some t->vs[j]?=some v->Value.okWide P W .any base t v)->∀ ρ A,iJ P W ρ A ->
 ∃(ρ':Rho) (A':AS) (avs:List V) (dats:List Dat),Ext ρ A ρ' A'/\iJ P W ρ' A'/\VRs ρ' avs vs/\ArgsOk A' ss dats avs/\eJ dats<=bulkWs ds)
 |[],[],[],ps,df,ss,h,hss=>fun base hval ρ A hA=>by
  simp at hss;subst hss
  exact⟨ρ,A,[],[],.refl ρ A,hA,.nil _,.nil,by simp[eJ,bulkWs]⟩
 |t::ts,v::vs,d::ds,ps,df,ss,h,hss=>fun base hval ρ A hA=>by
  obtain⟨p,q,⟨fuel,h1⟩,h2,rfl⟩:=h
  rw[List.mapM_cons]at hss
  cases hs1:sh P df t with
  |none=>simp[hs1]at hss
  |some s =>
   cases hs2:ts.mapM (sh P df)with
   |none=>simp[hs1,hs2]at hss
   |some ss' =>
    simp[hs1,hs2]at hss;subst hss
    have hok:=hval 0 t v rfl rfl
    have qy:=B74 hs1
    have dx:∀x∈v.cells.toList,∀a n c,x=.slice (some a) n c->fp W:=by
     intro x hx a n c hxs
     subst hxs
     unfold Value.okWide at hok
     split at hok
     . obtain⟨cs,rfl,_,ts',_,_,h5⟩:=hok
       obtain⟨i,hi⟩:=List.mem_iff_getElem?.1 hx
       obtain⟨u,_,h6⟩:=h5 i _ (by simpa[Value.cells] using hi)
       exact Al7 h6
     . obtain⟨cs,rfl,_,ts',_,_,h5⟩:=hok
       obtain⟨i,hi⟩:=List.mem_iff_getElem?.1 hx
       obtain⟨u,_,h6⟩:=h5 i _ (by simpa[Value.cells] using hi)
       exact Al7 h6
     . have hv:v=.slice (some a) n c:=by
        unfold Value.cells at hx
        split at hx
        . rename_i cs
          exfalso
          unfold Cell.okWide at hok
          split at hok<;>try (simp_all;done)
          unfold Cell.ok at hok
          split at hok<;>simp_all
        . have hx':Value.slice (some a) n c=v:=by simpa using hx
          exact hx'.symm
       rw[hv]at hok
       exact Al7 hok
    obtain⟨ρ1,A1,av,dat,q1,q2,q3,q4,q5⟩:=AX7 fuel t v.cells.toList d p df s h1 hs1 dx ρ A hA
    obtain⟨ρ2,A2,avs,dats,r1,r2,r3,r4,r5⟩:=AN0 ts vs ds q df ss' h2 hs2 base (fun j t' v' e1 e2=>hval (j+1) t' v' (by simpa using e1) (by simpa using e2)) ρ1 A1 q2
    have sn:∃x,VR ρ1 x v/\lF A1 s dat x:=by
     by_cases hs:s.isAgg=true
     . refine⟨.agg av,?_,by unfold lF;rw[if_pos hs];exact⟨av,rfl,q4⟩⟩
       have hv:∃cs,v=.agg cs:=by
        unfold Value.okWide at hok
        rcases qy.1 hs with⟨n,e,hu⟩ |⟨fs,hu⟩
        . rw[hu]at hok;obtain⟨cs,h5,_⟩:=hok;exact⟨cs,h5⟩
        . rw[hu]at hok;obtain⟨cs,h5,_⟩:=hok;exact⟨cs,h5⟩
       obtain⟨cs,rfl⟩:=hv
       exact .jm q3
     . have hna:∀cs,v≠.agg cs:=by
        intro cs hv
        subst hv
        unfold Value.okWide at hok
        split at hok
        . rename_i hu;exact hs (qy.2 (.inr ⟨_,hu⟩))
        . rename_i hu;exact hs (qy.2 (.inl ⟨_,_,hu⟩))
        . unfold Cell.okWide at hok
          split at hok<;>try (simp_all;done)
          unfold Cell.ok at hok
          split at hok<;>simp_all
       have hc:v.cells.toList=[v]:=by
        unfold Value.cells
        split
        . rename_i cs;exact absurd rfl (hna cs)
        . rfl
       rw[hc]at q3
       have hlen:=q3.len
       match av,hlen,q3,q4 with
       |[x],_,q3,q4=>exact⟨x,q3.head,by unfold lF;rw[if_neg hs];exact q4⟩
    obtain⟨x,hx1,hx2⟩:=sn
    exact⟨ρ2,A2,x::avs,dat::dats,q1.trans r1,r2,.cons (hx1.mono r1.le) r3,.cons (hx2.mono r1.grow) r4,by simp only[eJ,bulkWs];omega⟩
 |[],[],_::_,_,_,_,h,_=>h.elim
 |[],_::_,_,_,_,_,h,_=>h.elim
 | _::_,[],_,_,_,_,h,_=>h.elim
 | _::_,_::_,[],_,_,_,h,_=>h.elim
end
structure Start(A:AS):Prop where
 ro:∀(b:Nat) k,A.blk[b]?=some k->k.kind=.ro
 maps:A.maps=[]
 its:A.its=[]
 loops:A.loops=[]
 odr:A.odr=0
theorem AX8{P:Program}{Hn:Hints}(hP:fK P Hn){f:FuncId}{fn:Func}{spec:ChangeSpec}{df N:Nat}{ss:List Sh}{tb:TypeId}(hss:fn.params.toList.mapM (sh P df)=some ss)(hv:spec.vars=[])
 (sq:∀(H:Type) (ds:List (DataW H)),ds.length=fn.params.toList.length->(spec.fn H ds).results=[.lit (.bool true)]/\(spec.fn H ds).args=ds/\(spec.fn H ds).vars=[])
 (hrt:fn.resultTypes=#[tb]) (hub:P.underlying tb=some .bool)
 (hev:∀(A:AS) (avs:List V) (dats:List Dat),Start A->ArgsOk A ss dats avs->eJ dats<=N->∃k A',evFn P Hn k f avs A=some (.bool true,A'))
 {H:Type} {enc:TypeId×Value->H} {W:World} {base:Nat} {args:Array Value} {ds gs:List (DataW H)} {before:List MemPlace} {apart fresh handsOn again:Bool}
 (hval:∀(j:Nat) t v,fn.params[j]?=some t->args[j]?=some v->Value.okWide P W .any base t v) (hW:DataW.Whole enc P fn.params.toList spec.vars apart W args.toList ds gs before) (tK:bulkWs ds<=N):
 Go.Calls P f args W fun e W'=>∃v,e=.returned v/\spec.post enc P fn apart fresh handsOn again W args v W':=by
 obtain⟨p,q,h1,h2,h3,h4,h5⟩:=id hW
 have hgs:gs=[]:=by
  rw[hv]at h2
  cases gs with
  |nil=>rfl
  |cons g gs=>exact h2.elim
 obtain⟨ρ,A,avs,dats,r1,r2,r3,r4,r5⟩:=AN0 fn.params.toList args.toList ds p df ss h1 hss base (fun j t v e1 e2=>hval j t v (by simpa using e1) (by simpa using e2)) _ _ (Be1 P W)
 have hlen:ds.length=fn.params.toList.length:=by
  have key:∀(ts:List TypeId) (vs:List Value) (ds:List (DataW H)) (ps:List MemPlace),DataW.TrodAll enc P W 0 (fun _=>true) true ts vs ds ps->ds.length=ts.length:=by
   intro ts
   induction ts with
   |nil=>intro vs ds ps h;cases vs<;>cases ds<;>first | rfl | exact h.elim
   |cons t ts ih =>
    intro vs ds ps h
    cases vs with
    |nil=>exact h.elim
    |cons v vs =>
     cases ds with
     |nil=>exact h.elim
     |cons d ds=>obtain⟨_,_,_,h,_⟩:=h;simp[ih vs ds _ h]
  exact key _ _ _ _ h1
 refine(A37 hP r2.inv r3 r2.odr (Q:=fun v _=>v=.bool true) (fun orc=>?_)).mono ?_
 . have hst:Start { A with orc:=orc }:=⟨r2.ro,r2.maps,r2.its,r2.loops,r2.odr⟩
   obtain⟨k,A',h6⟩:=hev { A with orc:=orc } avs dats hst (ArgsOk.mono (A:=A) (A':={ A with orc:=orc }) (fun _ _ q=>q) r4) (by omega)
   exact⟨k,_,A',h6,rfl⟩
 . rintro e W' ⟨v',v,A',ρ',rfl,h6,rfl,h7⟩
   have:=h6.dR
   subst this
   subst hgs
   obtain⟨s1,s2,s3⟩:=sq H (ds++[]) (by simpa using hlen)
   refine⟨_,rfl,Bn1 hW hv (fun t ht=>?_) s1 (by simpa using s2) s3 hrt hub h7.inv.old h7.inv.os h7.inv.output⟩
   obtain⟨i,hi⟩:=List.mem_iff_getElem?.1 ht
   obtain⟨s,_,hs⟩:=(Af9 hss).2 i t hi
   exact⟨df,s,hs⟩
end Go.Sv
namespace Go.Sv
open Go
def Evt(p:Nat->Prop):Prop:=∃k0,∀k,k0<=k->p k
theorem Evt.of{p:Nat->Prop}(h:∀k,p k):Evt p:=⟨0,fun k _=>h k⟩
theorem Evt.imp{p q:Nat->Prop}(h:Evt p)(hi:∀k,p k->q k):Evt q:=let ⟨k0,hk⟩:=h;⟨k0,fun k q=>hi k (hk k q)⟩
theorem Evt.and{p q:Nat->Prop}(h:Evt p)(h':Evt q):Evt fun k=>p k/\q k :=
 let ⟨a,ha⟩:=h;let ⟨b,hb⟩:=h';⟨max a b,fun k q=>⟨ha k (by omega),hb k (by omega)⟩⟩
theorem Evt.oX{p q r:Nat->Prop}(h:Evt p)(h':Evt q)(hi:∀k,p k->q k->r k):Evt r:=(h.and h').imp fun k x=>hi k x.1 x.2
theorem Evt.succ{p:Nat->Prop}(h:Evt fun k=>p (k+1)):Evt p:=let ⟨k0,hk⟩:=h;⟨k0+1,fun k q=>by
 obtain⟨j,rfl⟩:∃j,k=j+1:=⟨k-1,by omega⟩
 exact hk j (by omega)⟩
theorem Evt.get{p:Nat->Prop}(h:Evt p):∃k,p k:=let ⟨k0,hk⟩:=h;⟨k0,hk k0 (Nat.le_refl _)⟩
section
variable (P:Program) (H:Hints)
abbrev Ck(k:Nat):Calls:=⟨evFn P H k,cS P H k⟩
def EvF(f:FuncId)(args:List V)(A:AS)(v:V)(A':AS):Prop:=Evt fun k=>evFn P H k f args A=some (v,A')
def EvY(l:Nat)(args:List V)(A:AS)(v:V)(A':AS):Prop:=Evt fun k=>cS P H k l args A=some (v,A')
def WC(f:FuncId)(nt:Nat)(c:Code)(e:Env)(A:AS)(Q:Ex->Env->AS->Prop):Prop :=
 ∃x e' A',Evt (fun k=>aM P H (Ck P H k) k f nt c e A=some (x,e',A'))/\Q x e' A'
def C0:Calls:=⟨fun _ _ _=>none,fun _ _ _=>none⟩
def mu(g:FuncId)(args:List V)(A:AS)(K:V->AS->Prop):Prop:=∃v A',EvF P H g args A v A'/\K v A'
def je(l:Nat)(args:List V)(A:AS)(K:V->AS->Prop):Prop:=∃v A',EvY P H l args A v A'/\K v A'
def wpOp(o:Oper)(e:Env)(A:AS)(K:V->AS->Prop):Prop :=
 if quiet o=true then match evQ P o e A with
  |some (.val v)=>K v A
  |some (.cu cells)=>K (.ptr A.blk.length 0) (A.push ⟨cells,.var⟩)
  |some (.aB cells n sz)=>K (.sl A.blk.length 0 n sz) (A.push ⟨cells,.arr A.blk.length 0⟩)
  |some .cq=>K (.map A.maps.length) (A.bQ ⟨[],0⟩)
  |none=>False
 else match o.op with
  |.call ⟨.value g,args,_⟩=>match aD e args.toList with
   |some vs=>match e.eval g with
    |some (.fn h first cap)=>mu P H h (first++vs++cap) A K
    |some (.yield l)=>je P H l vs A K
    | _=>False
   |none=>False
  | _=>match evE P C0 o e A with
   |some (v,A')=>K v A'
   |none=>False
def wpO(nt:Nat)(ops:Array Oper)(o:Oper)(e:Env)(A:AS)(K:Env->AS->Prop):Prop :=
 iL nt o=true /\
 match o.guard with
 |none=>wpOp P H o e A fun v A'=>K (bG e o v) A'
 |some (j,want)=>match (ops[j]?).bind (·.dst)with
  |none=>False
  |some d=>match e.get d with
   |.bool b=>if b=want then wpOp P H o e A fun v A'=>K (bG e o v) A' else K (bG e o (.tup [])) A
   |.tup []=>K (bG e o (.tup [])) A
   | _=>False
def wpS(nt:Nat)(ops:Array Oper):List Oper->Env->AS->(Env->AS->Prop)->Prop
 |[],e,A,K=>K e A
 |o::r,e,A,K=>wpO P H nt ops o e A fun e' A'=>wpS nt ops r e' A' K
def wpP(nt:Nat)(ops:Array Oper):fS->Env->AS->(Env->AS->Prop)->Prop
 |[],e,A,K=>K e A
 | (i,rc)::r,e,A,K=>match ops[i]? with
  |none=>False
  |some o=>wpO P H nt ops o e A fun e' A'=>recheck P ops e' A' rc=true/\wpP nt ops r e' A' K
def wpC(f:FuncId)(nt:Nat):Code->Env->AS->(Ex->Env->AS->Prop)->Prop
 |.skip,e,A,Q=>Q .normal e A
 |.label _,e,A,Q=>Q .normal e A
 |.region id ops draw,e,A,Q=>if draw=true then wpP P H nt ops (H.ak f id) e A fun e A=>Q .normal e A else wpS P H nt ops ops.toList e A fun e A=>Q .normal e A
 |.seq a b,e,A,Q=>wpC f nt a e A fun x e A=>match x with
  |.normal=>wpC f nt b e A Q
  |x=>Q x e A
 |.cond c a b,e,A,Q=>∃t,e.eval c=some (.bool t)/\(t=true->wpC f nt a e A Q)/\(t=false->wpC f nt b e A Q)
 |.block id a,e,A,Q=>wpC f nt a e A fun x e A=>Q (if x=.exit id then .normal else x) e A
 |.scope a,e,A,Q=>wpC f nt a e A Q
 |.exit id,e,A,Q=>Q (.exit id) e A
 |.ret,e,A,Q=>Q .ret e A
 |c,e,A,Q=>WC P H f nt c e A Q
variable {P H}
theorem WC.mono{f:FuncId}{nt:Nat}{c:Code}{e:Env}{A:AS}{Q Q':Ex->Env->AS->Prop}(h:WC P H f nt c e A Q)(hq:∀x e A,Q x e A->Q' x e A):WC P H f nt c e A Q' :=
 let ⟨x,e',A',h1,h2⟩:=h;⟨x,e',A',h1,hq _ _ _ h2⟩
theorem B75{C:Calls}{o:Oper}{e:Env}{A:AS}(h:∀g args ts,o.op≠.call ⟨.value g,args,ts⟩):evE P C o e A=evE P C0 o e A:=by
 obtain⟨dst,op,ty,pos,after,guard⟩:=o
 cases op
 case call c =>
  obtain⟨callee,args,ts⟩:=c
  cases callee
  case value g=>exact absurd rfl (h g args ts)
  case builtin b=>cases b<;>rfl
  all_goals rfl
 case next x s=>cases s<;>rfl
 all_goals rfl
theorem Be3{o:Oper}{e:Env}{A:AS}{K:V->AS->Prop}(h:wpOp P H o e A K):
 ∃v A',K v A'/\Evt fun k=>(if quiet o=true then(match evQ P o e A with |some q=>some (q.value A,q.state A) |none=>none)else evE P (Ck P H k) o e A)=some (v,A'):=by
 unfold wpOp at h
 split at h
 . rename_i hq
   have fin:∀q,evQ P o e A=some q->K (q.value A) (q.state A)->∃v A',K v A'/\Evt fun k=>(if quiet o=true then(match evQ P o e A with |some q=>some (q.value A,q.state A) |none=>none)else evE P (Ck P H k) o e A)=some (v,A'):=
    fun q h1 h2=>⟨_,_,h2,.of fun k=>by rw[if_pos hq,h1]⟩
   split at h
   . rename_i v h1;exact fin _ h1 h
   . rename_i c h1;exact fin _ h1 h
   . rename_i c n z h1;exact fin _ h1 h
   . rename_i h1;exact fin _ h1 h
   . exact h.elim
 . rename_i hq
   split at h
   . rename_i g args ts hop
     split at h
     . rename_i vs h1
       split at h
       . rename_i fh first cap hg
         obtain⟨v,A',h3,h4⟩:=h
         exact⟨v,A',h4,h3.imp fun k hk=>by rw[if_neg hq];unfold evE;simp only[hop,h1,ig,hg];exact hk⟩
       . rename_i l hg
         obtain⟨v,A',h3,h4⟩:=h
         exact⟨v,A',h4,h3.imp fun k hk=>by rw[if_neg hq];unfold evE;simp only[hop,h1,ig,hg];exact hk⟩
       . exact h.elim
     . exact h.elim
   . rename_i hop
     split at h
     . rename_i v A' h1
       exact⟨v,A',h,.of fun k=>by rw[if_neg hq,B75 hop];exact h1⟩
     . exact h.elim
theorem AX9{nt:Nat}{ops:Array Oper}{o:Oper}{e:Env}{A:AS}{K:Env->AS->Prop}(h:wpO P H nt ops o e A K):
 ∃e' A',K e' A'/\Evt fun k=>fF P (Ck P H k) nt ops o e A=some (e',A'):=by
 obtain⟨hd,h⟩:=h
 have run:∀{K:Env->AS->Prop},aT ops e o=some true->wpOp P H o e A (fun v A'=>K (bG e o v) A')->∃e' A',K e' A'/\Evt fun k=>fF P (Ck P H k) nt ops o e A=some (e',A'):=by
  intro K hw h
  obtain⟨v,A',h1,h2⟩:=Be3 h
  refine⟨_,A',h1,h2.imp fun k hk=>?_⟩
  unfold fF
  rw[if_pos hd,hw]
  simp only[]
  split at hk
  . rename_i hq
    rw[if_pos hq]
    cases hqq:evQ P o e A with
    |none=>rw[hqq]at hk;simp at hk
    |some q =>
     rw[hqq]at hk
     simp only[Option.some.injEq,Prod.mk.injEq]at hk ⊢
     exact⟨by rw[hk.1],hk.2⟩
  . rename_i hq
    rw[if_neg hq,hk]
 have skip:∀{K:Env->AS->Prop},aT ops e o=some false->K (bG e o (.tup [])) A->∃e' A',K e' A'/\Evt fun k=>fF P (Ck P H k) nt ops o e A=some (e',A'):=by
  intro K hw h
  refine⟨_,A,h,.of fun k=>?_⟩
  unfold fF
  rw[if_pos hd,hw]
 split at h
 . rename_i hg
   exact run (by simp[aT,hg]) h
 . rename_i j want hg
   split at h
   . exact h.elim
   . rename_i d hdd
     split at h
     . rename_i b hb
       split at h
       . rename_i hbw
         exact run (by simp[aT,hg,hdd,hb,hbw]) h
       . rename_i hbw
         exact skip (by simp[aT,hg,hdd,hb];exact hbw) h
     . rename_i hb
       exact skip (by simp[aT,hg,hdd,hb]) h
     . exact h.elim
theorem AY0{nt:Nat}{ops:Array Oper}:∀{os:List Oper} {e:Env} {A:AS} {K:Env->AS->Prop},wpS P H nt ops os e A K->∃e' A',K e' A'/\Evt fun k=>jw P (Ck P H k) nt ops os e A=some (e',A')
 |[],e,A,K,h=>⟨e,A,h,.of fun k=>rfl⟩
 |o::os,e,A,K,h=>by
  obtain⟨e1,A1,h1,h2⟩:=AX9 h
  obtain⟨e2,A2,h3,h4⟩:=AY0 h1
  exact⟨e2,A2,h3,h2.oX h4 fun k a b=>by unfold jw;rw[a];exact b⟩
theorem AY1{nt:Nat}{ops:Array Oper}:∀{pl:fS} {e:Env} {A:AS} {K:Env->AS->Prop},wpP P H nt ops pl e A K->∃e' A',K e' A'/\Evt fun k=>ij P (Ck P H k) nt ops pl e A=some (e',A')
 |[],e,A,K,h=>⟨e,A,h,.of fun k=>rfl⟩
 | (i,rc)::pl,e,A,K,h=>by
  unfold wpP at h
  split at h
  . exact h.elim
  . rename_i o ho
    obtain⟨e1,A1,⟨hrc,h1⟩,h2⟩:=AX9 h
    obtain⟨e2,A2,h3,h4⟩:=AY1 h1
    exact⟨e2,A2,h3,h2.oX h4 fun k a b=>by unfold ij;simp only[ho,a];rw[if_pos hrc];exact b⟩
theorem Ax8{f:FuncId}{nt:Nat}:∀{c:Code} {e:Env} {A:AS} {Q:Ex->Env->AS->Prop},wpC P H f nt c e A Q->WC P H f nt c e A Q:=by
 intro c
 induction c with
 |skip=>intro e A Q h;exact⟨_,_,_,.of fun k=>rfl,h⟩
 |label l=>intro e A Q h;exact⟨_,_,_,.of fun k=>rfl,h⟩
 |region id ops draw =>
  intro e A Q h
  unfold wpC at h
  split at h
  . rename_i hd
    obtain⟨e',A',h1,h2⟩:=AY1 h
    exact⟨.normal,e',A',h2.imp fun k hk=>by simp only[aM];rw[if_pos hd,hk];rfl,h1⟩
  . rename_i hd
    obtain⟨e',A',h1,h2⟩:=AY0 h
    exact⟨.normal,e',A',h2.imp fun k hk=>by simp only[aM];rw[if_neg hd,hk];rfl,h1⟩
 |seq a b iha ihb =>
  intro e A Q h
  obtain⟨x,e1,A1,h1,h2⟩:=iha h
  cases x with
  |normal =>
   obtain⟨x2,e2,A2,h3,h4⟩:=ihb h2
   exact⟨x2,e2,A2,h1.oX h3 fun k p q=>by simp only[aM,p];exact q,h4⟩
  |exit id=>exact⟨_,e1,A1,h1.imp fun k p=>by simp only[aM,p],h2⟩
  |ret=>exact⟨_,e1,A1,h1.imp fun k p=>by simp only[aM,p],h2⟩
 |cond c a b iha ihb =>
  intro e A Q h
  obtain⟨t,h1,h2,h3⟩:=h
  cases t with
  |true =>
   obtain⟨x,e1,A1,h4,h5⟩:=iha (h2 rfl)
   exact⟨x,_,A1,h4.imp fun k p=>by simp only[aM,h1,p],h5⟩
  |false =>
   obtain⟨x,e1,A1,h4,h5⟩:=ihb (h3 rfl)
   exact⟨x,_,A1,h4.imp fun k p=>by simp only[aM,h1,p],h5⟩
 |block id a ih =>
  intro e A Q h
  obtain⟨x,e1,A1,h1,h2⟩:=ih h
  exact⟨_,_,A1,h1.imp fun k p=>by simp only[aM,p];rfl,h2⟩
 |loop a ih=>intro e A Q h;exact h
 |scope a ih =>
  intro e A Q h
  obtain⟨x,e1,A1,h1,h2⟩:=ih h
  exact⟨x,e1,A1,h1.imp fun k p=>by simp only[aM];exact p,h2⟩
 |exit id=>intro e A Q h;exact⟨_,_,_,.of fun k=>rfl,h⟩
 |ret=>intro e A Q h;exact⟨_,_,_,.of fun k=>rfl,h⟩
 |rangeFunc g ps a b iha ihb=>intro e A Q h;exact h
 |goto l=>intro e A Q h;exact h
 |refuse s=>intro e A Q h;exact h
def leaves(fn:Func)(Q:V->AS->Prop):Ex->Env->AS->Prop
 |.normal,e,A | .ret,e,A=>∃vs,aW P e A fn.results.toList=some vs/\Q (single vs) A
 |.exit _,_,_=>False
theorem Co2{f:FuncId}{fn:Func}{body:Code}{args:List V}{A:AS}{Q:V->AS->Prop}(hg:H.ground f=none)(hf:P.funcs[f]?=some fn)(hb:fn.body=some body)(hl:args.length<=fn.ntmps)
 (h:wpC P H f fn.ntmps body (eD 0 args) A (leaves (P:=P) fn Q)):∃v A',EvF P H f args A v A'/\Q v A':=by
 obtain⟨x,e',A',h1,h2⟩:=Ax8 h
 cases x with
 |exit id=>exact h2.elim
 |normal =>
  obtain⟨vs,h3,h4⟩:=h2
  exact⟨_,A',(h1.imp fun k p=>show evFn P H (k+1) f args A=some (single vs,A') by
   unfold evFn;simp only[hg,ite_self,hf,hb];rw[if_pos hl,p];simp[h3]).succ,h4⟩
 |ret =>
  obtain⟨vs,h3,h4⟩:=h2
  exact⟨_,A',(h1.imp fun k p=>show evFn P H (k+1) f args A=some (single vs,A') by
   unfold evFn;simp only[hg,ite_self,hf,hb];rw[if_pos hl,p];simp[h3]).succ,h4⟩
theorem BM4{f:FuncId}{nt:Nat}{a:Code}{Q:Ex->Env->AS->Prop}(I:Nat->Env->AS->Prop)
 (dA:∀n e A,I n e A->wpC P H f nt a e A fun x e' A'=>match x with
  |.normal=>∃n',n'<n/\I n' e' A'
  |x=>Q x e' A'):∀n e A,I n e A->wpC P H f nt (.loop a) e A Q:=by
 have main:∀n e A,I n e A->∃x e' A',(∃k0,∀k,k0<=k->∀m,k0<=m->gQ (fun e A=>aM P H (Ck P H k) k f nt a e A) m e A=some (x,e',A'))/\Q x e' A':=by
  intro n
  induction n using Nat.strongRecOn with
  |ind n ih =>
   intro e A hI
   obtain⟨x,e1,A1,⟨k1,h1⟩,h2⟩:=Ax8 (dA n e A hI)
   have stop:x≠.normal->Q x e1 A1->∃x e' A',(∃k0,∀k,k0<=k->∀m,k0<=m->gQ (fun e A=>aM P H (Ck P H k) k f nt a e A) m e A=some (x,e',A'))/\Q x e' A':=by
    intro hx hq
    refine⟨x,e1,A1,⟨k1+1,fun k hk m hm=>?_⟩,hq⟩
    obtain⟨j,rfl⟩:∃j,m=j+1:=⟨m-1,by omega⟩
    unfold gQ
    rw[h1 k (by omega)]
    cases x with
    |normal=>exact absurd rfl hx
    |exit id=>rfl
    |ret=>rfl
   cases x with
   |exit id=>exact stop (by simp) h2
   |ret=>exact stop (by simp) h2
   |normal =>
    obtain⟨n',hn,hI'⟩:=h2
    obtain⟨x2,e2,A2,⟨k2,h3⟩,h4⟩:=ih n' hn e1 A1 hI'
    refine⟨x2,e2,A2,⟨max k1 k2+1,fun k hk m hm=>?_⟩,h4⟩
    obtain⟨j,rfl⟩:∃j,m=j+1:=⟨m-1,by omega⟩
    unfold gQ
    rw[h1 k (by omega)]
    exact h3 k (by omega) j (by omega)
 intro n e A hI
 show WC P H f nt (.loop a) e A Q
 obtain⟨x,e',A',⟨k0,h3⟩,h4⟩:=main n e A hI
 exact⟨x,e',A',⟨k0,fun k hk=>by simp only[aM];exact h3 k hk k hk⟩,h4⟩
end
end Go.Sv
namespace Go.Sv
open Go
inductive Kt where
 |ops (ops:Array Oper) (rest:List Oper)
 |ak (ops:Array Oper) (pl:fS)
 |rc (ops:Array Oper) (l:List Nat)
 |code (c:Code)
 |blk (id:Nat)
section
variable (P:Program) (H:Hints) (f:FuncId) (nt:Nat)
def Run:List Kt->Ex->Env->AS->(Ex->Env->AS->Prop)->Prop
 |[],x,e,A,Q=>Q x e A
 |.ops ops r::k,x,e,A,Q=>match x with
  |.normal=>wpS P H nt ops r e A fun e A=>Run k .normal e A Q
  |x=>Run k x e A Q
 |.ak ops pl::k,x,e,A,Q=>match x with
  |.normal=>wpP P H nt ops pl e A fun e A=>Run k .normal e A Q
  |x=>Run k x e A Q
 |.rc ops l::k,x,e,A,Q=>match x with
  |.normal=>recheck P ops e A l=true/\Run k .normal e A Q
  |x=>Run k x e A Q
 |.code c::k,x,e,A,Q=>match x with
  |.normal=>wpC P H f nt c e A fun x e A=>Run k x e A Q
  |x=>Run k x e A Q
 |.blk id::k,x,e,A,Q=>Run k (if x=.exit id then .normal else x) e A Q
def jF(g:FuncId)(args:List V)(dst:Option Tmp)(k:List Kt)(e:Env)(A:AS)(Q:Ex->Env->AS->Prop):Prop :=
 mu P H g args A fun v A'=>Run P H f nt k .normal (match dst with |some d=>(d,v)::e |none=>e) A' Q
variable {P H f nt}
variable {k:List Kt} {e:Env} {A:AS} {Q:Ex->Env->AS->Prop} {ops:Array Oper}
theorem BM5{x:Ex}:Run P H f nt [] x e A Q=Q x e A:=rfl
theorem Bw6:Run P H f nt (.code .skip::k) .normal e A Q=Run P H f nt k .normal e A Q:=rfl
theorem Bn2{l:Nat}:Run P H f nt (.code (.label l)::k) .normal e A Q=Run P H f nt k .normal e A Q:=rfl
theorem BM6{a b:Code}:Run P H f nt (.code (.seq a b)::k) .normal e A Q=Run P H f nt (.code a::.code b::k) .normal e A Q:=by
 show wpC P H f nt a e A _=wpC P H f nt a e A _
 congr 1
theorem Be4{id:Nat}:Run P H f nt (.code (.region id ops false)::k) .normal e A Q=Run P H f nt (.ops ops ops.toList::k) .normal e A Q:=rfl
theorem Bw7{id:Nat}:Run P H f nt (.code (.region id ops true)::k) .normal e A Q=Run P H f nt (.ak ops (H.ak f id)::k) .normal e A Q:=rfl
theorem Bn3{id:Nat}{a:Code}:Run P H f nt (.code (.block id a)::k) .normal e A Q=Run P H f nt (.code a::.blk id::k) .normal e A Q:=rfl
theorem Bn4{a:Code}:Run P H f nt (.code (.scope a)::k) .normal e A Q=Run P H f nt (.code a::k) .normal e A Q:=rfl
theorem Bw8{id:Nat}:Run P H f nt (.code (.exit id)::k) .normal e A Q=Run P H f nt k (.exit id) e A Q:=rfl
theorem BM7:Run P H f nt (.code .ret::k) .normal e A Q=Run P H f nt k .ret e A Q:=rfl
theorem At9{id:Nat}:Run P H f nt (.blk id::k) .normal e A Q=Run P H f nt k .normal e A Q:=rfl
theorem A40{id:Nat}:Run P H f nt (.blk id::k) .ret e A Q=Run P H f nt k .ret e A Q:=rfl
theorem Ar7{id id':Nat}:Run P H f nt (.blk id::k) (.exit id') e A Q=if id'=id then Run P H f nt k .normal e A Q else Run P H f nt k (.exit id') e A Q:=by
 show Run P H f nt k (if Ex.exit id'=Ex.exit id then Ex.normal else Ex.exit id') _ A Q=_
 by_cases h:id'=id<;>simp[h]
theorem AY2{c:Code}:Run P H f nt (.code c::k) .ret e A Q=Run P H f nt k .ret e A Q:=rfl
theorem AR3{c:Code}{id:Nat}:Run P H f nt (.code c::k) (.exit id) e A Q=Run P H f nt k (.exit id) e A Q:=rfl
theorem A41:Run P H f nt (.ops ops []::k) .normal e A Q=Run P H f nt k .normal e A Q:=rfl
theorem AY3:Run P H f nt (.ak ops []::k) .normal e A Q=Run P H f nt k .normal e A Q:=rfl
def aG(P:Program)(H:Hints)(f:FuncId)(nt:Nat)(q:Option QR)(dst:Option Tmp)(k:List Kt)(e:Env)(A:AS)(Q:Ex->Env->AS->Prop):Prop:=match q with
 |some (.val v)=>Run P H f nt k .normal (match dst with | some d=>(d,v)::e | none=>e) A Q
 |some (.cu cells)=>Run P H f nt k .normal (match dst with | some d=>(d,.ptr A.blk.length 0)::e | none=>e) (A.push ⟨cells,.var⟩) Q
 |some (.aB cells n sz)=>Run P H f nt k .normal (match dst with | some d=>(d,.sl A.blk.length 0 n sz)::e | none=>e) (A.push ⟨cells,.arr A.blk.length 0⟩) Q
 |some .cq=>Run P H f nt k .normal (match dst with | some d=>(d,.map A.maps.length)::e | none=>e) (A.bQ ⟨[],0⟩) Q
 |none=>False
def cQ(P:Program)(H:Hints)(f:FuncId)(nt:Nat)(x:Option (V×AS))(dst:Option Tmp)(k:List Kt)(e:Env)(Q:Ex->Env->AS->Prop):Prop:=match x with
 |some (v,A')=>Run P H f nt k .normal (match dst with | some d=>(d,v)::e | none=>e) A' Q
 |none=>False
def j0(P:Program)(H:Hints)(f:FuncId)(nt:Nat)(g:Option V)(vs:Option (List V))(dst:Option Tmp)(k:List Kt)(e:Env)(A:AS)(Q:Ex->Env->AS->Prop):Prop:=match vs with
 |some vs=>match g with
  |some (.fn h first cap)=>jF P H f nt h (first++vs++cap) dst k e A Q
  |some (.yield l)=>je P H l vs A fun v A'=>Run P H f nt k .normal (match dst with | some d=>(d,v)::e | none=>e) A' Q
  | _=>False
 |none=>False
def a0(P:Program)(H:Hints)(f:FuncId)(nt:Nat)(o:Oper)(k:List Kt)(e:Env)(A:AS)(Q:Ex->Env->AS->Prop):Prop :=
 if quiet o=true then aG P H f nt (evQ P o e A) o.dst k e A Q
 else match o.op with
  |.call ⟨.value g,args,_⟩=>j0 P H f nt (e.eval g) (aD e args.toList) o.dst k e A Q
  | _=>cQ P H f nt (evE P C0 o e A) o.dst k e Q
def gA(P:Program)(H:Hints)(f:FuncId)(nt:Nat)(g:V)(want:Bool)(o:Oper)(k:List Kt)(e:Env)(A:AS)(Q:Ex->Env->AS->Prop):Prop:=match g with
 |.bool b=>if b=want then a0 P H f nt o k e A Q else Run P H f nt k .normal (bG e o (.tup [])) A Q
 |.tup []=>Run P H f nt k .normal (bG e o (.tup [])) A Q
 | _=>False
def lG(P:Program)(H:Hints)(f:FuncId)(nt:Nat)(ops:Array Oper)(o:Oper)(k:List Kt)(e:Env)(A:AS)(Q:Ex->Env->AS->Prop):Prop :=
 iL nt o=true /\
 match o.guard with
 |none=>a0 P H f nt o k e A Q
 |some (j,want)=>match (ops[j]?).bind (·.dst)with
  |none=>False
  |some d=>gA P H f nt (e.get d) want o k e A Q
theorem Bw9{h:FuncId}{first cap vs:List V}{dst:Option Tmp}:j0 P H f nt (some (.fn h first cap)) (some vs) dst k e A Q=jF P H f nt h (first++vs++cap) dst k e A Q:=rfl
theorem Bx0{o:Oper}:gA P H f nt (.bool true) true o k e A Q=a0 P H f nt o k e A Q:=rfl
theorem Bx1{o:Oper}:gA P H f nt (.bool false) false o k e A Q=a0 P H f nt o k e A Q:=rfl
theorem Bx2{o:Oper}:gA P H f nt (.bool true) false o k e A Q=Run P H f nt k .normal (bG e o (.tup [])) A Q:=rfl
theorem Bx3{o:Oper}:gA P H f nt (.bool false) true o k e A Q=Run P H f nt k .normal (bG e o (.tup [])) A Q:=rfl
theorem Bx4{o:Oper}{w:Bool}:gA P H f nt (.tup []) w o k e A Q=Run P H f nt k .normal (bG e o (.tup [])) A Q:=rfl
theorem AR4{o:Oper}:(wpOp P H o e A fun v A'=>Run P H f nt k .normal (bG e o v) A' Q)=a0 P H f nt o k e A Q:=by
 unfold wpOp a0
 split
 . unfold aG
   cases evQ P o e A with
   |none=>rfl
   |some q=>cases q<;>rfl
 . rename_i hq
   clear hq
   obtain⟨dst,op,ty,pos,after,guard⟩:=o
   cases op
   case call c =>
    obtain⟨callee,args,ts⟩:=c
    cases callee
    case value g =>
     simp only[j0]
     cases aD e args.toList with
     |none=>rfl
     |some vs =>
      cases hg:e.eval g with
      |none=>rfl
      |some g=>cases g<;>rfl
    all_goals rfl
   all_goals rfl
theorem Bn5{o:Oper}{r:List Oper}:Run P H f nt (.ops ops (o::r)::k) .normal e A Q=lG P H f nt ops o (.ops ops r::k) e A Q:=by
 simp only[Run,wpS]
 unfold wpO lG gA
 first
  | (simp only[<- AR4,Run];done)
  | (simp only[<- AR4,Run];rfl)
theorem A89{i:Nat}{rc:List Nat}{r:fS}:Run P H f nt (.ak ops ((i,rc)::r)::k) .normal e A Q=match ops[i]? with
 |some o=>lG P H f nt ops o (.rc ops rc::.ak ops r::k) e A Q
 |none=>False:=by
 simp only[Run,wpP]
 unfold wpO lG gA
 simp only[<- AR4,Run]
 cases ops[i]?<;>rfl
theorem BH9{l:List Nat}:Run P H f nt (.rc ops l::k) .normal e A Q=(recheck P ops e A l=true/\Run P H f nt k .normal e A Q):=rfl
def j6(P:Program)(H:Hints)(f:FuncId)(nt:Nat)(c:Option V)(a b:Code)(k:List Kt)(e:Env)(A:AS)(Q:Ex->Env->AS->Prop):Prop:=match c with
 |some (.bool t)=>if t=true then Run P H f nt (.code a::k) .normal e A Q else Run P H f nt (.code b::k) .normal e A Q
 | _=>False
theorem Be5{a b:Code}:j6 P H f nt (some (.bool true)) a b k e A Q=Run P H f nt (.code a::k) .normal e A Q:=rfl
theorem A42{a b:Code}:j6 P H f nt (some (.bool false)) a b k e A Q=Run P H f nt (.code b::k) .normal e A Q:=rfl
theorem Aa8{p:Prop}[Decidable p]{a b:Code}(h1:p->Run P H f nt (.code a::k) .normal e A Q)(h2:¬p->Run P H f nt (.code b::k) .normal e A Q):
 j6 P H f nt (some (.bool (decide p))) a b k e A Q:=by
 by_cases h:p
 . simp only[h,decide_true];exact h1 h
 . simp only[h,decide_false];exact h2 h
theorem A43{c:Operand}{a b:Code}:Run P H f nt (.code (.cond c a b)::k) .normal e A Q=j6 P H f nt (e.eval c) a b k e A Q:=by
 unfold j6
 simp only[Run,wpC]
 apply propext
 constructor
 . rintro⟨t,h1,h2,h3⟩
   rw[h1]
   cases t with
   |true=>simpa using h2 rfl
   |false=>simpa using h3 rfl
 . intro h
   split at h
   . rename_i t ht
     refine⟨t,ht,fun q=>?_,fun q=>?_⟩
     . rw[if_pos q]at h;exact h
     . rw[if_neg (by rw[q];simp)]at h;exact h
   . exact h.elim
theorem B76{fn:Func}{body:Code}{args:List V}{Q:V->AS->Prop}(hg:H.ground f=none)(hf:P.funcs[f]?=some fn)(hb:fn.body=some body)(hl:args.length<=fn.ntmps)
 (h:Run P H f fn.ntmps [.code body] .normal (eD 0 args) A (leaves (P:=P) fn Q)):∃v A',EvF P H f args A v A'/\Q v A':=Co2 hg hf hb hl h
theorem Bx5{c:Code}(I:Nat->Env->AS->Prop)(hI:∃n,I n e A)
 (dA:∀n e A,I n e A->Run P H f nt [.code c] .normal e A fun x e' A'=>match x with
  |.normal=>∃n',n'<n/\I n' e' A'
  |x=>Run P H f nt k x e' A' Q):Run P H f nt (.code (.loop c)::k) .normal e A Q:=by
 obtain⟨n,hn⟩:=hI
 exact BM4 (Q:=fun x e A=>Run P H f nt k x e A Q) I dA n e A hn
end
end Go.Sv
namespace Go.Sv
open Go
end Go.Sv
namespace Go.Sv
open Go
section
variable {P:Program} {H:Hints} {f:FuncId} {nt:Nat} {k:List Kt} {e:Env} {A:AS} {Q:Ex->Env->AS->Prop}
def j8(P:Program)(H:Hints)(f:FuncId)(nt:Nat)(k:List Kt)(e:Env)(A:AS)(Q:Ex->Env->AS->Prop):Option Code->Prop
 |none=>Run P H f nt k .normal e A Q
 |some .ret=>Run P H f nt k .ret e A Q
 |some (.exit id)=>Run P H f nt k (.exit id) e A Q
 |some _=>False
theorem Ao6{g:Operand}{ps:Array Tmp}{as bd:Code}{h:FuncId}{first cap:List V}{v:V}{A2:AS}{r:ez}(hg:e.eval g=some (.fn h first cap))
 (hc:EvF P H h (first++[.yield A.loops.length]++cap) (A.aS ⟨.ready,none,f,e,ps.toList,as,bd⟩) v A2) (hr:A2.loops[A.loops.length]?=some r) (hb:r.state≠.busy)
 (ha:j8 P H f nt k e (A2.ay A.loops.length { r with state:=.exhausted }) Q r.pending):Run P H f nt (.code (.rangeFunc g ps as bd)::k) .normal e A Q:=by
 show WC P H f nt (.rangeFunc g ps as bd) e A _
 have fin:∀x,(match r.pending with
  |none=>some (Ex.normal,e,A2.ay A.loops.length { r with state:=.exhausted })
  |some .ret=>some (.ret,e,A2.ay A.loops.length { r with state:=.exhausted })
  |some (.exit id)=>some (.exit id,e,A2.ay A.loops.length { r with state:=.exhausted })
  |some _=>none)=some (x,e,A2.ay A.loops.length { r with state:=.exhausted }) ->
  Evt fun n=>aM P H (Ck P H n) n f nt (.rangeFunc g ps as bd) e A=some (x,e,A2.ay A.loops.length { r with state:=.exhausted }):=fun x hx =>
  hc.imp fun n hn=>by
   simp only[aM,jU,hg]
   rw[hn]
   simp only[hr,if_neg hb]
   exact hx
 unfold j8 at ha
 split at ha
 . rename_i hp
   exact⟨.normal,e,_,fin .normal (by rw[hp]),ha⟩
 . rename_i hp
   exact⟨.ret,e,_,fin .ret (by rw[hp]),ha⟩
 . rename_i id hp
   exact⟨.exit id,e,_,fin (.exit id) (by rw[hp]),ha⟩
 . exact ha.elim
def bX:Ex->Option Code
 |.normal=>none
 |.ret=>some .ret
 |.exit id=>some (.exit id)
theorem AR5{l:Nat}{args:List V}{r:ez}{fn:Func}{e0:Env}{Q:V->AS->Prop}(hr:A.loops[l]?=some r)(hf:P.funcs[r.fn]?=some fn)(hb:ca r.env r.params args=some e0)(hp:r.params.all (fun p=>decide (p<fn.ntmps))=true)
 (h:Run P H r.fn fn.ntmps [.code r.assign] .normal e0 A fun x e1 A1=>x=.normal/\∃r1,A1.loops[l]?=some r1/\r1.state=.ready /\
  Run P H r.fn fn.ntmps [.code r.body] .normal e1 (A1.ay l { r1 with state:=.busy }) fun x e2 A2=>∃r2,A2.loops[l]?=some r2 /\
   Q (.bool (bX x).isNone) (A2.ay l { r2 with state:=if (bX x).isNone then .ready else .done,pending:=bX x })):∃v A',EvY P H l args A v A'/\Q v A':=by
 have h':wpC P H r.fn fn.ntmps r.assign e0 A (fun x e1 A1=>x=.normal/\∃r1,A1.loops[l]?=some r1/\r1.state=.ready/\Run P H r.fn fn.ntmps [.code r.body] .normal e1 (A1.ay l { r1 with state:=.busy }) fun x e2 A2=>∃r2,A2.loops[l]?=some r2 /\
  Q (.bool (bX x).isNone) (A2.ay l { r2 with state:=if (bX x).isNone then .ready else .done,pending:=bX x })):=h
 obtain⟨x,e1,A1,h1,rfl,r1,h2,h3,h4⟩:=Ax8 h'
 obtain⟨x2,e2,A2,h5,r2,h6,h7⟩:=Ax8 (show wpC P H r.fn fn.ntmps r.body e1 (A1.ay l { r1 with state:=.busy }) _ from h4)
 refine⟨_,_,?_,h7⟩
 exact(h1.oX h5 fun n p q=>show cS P H (n+1) l args A=_ by
  unfold cS
  simp only[hr,hf,hb]
  rw[if_pos hp,p]
  simp only[h2,h3,if_true,q,h6]
  cases x2<;>rfl).succ
end
end Go.Sv
namespace Go.Sv
open Go
abbrev Hp:=Nat->Option (List V)
def Hp.le(m m':Hp):Prop:=∀b cs,m b=some cs->m' b=some cs
def Hp.on(m:Hp)(A:AS):Prop:=∀b cs,m b=some cs->∃k,A.blk[b]?=some ⟨cs,k⟩
def Hp.put(m:Hp)(b:Nat)(cs:List V):Hp:=fun i=>if i=b then some cs else m i
def Hp.emp:Hp:=fun _=>none
theorem Hp.le_refl(m:Hp):m.le m:=fun _ _ h=>h
theorem Hp.le_trans{a b c:Hp}(h:a.le b)(k:b.le c):a.le c:=fun i cs q=>k i cs (h i cs q)
theorem Hp.ji(A:AS):Hp.emp.on A:=fun _ _ h=>by simp[Hp.emp]at h
theorem Hp.on.cell{m:Hp}{A:AS}(h:m.on A){b o:Nat}{cs:List V}(hb:m b=some cs):A.cell b o=cs[o]?:=by
 obtain⟨k,hk⟩:=h b cs hb
 unfold AS.cell;rw[hk];rfl
theorem Hp.on.range{m:Hp}{A:AS}(h:m.on A){b o n:Nat}{cs:List V}(hb:m b=some cs)(hn:o+n<=cs.length):A.range b o n=some ((cs.drop o).take n):=by
 obtain⟨k,hk⟩:=h b cs hb
 unfold AS.range;rw[hk];simp[hn]
theorem Hp.on.lt{m:Hp}{A:AS}(h:m.on A){b:Nat}{cs:List V}(hb:m b=some cs):b<A.blk.length:=by
 obtain⟨k,hk⟩:=h b cs hb
 exact(LG.1 hk).1
theorem Hp.on.fresh{m:Hp}{A:AS}(h:m.on A){b:Nat}(hb:A.blk.length<=b):m b=none:=by
 cases hm:m b with
 |none=>rfl
 |some cs=>have:=h.lt hm;omega
theorem Hp.on.put{m:Hp}{A:AS}(h:m.on A){b:Nat}{cs:List V}{k:BK}(hb:A.blk[b]?=some ⟨cs,k⟩):(m.put b cs).on A:=by
 intro i c hi
 unfold Hp.put at hi
 split at hi
 . rename_i e;subst e;cases hi;exact⟨k,hb⟩
 . exact h i c hi
theorem Hp.jj{m:Hp}{b:Nat}{cs:List V}(h:m b=none):m.le (m.put b cs):=by
 intro i c hi
 unfold Hp.put
 split
 . rename_i e;subst e;rw[h]at hi;simp at hi
 . exact hi
theorem Hp.iT(m:Hp)(b:Nat)(cs:List V):(m.put b cs) b=some cs:=by simp[Hp.put]
inductive Loc where
 |row (b:Nat)
 |fam (f:Nat)
 |map (r:Nat)
 |loop (l:Nat)
 |it (i:Nat)
def Loc.dK(A:AS):Loc->Prop
 |.row b=>A.blk.length<=b
 |.fam f=>A.blk.length<=f
 |.map r=>A.maps.length<=r
 |.loop l=>A.loops.length<=l
 |.it i=>A.its.length<=i
def WF(A:AS):Prop:=∀(b:Nat) k f base,A.blk[b]?=some k->k.kind=.arr f base->f<A.blk.length
structure Fr(S:Loc->Prop)(A A':AS):Prop where
 row:∀(b:Nat) k,A.blk[b]?=some k->¬S (.row b)->A'.blk[b]?=some k
 kind:∀(b:Nat) k,A.blk[b]?=some k->∃cs,A'.blk[b]?=some ⟨cs,k.kind⟩/\cs.length=k.cells.length
 new:∀(b:Nat) k f base,A'.blk[b]?=some k->A.blk.length<=b->k.kind=.arr f base->f<A'.blk.length/\(A.blk.length<=f∨S (.fam f))
 map:∀(r:Nat) m,A.maps[r]?=some m->¬S (.map r)->A'.maps[r]?=some m
 gS:A.maps.length<=A'.maps.length
 loop:∀(l:Nat) r,A.loops[l]?=some r->¬S (.loop l)->A'.loops[l]?=some r
 kj:A.loops.length<=A'.loops.length
 it:∀(i:Nat) r,A.its[i]?=some r->¬S (.it i)->A'.its[i]?=some r
 ko:A.its.length<=A'.its.length
def S0:Loc->Prop:=fun _=>False
theorem Fr.refl(S:Loc->Prop)(A:AS):Fr S A A where
 row:=fun b k h _=>h
 kind:=fun b k h=>⟨k.cells,by rw[h],rfl⟩
 new:=fun b k f base h hb hk=>by have:=(LG.1 h).1;omega
 map:=fun r m h _=>h
 gS:=Nat.le_refl _
 loop:=fun l r h _=>h
 kj:=Nat.le_refl _
 it:=fun l r h _=>h
 ko:=Nat.le_refl _
theorem Fr.len{S:Loc->Prop}{A A':AS}(h:Fr S A A'):A.blk.length<=A'.blk.length:=by
 rcases Nat.lt_or_ge A'.blk.length A.blk.length with q |q
 . obtain⟨cs,h1,_⟩:=h.kind A'.blk.length A.blk[A'.blk.length] (LH q)
   have:=(LG.1 h1).1
   omega
 . exact q
theorem Fr.wf{S:Loc->Prop}{A A':AS}(h:Fr S A A')(hw:WF A):WF A':=by
 intro b k f base hb hk
 have hlen:=h.len
 rcases Nat.lt_or_ge b A.blk.length with q |q
 . obtain⟨cs,h1,h2⟩:=h.kind b A.blk[b] (LH q)
   rw[hb]at h1;cases h1
   have:=hw b _ f base (LH q) hk
   omega
 . exact(h.new b k f base hb q hk).1
theorem Fr.trans{S S':Loc->Prop}{A B C:AS}(h:Fr S A B)(k:Fr S' B C)(hs:∀x,S' x->S x∨x.dK A):Fr S A C where
 row:=fun b x hb hn=>k.row b x (h.row b x hb hn) fun q=>by
  rcases hs _ q with r |r
  . exact hn r
  . have:=(LG.1 hb).1;simp only[Loc.dK]at r;omega
 kind:=fun b x hb=>by
  obtain⟨cs,h1,h2⟩:=h.kind b x hb
  obtain⟨cs',h3,h4⟩:=k.kind b _ h1
  exact⟨cs',h3,by rw[h4,<- h2]⟩
 new:=fun b x f base hb hge hk=>by
  have l1:=h.len;have l2:=k.len
  rcases Nat.lt_or_ge b B.blk.length with q |q
  . obtain⟨cs,h1,h2⟩:=k.kind b B.blk[b] (LH q)
    rw[hb]at h1;cases h1
    obtain⟨r1,r2⟩:=h.new b _ f base (LH q) hge hk
    exact⟨by omega,r2⟩
  . obtain⟨r1,r2⟩:=k.new b x f base hb q hk
    refine⟨r1,?_⟩
    rcases r2 with r2 |r2
    . exact .inl (by omega)
    . rcases hs _ r2 with r3 |r3
      . exact .inr r3
      . exact .inl r3
 map:=fun r m hm hn=>k.map r m (h.map r m hm hn) fun q=>by
  rcases hs _ q with e |e
  . exact hn e
  . have:=(LG.1 hm).1;simp only[Loc.dK]at e;omega
 gS:=Nat.le_trans h.gS k.gS
 loop:=fun r m hm hn=>k.loop r m (h.loop r m hm hn) fun q=>by
  rcases hs _ q with e |e
  . exact hn e
  . have:=(LG.1 hm).1;simp only[Loc.dK]at e;omega
 kj:=Nat.le_trans h.kj k.kj
 it:=fun r m hm hn=>k.it r m (h.it r m hm hn) fun q=>by
  rcases hs _ q with e |e
  . exact hn e
  . have:=(LG.1 hm).1;simp only[Loc.dK]at e;omega
 ko:=Nat.le_trans h.ko k.ko
theorem Fr.mono{S S':Loc->Prop}{A B:AS}(h:Fr S A B)(hs:∀x,S x->S' x):Fr S' A B :=
 { h with row:=fun b k q n=>h.row b k q fun x=>n (hs _ x),new:=fun b k f base q1 q2 q3=>⟨(h.new b k f base q1 q2 q3).1,(h.new b k f base q1 q2 q3).2.imp id (hs _)⟩
          map:=fun b k q n=>h.map b k q fun x=>n (hs _ x),loop:=fun b k q n=>h.loop b k q fun x=>n (hs _ x),it:=fun b k q n=>h.it b k q fun x=>n (hs _ x) }
theorem Fr.ab{S:Loc->Prop}{A B C:AS}(h:Fr S A B)(k:Fr S0 B C):Fr S A C:=h.trans k fun _ q=>q.elim
theorem Fr.jL{S:Loc->Prop}{A B C:AS}(h:Fr S0 A B)(k:Fr S B C):Fr S A C:=(h.mono fun _ q=>q.elim:Fr S A B).trans k fun _ q=>.inl q
theorem Fr.thn{S:Loc->Prop}{A B C:AS}(h:Fr S A B)(k:Fr S B C):Fr S A C:=h.trans k fun _ q=>.inl q
theorem Hp.on.fr{m:Hp}{S:Loc->Prop}{A A':AS}(h:m.on A)(hf:Fr S A A')(hs:∀b,S (.row b)->m b=none):m.on A':=by
 intro b cs hb
 obtain⟨k,hk⟩:=h b cs hb
 exact⟨k,hf.row b _ hk fun q=>by rw[hs b q]at hb;simp at hb⟩
theorem Hp.on.fr0{m:Hp}{A A':AS}(h:m.on A)(hf:Fr S0 A A'):m.on A':=h.fr hf fun _ q=>q.elim
theorem Ad2(A:AS)(k:Blk)(b:Nat):(A.push k).blk[b]?=if b=A.blk.length then some k else A.blk[b]?:=by
 unfold AS.push
 simp only[]
 split
 . rename_i h;subst h;simp
 . rename_i h
   rcases Nat.lt_or_ge b A.blk.length with q |q
   . rw[List.getElem?_append_left q]
   . rw[List.getElem?_append_right q,List.getElem?_eq_none (by simp;omega),List.getElem?_eq_none q]
theorem Ad4(A:AS)(k:Blk):(A.push k).blk.length=A.blk.length+1:=by simp[AS.push]
theorem Fr.push(A:AS)(cs:List V){k:BK}(hk:∀f base,k=.arr f base->f=A.blk.length):Fr S0 A (A.push ⟨cs,k⟩) where
 row:=fun b x h _=>by rw[Ad2,if_neg (by have:=(LG.1 h).1;omega)];exact h
 kind:=fun b x h=>⟨x.cells,by rw[Ad2,if_neg (by have:=(LG.1 h).1;omega),h],rfl⟩
 new:=fun b x f base h hb hx=>by
  rw[Ad2]at h
  split at h
  . cases h
    have:=hk f base hx
    rw[Ad4]
    exact⟨by omega,.inl (by omega)⟩
  . have:=(LG.1 h).1;omega
 map:=fun r m h _=>h
 gS:=Nat.le_refl _
 loop:=fun r m h _=>h
 kj:=Nat.le_refl _
 it:=fun r m h _=>h
 ko:=Nat.le_refl _
theorem Fr.my(A:AS)(cs:List V):Fr S0 A (A.push ⟨cs,.var⟩):=Fr.push A cs fun _ _ h=>by simp at h
theorem Fr.aF(A:AS)(cs:List V):Fr S0 A (A.push ⟨cs,.arr A.blk.length 0⟩):=Fr.push A cs fun _ _ h=>by simp at h;exact h.1.symm
theorem Ab9(A:AS)(k:Blk):(A.push k).blk[A.blk.length]?=some k:=by rw[Ad2];simp
theorem Aa3(A:AS)(cs:List V):∃A',A'=A.push ⟨cs,.var⟩/\Fr S0 A A'/\A'.blk[A.blk.length]?=some ⟨cs,.var⟩/\A'.blk.length=A.blk.length+1 :=
 ⟨_,rfl,.my A cs,Ab9 A _,Ad4 A _⟩
theorem Fr.aS(A:AS)(r:ez):Fr S0 A (A.aS r) where
 row:=fun b x h _=>h
 kind:=fun b x h=>⟨x.cells,by show A.blk[b]?=_;rw[h],rfl⟩
 new:=fun b x f base h hb hx=>by have:=(LG.1 h).1;simp only[AS.aS]at this;omega
 map:=fun r m h _=>h
 gS:=Nat.le_refl _
 loop:=fun l x h _=>by simp only[AS.aS];rw[List.getElem?_append_left (LG.1 h).1];exact h
 kj:=by simp[AS.aS]
 it:=fun r m h _=>h
 ko:=Nat.le_refl _
theorem Ar8(A:AS)(r:ez):(A.aS r).loops[A.loops.length]?=some r:=by simp[AS.aS]
theorem Fr.ay(A:AS)(l:Nat)(r:ez):Fr (·=.loop l) A (A.ay l r) where
 row:=fun b x h _=>h
 kind:=fun b x h=>⟨x.cells,by show A.blk[b]?=_;rw[h],rfl⟩
 new:=fun b x f base h hb hx=>by have:=(LG.1 h).1;simp only[AS.ay]at this;omega
 map:=fun r m h _=>h
 gS:=Nat.le_refl _
 loop:=fun i x h hn=>by
  simp only[AS.ay]
  rw[List.getElem?_set_ne (fun q=>hn (by rw[q]))];exact h
 kj:=by simp[AS.ay]
 it:=fun r m h _=>h
 ko:=Nat.le_refl _
theorem Ae0{A:AS}{l:Nat}{r r':ez}(h:A.loops[l]?=some r):(A.ay l r').loops[l]?=some r':=by
 simp[AS.ay,(LG.1 h).1]
theorem Fr.bQ(A:AS)(r:jQ):Fr S0 A (A.bQ r) where
 row:=fun b x h _=>h
 kind:=fun b x h=>⟨x.cells,by show A.blk[b]?=_;rw[h],rfl⟩
 new:=fun b x f base h hb hx=>by have:=(LG.1 h).1;simp only[AS.bQ]at this;omega
 map:=fun l x h _=>by simp only[AS.bQ];rw[List.getElem?_append_left (LG.1 h).1];exact h
 gS:=by simp[AS.bQ]
 loop:=fun l x h _=>h
 kj:=Nat.le_refl _
 it:=fun r m h _=>h
 ko:=Nat.le_refl _
theorem A44(A:AS)(r:jQ):(A.bQ r).maps[A.maps.length]?=some r:=by simp[AS.bQ]
theorem Fr.cY(A:AS)(l:Nat)(r:jQ):Fr (·=.map l) A (A.cY l r) where
 row:=fun b x h _=>h
 kind:=fun b x h=>⟨x.cells,by show A.blk[b]?=_;rw[h],rfl⟩
 new:=fun b x f base h hb hx=>by have:=(LG.1 h).1;simp only[AS.cY]at this;omega
 map:=fun i x h hn=>by
  simp only[AS.cY]
  rw[List.getElem?_set_ne (fun q=>hn (by rw[q]))];exact h
 gS:=by simp[AS.cY]
 loop:=fun r m h _=>h
 kj:=Nat.le_refl _
 it:=fun r m h _=>h
 ko:=Nat.le_refl _
theorem Be6{A:AS}{l:Nat}{r r':jQ}(h:A.maps[l]?=some r):(A.cY l r').maps[l]?=some r':=by
 simp[AS.cY,(LG.1 h).1]
theorem Ak7(A:AS)(b i:Nat)(cs:List V):(A.bN b cs).blk[i]?=if i=b then(A.blk[i]?).map (fun k=>{ k with cells:=cs })else A.blk[i]?:=by
 unfold AS.bN
 simp only[]
 rw[List.getElem?_modify]
 split
 . rename_i h;subst h;simp
 . rename_i h;rw[if_neg (fun q=>h q.symm)];simp
theorem Af0{cs vs:List V}{o:Nat}(h:o+vs.length<=cs.length):(putAt cs o vs).length=cs.length:=by
 simp[putAt];omega
theorem Fr.bN{A:AS}{b:Nat}{k:Blk}{cs:List V}(hb:A.blk[b]?=some k)(hl:cs.length=k.cells.length):Fr (·=.row b) A (A.bN b cs) where
 row:=fun i x h hn=>by rw[Ak7,if_neg (fun q=>hn (by rw[q]))];exact h
 kind:=fun i x h=>by
  rw[Ak7]
  split
  . rename_i e;subst e
    rw[hb]at h;cases h
    exact⟨cs,by rw[hb];rfl,hl⟩
  . exact⟨x.cells,h,rfl⟩
 new:=fun i x f base h hi hx=>by
  have h1:=(LG.1 h).1
  simp only[AS.bN,List.length_modify]at h1
  omega
 map:=fun r m h _=>h
 gS:=Nat.le_refl _
 loop:=fun r m h _=>h
 kj:=Nat.le_refl _
 it:=fun r m h _=>h
 ko:=Nat.le_refl _
theorem Ab1{P:Program}{A:AS}{b o:Nat}{cells cs:List V}{t:TypeId}{x:V}(hb:A.blk[b]?=some ⟨cells,.var⟩)(hx:x.cells=some cs)(hsz:szT P t=some cs.length)(ho:o+cs.length<=cells.length)(h1:cs.all V.one=true):
 ∃A',ag P t (.ptr b o) x A=some A'/\Fr (·=.row b) A A'/\A'.blk[b]?=some ⟨putAt cells o cs,.var⟩/\A'.blk.length=A.blk.length:=by
 refine⟨A.bN b (putAt cells o cs),?_,Fr.bN hb (Af0 ho),by rw[Ak7,hb];simp,by simp[AS.bN]⟩
 unfold ag
 rw[hsz,hx]
 simp only[if_true]
 unfold AS.put
 rw[hb]
 simp only[]
 rw[if_pos ⟨ho,h1⟩]
theorem Ai6{P:Program}{A:AS}{b:Nat}{c:V}{t:TypeId}{x:V}(hb:A.blk[b]?=some ⟨[c],.var⟩)(hx:x.cells=some [x])(hsz:szT P t=some 1)(h1:x.one=true):
 ∃A',ag P t (.ptr b 0) x A=some A'/\Fr (·=.row b) A A'/\A'.blk[b]?=some ⟨[x],.var⟩/\A'.blk.length=A.blk.length:=by
 obtain⟨A',h2,h3,h4,h5⟩:=Ab1 (o:=0) (P:=P) (t:=t) hb hx hsz (by simp) (by simpa using h1)
 exact⟨A',h2,h3,by simpa[putAt] using h4,h5⟩
theorem Ah8{A:AS}{b o:Nat}{k:Blk}(hb:A.blk[b]?=some k):A.cell b o=k.cells[o]?:=by
 unfold AS.cell;rw[hb];rfl
theorem Ae3{P:Program}{A:AS}{b o:Nat}{t:TypeId}(h:aH P t=some false):aa P t (.ptr b o) A=A.cell b o:=by
 unfold aa;rw[h]
theorem Aq4{P:Program}{A:AS}{b o n:Nat}{t:TypeId}(h:aH P t=some true)(hs:szT P t=some n):aa P t (.ptr b o) A=(A.range b o n).map .agg:=by
 unfold aa;rw[h,hs]
theorem Ab7{P:Program}{A:AS}{b:Nat}{c:V}{k:BK}{t:TypeId}(h:aH P t=some false)(hb:A.blk[b]?=some ⟨[c],k⟩):aa P t (.ptr b 0) A=some c:=by
 rw[Ae3 h,Ah8 hb];rfl
end Go.Sv
namespace Go.Sv
open Go
structure Enc(τ:Type) where
 sz:Nat
 agg:Bool
 R:Hp->List V->τ->Prop
 len:∀{m cs x},R m cs x->cs.length=sz
 one:agg=false->sz=1
 jD:∀{m cs x},R m cs x->cs.all V.one=true
 mono:∀{m m':Hp} {cs x},m.le m'->R m cs x->R m' cs x
def Enc.W{τ:Type}(E:Enc τ)(m:Hp)(w:V)(x:τ):Prop :=
 if E.agg=true then ∃cs,w=.agg cs/\E.R m cs x else E.R m [w] x
theorem Enc.W.cells{τ:Type}{E:Enc τ}{m:Hp}{w:V}{x:τ}(h:E.W m w x):∃cs,w.cells=some cs/\E.R m cs x:=by
 unfold Enc.W at h
 split at h
 . obtain⟨cs,rfl,h2⟩:=h;exact⟨cs,rfl,h2⟩
 . have:=E.jD h
   refine⟨[w],?_,h⟩
   cases w<;>simp[V.one]at this<;>rfl
def Slc{τ:Type}(E:Enc τ)(m:Hp)(v:V)(l:List τ):Prop :=
 (v=.ah/\l=[])∨∃b o cs,v=.sl b o l.length E.sz/\m b=some cs/\o+l.length*E.sz<=cs.length/\∀(i:Nat) x,l[i]?=some x->E.R m ((cs.drop (o+i*E.sz)).take E.sz) x
theorem Slc.mono{τ:Type}{E:Enc τ}{m m':Hp}(hm:m.le m'){v:V}{l:List τ}(h:Slc E m v l):Slc E m' v l:=by
 rcases h with h |⟨b,o,cs,h1,h2,h3,h4⟩
 . exact .inl h
 . exact .inr ⟨b,o,cs,h1,hm _ _ h2,h3,fun i x q=>E.mono hm (h4 i x q)⟩
theorem Slc.one{τ:Type}{E:Enc τ}{m:Hp}{v:V}{l:List τ}(h:Slc E m v l):v.one=true:=by
 rcases h with⟨rfl,_⟩ |⟨b,o,cs,rfl,_⟩<;>rfl
def eU8:Enc UInt8:=⟨1,false,fun _ cs x=>cs=[.int .u8 x.toNat],fun h=>by rw[h];rfl,fun _=>rfl,fun h=>by rw[h];rfl,fun _ h=>h⟩
def eInt(k:IntKind):Enc Int:=⟨1,false,fun _ cs x=>cs=[.int k x],fun h=>by rw[h];rfl,fun _=>rfl,fun h=>by rw[h];rfl,fun _ h=>h⟩
def kZ:Enc (List UInt8):=⟨1,false,fun _ cs x=>cs=[.str x],fun h=>by rw[h];rfl,fun _=>rfl,fun h=>by rw[h];rfl,fun _ h=>h⟩
def eSl{τ:Type}(E:Enc τ):Enc (List τ):=⟨1,false,fun m cs x=>∃v,cs=[v]/\Slc E m v x,fun⟨v,h,_⟩=>by rw[h];rfl,fun _=>rfl,fun⟨v,h,q⟩=>by rw[h];simp[q.one],fun hm ⟨v,h,q⟩=>⟨v,h,q.mono hm⟩⟩
theorem BM8{τ:Type}{E:Enc τ}{m:Hp}{w:V}{x:List τ}:(eSl E).W m w x↔Slc E m w x:=by
 unfold Enc.W
 rw[if_neg (by simp[eSl])]
 constructor
 . rintro⟨v,h,q⟩;cases h;exact q
 . intro q;exact⟨w,rfl,q⟩
theorem Co3{m:Hp}{w:V}{x:UInt8}:eU8.W m w x↔w=.int .u8 x.toNat:=by
 unfold Enc.W;rw[if_neg (by simp[eU8])];simp[eU8]
theorem B77{k:IntKind}{m:Hp}{w:V}{x:Int}:(eInt k).W m w x↔w=.int k x:=by
 unfold Enc.W;rw[if_neg (by simp[eInt])];simp[eInt]
theorem B78{m:Hp}{w:V}{x:List UInt8}:kZ.W m w x↔w=.str x:=by
 unfold Enc.W;rw[if_neg (by simp[kZ])];simp[kZ]
section
variable {τ:Type} {E:Enc τ} {m:Hp} {A:AS} {v:V} {l:List τ} {P:Program} {t e:TypeId}
theorem Slc.len(h:Slc E m v l)(hu:P.underlying t=some (.slice e))(A:AS):dr P t v A=some (.int .i64 l.length):=by
 unfold dr
 rcases h with⟨rfl,rfl⟩ |⟨b,o,cs,rfl,_⟩<;>rw[hu]<;>rfl
theorem AY4{A:AS}(hm:m.on A){b o:Nat}{cs:List V}{x:τ}(hb:m b=some cs)(ho:o+E.sz<=cs.length)(hR:E.R m ((cs.drop o).take E.sz) x)(hs:szT P e=some E.sz)(ha:aH P e=some E.agg):
 ∃w,aa P e (.ptr b o) A=some w/\E.W m w x:=by
 unfold Enc.W
 cases hg:E.agg with
 |true =>
  refine⟨.agg ((cs.drop o).take E.sz),?_,by rw[if_pos rfl];exact⟨_,rfl,hR⟩⟩
  rw[Aq4 (by rw[ha,hg]) hs,hm.range hb ho];rfl
 |false =>
  have h1:=E.one hg
  rw[h1]at hR ho
  have hlt:o<cs.length:=by omega
  refine⟨cs[o],?_,?_⟩
  . rw[Ae3 (by rw[ha,hg]),hm.cell hb];exact LH hlt
  . rw[if_neg (by simp)]
    rw[List.take_one,List.head?_drop,LH hlt]at hR
    exact hR
theorem Slc.at(h:Slc E m v l)(hm:m.on A)(hu:P.underlying t=some (.slice e))(hs:szT P e=some E.sz)(ha:aH P e=some E.agg){i:Nat}{x:τ}{k:IntKind}(hx:l[i]?=some x):
 ∃b o w,aj P t v (.int k (i:Int))=some (.ptr b o)/\aa P e (.ptr b o) A=some w/\E.W m w x:=by
 have hi:=(LG.1 hx).1
 rcases h with⟨rfl,rfl⟩ |⟨b,o,cs,rfl,h2,h3,h4⟩
 . simp at hx
 . have hle:i*E.sz+E.sz<=l.length*E.sz:=by rw[<- Nat.succ_mul];exact Nat.mul_le_mul_right _ hi
   obtain⟨w,h5,h6⟩:=AY4 (P:=P) (e:=e) (x:=x) hm h2 (o:=o+i*E.sz) (by omega) (h4 i x hx) hs ha
   refine⟨b,o+i*E.sz,w,?_,h5,h6⟩
   unfold aj
   simp only[hu,hs]
   rw[if_pos (by refine⟨?_,?_,?_⟩<;>first |trivial |omega)]
   simp
end
theorem AI1(l:List UInt8):bytesOf (l.map fun u=>.int .u8 u.toNat)=some l:=by
 induction l with
 |nil=>rfl
 |cons x l ih=>simp[bytesOf,ih]
theorem AR6{α:Type}{l l':List α}(hl:l.length=l'.length)(h:∀(i:Nat) x,l'[i]?=some x->l[i]?=some x):l=l':=by
 apply List.ext_getElem? ;intro i
 rcases Nat.lt_or_ge i l'.length with q |q
 . rw[h i _ (LH q),LH q]
 . rw[List.getElem?_eq_none q,List.getElem?_eq_none (by omega)]
theorem Slc.bytes{m:Hp}{v:V}{l:List UInt8}(h:Slc eU8 m v l):(v=.ah/\l=[])∨∃b o cs,v=.sl b o l.length 1/\m b=some cs/\o+l.length<=cs.length/\(cs.drop o).take l.length=l.map fun u=>.int .u8 u.toNat:=by
 rcases h with h |⟨b,o,cs,h1,h2,h3,h4⟩
 . exact .inl h
 . refine .inr ⟨b,o,cs,h1,h2,by simpa[eU8] using h3,?_⟩
   simp only[eU8,Nat.mul_one]at h3
   apply AR6
   . simp;omega
   . intro i x hx
     rw[List.getElem?_map]at hx
     cases hl:l[i]? with
     |none=>rw[hl]at hx;simp at hx
     |some y =>
      rw[hl]at hx;simp at hx;subst hx
      have h5:=h4 i y hl
      have hi:=(LG.1 hl).1
      simp only[eU8,Nat.mul_one,List.take_one,List.head?_drop]at h5
      rw[List.getElem?_take_of_lt (by omega),List.getElem?_drop]
      cases hc:cs[o+i]? with
      |none=>rw[hc]at h5;simp at h5
      |some c=>rw[hc]at h5;simp at h5;rw[h5]
theorem Slc.text{P:Program}{m:Hp}{A:AS}{v:V}{l:List UInt8}{s d e:TypeId}(h:Slc eU8 m v l)(hm:m.on A)(hu:P.underlying s=some (.slice e))(he:P.underlying e=some (.int .u8))(hd:P.underlying d=some .string):
 aU P s d v A=some (.str l):=by
 rcases h.bytes with⟨rfl,rfl⟩ |⟨b,o,cs,rfl,h2,h3,h4⟩
 . unfold aU;simp only[hu,he,hd]
 . unfold aU;simp only[hu,he,hd,if_true]
   rw[hm.range h2 h3,h4]
   simp[AI1]
def Own(N:Nat)(A:AS)(v:V)(n sz:Nat)(cs:List V):Prop :=
 cs.length=n*sz/\cs.all V.one=true/\((v=.ah/\n=0)∨∃b f base,v=.sl b 0 n sz/\A.blk[b]?=some ⟨cs,.arr f base⟩/\N<=b/\N<=f/\f<A.blk.length /\
  ∀(i:Nat) k base',A.blk[i]?=some k->k.kind=.arr f base'->base'+k.cells.length<=base+cs.length)
def iz(N:Nat):Loc->Prop
 |.fam f=>N<=f
 | _=>False
theorem Own.fr{N:Nat}{S:Loc->Prop}{A A':AS}{v:V}{n sz:Nat}{cs:List V}(h:Own N A v n sz cs)(hf:Fr S A A')(hs:∀b,S (.row b)->(∀cs' ,A.blk[b]?=some ⟨cs',.var⟩->True)/\∃cs',A.blk[b]?=some ⟨cs',.var⟩)(hs2:∀f,S (.fam f)->False):Own N A' v n sz cs:=by
 obtain⟨h1,h0,h2⟩:=h
 refine⟨h1,h0,?_⟩
 rcases h2 with h2 |⟨b,f,base,rfl,h3,h4,h5,h6,h7⟩
 . exact .inl h2
 . refine .inr ⟨b,f,base,rfl,hf.row b _ h3 fun q=>?_,h4,h5,by have:=hf.len;omega,fun i k base' hi hk=>?_⟩
   . obtain⟨_,cs',q⟩:=hs b q
     rw[h3]at q;simp at q
   . rcases Nat.lt_or_ge i A.blk.length with q |q
     . obtain⟨cs',q1,q2⟩:=hf.kind i _ (LH q)
       rw[hi]at q1;cases q1
       simp only[q2]
       exact h7 i _ base' (LH q) hk
     . obtain⟨_,r |r⟩:=hf.new i k f base' hi q hk
       . omega
       . exact(hs2 f r).elim
theorem Own.fr0{N:Nat}{A A':AS}{v:V}{n sz:Nat}{cs:List V}(h:Own N A v n sz cs)(hf:Fr S0 A A'):Own N A' v n sz cs:=h.fr hf (fun _ q=>q.elim) (fun _ q=>q.elim)
theorem Az9(A:AS)(f lo hi:Nat)(i:Nat):(A.a8 f lo hi none).blk[i]?=(A.blk[i]?).map (aK f lo hi):=by
 unfold AS.a8
 simp[List.getElem?_mapIdx]
theorem Ai7{f lo hi:Nat}{k:Blk}(h:∀base,k.kind=.arr f base->base+k.cells.length<=lo):aK f lo hi k=k:=by
 unfold aK
 split
 . rename_i g base hk
   split
   . rename_i hg;subst hg
     have:=h base hk
     have e:dD k.cells base lo hi=k.cells:=by
      unfold dD
      apply List.ext_getElem?;intro i
      rw[List.getElem?_mapIdx]
      rcases Nat.lt_or_ge i k.cells.length with q |q
      . rw[LH q];simp only[Option.map_some];rw[if_neg (by omega)]
      . rw[List.getElem?_eq_none q];rfl
     rw[e]
   . rfl
 . rfl
theorem Ar9(f lo hi:Nat)(k:Blk):(aK f lo hi k).kind=k.kind/\(aK f lo hi k).cells.length=k.cells.length:=by
 unfold aK
 split
 . split
   . exact⟨rfl,by simp[dD]⟩
   . exact⟨rfl,rfl⟩
 . exact⟨rfl,rfl⟩
theorem Ah0{P:Program}{t tx e:TypeId}{s x:V}{A:AS}{z by_:Nat}{zc:List V}(hu:P.underlying t=some (.slice e))(hs:szT P e=some (z+1))(hb:ct P e=some by_)(hz:(aC P e).bind V.cells=some zc)(hzl:zc.length=z+1)
 {n:Nat} {new:List V} (fQ:fR P tx (z+1) x A=some (n,new)) (hn:new.all V.one=true):
 aR P t tx s x A=match s with
  |.ah=>if n=0 then some (.ah,A)else if n*by_<=140737488355328/\n<=4611686018427387903 then
   some (.sl A.blk.length 0 n (z+1),A.push ⟨new,.arr A.blk.length 0⟩)else none
  |.sl b o len sz' =>
   if sz'≠(z+1)then none else if n=0 then some (.sl b o len (z+1),A)else
   match A.blk[b]?,A.range b o (len*(z+1))with
   |some k,some old =>
    match k.kind with
    |.arr fam base =>
     if old.all V.one/\(len+n)*by_<=140737488355328/\len+n<=4611686018427387903 then
      some (.sl A.blk.length 0 (len+n) (z+1),
       (A.a8 fam (base+o+len*(z+1)) (base+o+(len+n)*(z+1)) none).push ⟨old++new,.arr fam (base+o)⟩)
     else none
    | _=>none
   | _,_=>none
  | _=>none:=by
 rw[Au6]
 simp only[hu,hs,hb,hz,fQ]
 rw[if_neg (by simp[hzl]),if_pos hn]
 rfl
theorem Own.append{P:Program}{N:Nat}{A:AS}{v x:V}{t tx e:TypeId}{z by_:Nat}{zc:List V}{n k:Nat}{cs new:List V}(h:Own N A v n (z+1) cs)(hw:WF A)(hN:N<=A.blk.length)
 (hu:P.underlying t=some (.slice e)) (hs:szT P e=some (z+1)) (hb:ct P e=some by_) (hz:(aC P e).bind V.cells=some zc) (hzl:zc.length=z+1)
 (fQ:fR P tx (z+1) x A=some (k,new)) (hk:new.length=k*(z+1)) (hn:new.all V.one=true) (hbound:(n+k)*by_<=140737488355328) (dk:n+k<=4611686018427387903):
 ∃v' A',aR P t tx v x A=some (v',A')/\Own N A' v' (n+k) (z+1) (cs++new)/\Fr (iz N) A A':=by
 rw[Ah0 hu hs hb hz hzl fQ hn]
 obtain⟨h1,h0,h2⟩:=h
 by_cases hk0:k=0
 . subst hk0
   have:new=[]:=List.eq_nil_of_length_eq_zero (by rw[hk];simp)
   subst this
   rcases h2 with⟨rfl,hn0⟩ |⟨b,f,base,rfl,h3,h4⟩
   . exact⟨.ah,A,by simp,⟨by simpa using h1,by simpa using h0,.inl ⟨rfl,by simpa using hn0⟩⟩,.refl _ A⟩
   . exact⟨.sl b 0 n (z+1),A,by simp,⟨by simpa using h1,by simpa using h0,.inr ⟨b,f,base,rfl,by simpa using h3,by simpa using h4⟩⟩,.refl _ A⟩
 . rcases h2 with⟨rfl,hn0⟩ |⟨b,f,base,rfl,h3,h4,h5,h6,h7⟩
   . subst hn0
     have hcs:cs=[]:=List.eq_nil_of_length_eq_zero (by rw[h1];simp)
     subst hcs
     refine⟨.sl A.blk.length 0 k (z+1),A.push ⟨new,.arr A.blk.length 0⟩,?_,⟨by simpa using hk,by simpa using hn,.inr ⟨A.blk.length,A.blk.length,0,by simp,by simpa using Ab9 A _,hN,hN,by rw[Ad4];omega,?_⟩⟩,(Fr.aF A new).mono fun _ q=>q.elim⟩
     . simp only[]
       rw[if_neg hk0,if_pos ⟨by simpa using hbound,by omega⟩]
     . intro i kk base' hi hkk
       rw[Ad2]at hi
       split at hi
       . cases hi;simp at hkk;subst hkk;simp
       . have:=hw i kk _ base' hi hkk;omega
   . have mw:A.range b 0 (n*(z+1))=some cs:=by
      unfold AS.range;rw[h3];simp[h1];rw[<- h1,List.take_length]
     have nV:new.length≠0:=by rw[hk];exact Nat.mul_ne_zero hk0 (by omega)
     have lH:∀(i:Nat) kk,A.blk[i]?=some kk->(A.a8 f (base+0+n*(z+1)) (base+0+(n+k)*(z+1)) none).blk[i]?=some kk:=by
      intro i kk hi
      rw[Az9,hi]
      simp only[Option.map_some,Option.some.injEq]
      exact Ai7 fun base' hkk=>by have:=h7 i kk base' hi hkk;rw[h1]at this;omega
     have jb:(A.a8 f (base+0+n*(z+1)) (base+0+(n+k)*(z+1)) none).blk.length=A.blk.length:=by simp[AS.a8]
     generalize hB:A.a8 f (base+0+n*(z+1)) (base+0+(n+k)*(z+1)) none=B at *
     have hBm:B.maps=A.maps/\B.loops=A.loops/\B.its=A.its:=by subst hB;exact⟨rfl,rfl,rfl⟩
     have hinv:∀(i:Nat) kk,B.blk[i]?=some kk->A.blk[i]?=some kk:=by
      intro i kk hi
      have hlt:i<A.blk.length:=by rw[<- jb];exact(LG.1 hi).1
      have:=lH i _ (LH hlt)
      rw[hi]at this;cases this
      exact LH hlt
     have hl:(cs++new).length=(n+k)*(z+1):=by rw[List.length_append,h1,hk,Nat.add_mul]
     refine⟨.sl A.blk.length 0 (n+k) (z+1),B.push ⟨cs++new,.arr f (base+0)⟩,?_,⟨hl,by simp only[List.all_append,h0,hn,Bool.and_self],.inr ⟨A.blk.length,f,base+0,rfl,?_,hN,h5,?_,?_⟩⟩,?_⟩
     . simp only[h3,mw]
       rw[if_neg (by simp),if_neg hk0,if_pos ⟨h0,hbound,dk⟩,hB]
     . rw[<- jb];exact Ab9 B _
     . rw[Ad4,jb];omega
     . intro i kk base' hi hkk
       rw[Ad2]at hi
       split at hi
       . cases hi;simp at hkk;rw[<- hkk];simp
       . have:=h7 i kk base' (hinv i kk hi) hkk
         rw[List.length_append];omega
     . constructor
       . intro i kk hi _
         rw[Ad2,if_neg (by rw[jb];have:=(LG.1 hi).1;omega)]
         exact lH i kk hi
       . intro i kk hi
         refine⟨kk.cells,?_,rfl⟩
         rw[Ad2,if_neg (by rw[jb];have:=(LG.1 hi).1;omega)]
         exact lH i kk hi
       . intro i kk f' base' hi hge hkk
         rw[Ad4,jb]
         rw[Ad2]at hi
         split at hi
         . cases hi;simp at hkk
           rw[<- hkk.1]
           exact⟨by omega,.inr h5⟩
         . have:=(LG.1 (hinv i kk hi)).1;omega
       . intro r mm hr _;show B.maps[r]?=_;rw[hBm.1];exact hr
       . show A.maps.length<=B.maps.length;rw[hBm.1];exact Nat.le_refl _
       . intro r mm hr _;show B.loops[r]?=_;rw[hBm.2.1];exact hr
       . show A.loops.length<=B.loops.length;rw[hBm.2.1];exact Nat.le_refl _
       . intro r mm hr _;show B.its[r]?=_;rw[hBm.2.2];exact hr
       . show A.its.length<=B.its.length;rw[hBm.2.2];exact Nat.le_refl _
theorem Own.slc{τ:Type}{E:Enc τ}{N:Nat}{A:AS}{v:V}{n:Nat}{cs:List V}{m:Hp}{l:List τ}(h:Own N A v n E.sz cs)(hm:m.on A)(hl:l.length=n)(qA:∀b,N<=b->m b=none)
 (hR:∀(i:Nat) x,l[i]?=some x->E.R m ((cs.drop (i*E.sz)).take E.sz) x):∃m',m.le m'/\m'.on A/\(∀b,b<N->m' b=m b)/\Slc E m' v l:=by
 obtain⟨h1,h0,h2⟩:=h
 rcases h2 with⟨rfl,rfl⟩ |⟨b,f,base,rfl,h3,h4,h5⟩
 . exact⟨m,Hp.le_refl m,hm,fun _ _=>rfl,.inl ⟨rfl,List.eq_nil_of_length_eq_zero hl⟩⟩
 . have hle:=Hp.jj (cs:=cs) (qA b h4)
   refine⟨m.put b cs,hle,hm.put h3,fun i hi=>?_,.inr ⟨b,0,cs,by rw[hl],Hp.iT m b cs,by rw[hl];omega,fun i x hx=>?_⟩⟩
   . simp only[Hp.put];rw[if_neg (by omega)]
   . rw[Nat.zero_add];exact E.mono hle (hR i x hx)
end Go.Sv
namespace Go.Sv
open Go
section
variable {P:Program} {H:Hints}
theorem AY5{o:Oper}{e:Env}{A:AS}{K K':V->AS->Prop}(h:wpOp P H o e A K)(hk:∀v A,K v A->K' v A):wpOp P H o e A K':=by
 unfold wpOp at h ⊢
 split
 . rename_i q
   rw[if_pos q]at h
   split at h<;>first |exact hk _ _ h |exact h.elim
 . rename_i q
   rw[if_neg q]at h
   split at h
   . split at h
     . split at h
       . obtain⟨v,A',h1,h2⟩:=h;exact⟨v,A',h1,hk _ _ h2⟩
       . obtain⟨v,A',h1,h2⟩:=h;exact⟨v,A',h1,hk _ _ h2⟩
       . exact h.elim
     . exact h.elim
   . split at h
     . exact hk _ _ h
     . exact h.elim
theorem A90{nt:Nat}{ops:Array Oper}{o:Oper}{e:Env}{A:AS}{K K':Env->AS->Prop}(h:wpO P H nt ops o e A K)(hk:∀v A,K v A->K' v A):wpO P H nt ops o e A K':=by
 obtain⟨h1,h2⟩:=h
 refine⟨h1,?_⟩
 split at h2
 . exact AY5 h2 fun v A=>hk _ _
 . split at h2
   . exact h2.elim
   . split at h2
     . split at h2
       . rename_i q;rw[if_pos q];exact AY5 h2 fun v A=>hk _ _
       . rename_i q;rw[if_neg q];exact hk _ _ h2
     . exact hk _ _ h2
     . exact h2.elim
theorem AR7{nt:Nat}{ops:Array Oper}:∀{os:List Oper} {e:Env} {A:AS} {K K':Env->AS->Prop},wpS P H nt ops os e A K->(∀v A,K v A->K' v A)->wpS P H nt ops os e A K'
 |[],e,A,K,K',h,hk=>hk _ _ h
 |o::os,e,A,K,K',h,hk=>A90 h fun v A q=>AR7 q hk
theorem AR8{nt:Nat}{ops:Array Oper}:∀{pl:fS} {e:Env} {A:AS} {K K':Env->AS->Prop},wpP P H nt ops pl e A K->(∀v A,K v A->K' v A)->wpP P H nt ops pl e A K'
 |[],e,A,K,K',h,hk=>hk _ _ h
 | (i,rc)::pl,e,A,K,K',h,hk=>by
  unfold wpP at h ⊢
  split at h
  . exact h.elim
  . exact A90 h fun v A q=>⟨q.1,AR8 q.2 hk⟩
theorem AR9{f:FuncId}{nt:Nat}:∀{c:Code} {e:Env} {A:AS} {Q Q':Ex->Env->AS->Prop},wpC P H f nt c e A Q->(∀x e A,Q x e A->Q' x e A)->wpC P H f nt c e A Q':=by
 intro c
 induction c with
 |skip=>intro e A Q Q' h hq;exact hq _ _ _ h
 |label l=>intro e A Q Q' h hq;exact hq _ _ _ h
 |region id ops draw =>
  intro e A Q Q' h hq
  unfold wpC at h ⊢
  split
  . rename_i q;rw[if_pos q]at h;exact AR8 h fun _ _=>hq _ _ _
  . rename_i q;rw[if_neg q]at h;exact AR7 h fun _ _=>hq _ _ _
 |seq a b iha ihb =>
  intro e A Q Q' h hq
  unfold wpC at h ⊢
  refine iha h fun x e A z=>?_
  cases x with
  |normal=>exact ihb z hq
  |exit id=>exact hq _ _ _ z
  |ret=>exact hq _ _ _ z
 |cond c a b iha ihb =>
  intro e A Q Q' h hq
  obtain⟨t,h1,h2,h3⟩:=h
  exact⟨t,h1,fun q=>iha (h2 q) hq,fun q=>ihb (h3 q) hq⟩
 |block id a ih=>intro e A Q Q' h hq;exact ih (Q:=fun x e A=>Q (if x=.exit id then .normal else x) e A) h fun _ _ _=>hq _ _ _
 |loop a ih=>intro e A Q Q' h hq;exact WC.mono h hq
 |scope a ih=>intro e A Q Q' h hq;exact ih (Q:=Q) h hq
 |exit id=>intro e A Q Q' h hq;exact hq _ _ _ h
 |ret=>intro e A Q Q' h hq;exact hq _ _ _ h
 |rangeFunc g ps a b iha ihb=>intro e A Q Q' h hq;exact WC.mono h hq
 |goto l=>intro e A Q Q' h hq;exact WC.mono h hq
 |refuse s=>intro e A Q Q' h hq;exact WC.mono h hq
theorem Ad7{f:FuncId}{nt:Nat}{c:Code}{e:Env}{A:AS}{Q Q':Ex->Env->AS->Prop}(h:Run P H f nt [.code c] .normal e A Q)(hq:∀x e A,Q x e A->Q' x e A):Run P H f nt [.code c] .normal e A Q' :=
 AR9 (Q:=Q) (Q':=Q') h hq
end
def pL{τ:Type}(P:Program)(H:Hints)(h:FuncId)(first cap:List V)(A0:AS)(S:Loc->Prop)(AR:AS->List V->τ->Prop)(xs:List τ):Prop :=
 ∀(l:Nat) (J D:Nat->AS->Prop),(∀i A A',J i A->Fr S0 A A'->J i A')->(∀i A A',D i A->Fr S0 A A'->D i A') ->
  (∀i x A args,xs[i]?=some x->J i A->Fr S A0 A->AR A args x->∃b A',EvY P H l args A (.bool b) A'/\Fr S A A'/\(b=true->J (i+1) A')/\(b=false->D i A')) ->
  J 0 A0->∃v A',EvF P H h (first++[.yield l]++cap) A0 v A'/\Fr S A0 A'/\(J xs.length A'∨∃i,i<xs.length/\D i A')
def bS(S:Loc->Prop)(l:Nat):Loc->Prop:=fun x=>S x∨x=.loop l
section
variable {P:Program} {H:Hints} {f:FuncId} {nt:Nat} {k:List Kt} {e:Env} {A:AS} {Q:Ex->Env->AS->Prop}
theorem Bx6{τ:Type}{g:Operand}{ps:Array Tmp}{as bd:Code}{h:FuncId}{first cap:List V}{S:Loc->Prop}{AR:AS->List V->τ->Prop}{xs:List τ}{fn:Func}
 (I:Nat->AS->Prop) (D:Ex->Nat->AS->Prop)
 (hg:e.eval g=some (.fn h first cap)) (hl:¬S (.loop A.loops.length))
 (hgo:∀A0,Fr S0 A A0->pL P H h first cap A0 (bS S A.loops.length) AR xs) (hI:I 0 A)
 (hIs:∀i A1 A',I i A1->Fr (·=.loop A.loops.length) A1 A'->I i A')
 (hDs:∀x i A1 A',D x i A1->Fr (·=.loop A.loops.length) A1 A'->D x i A')
 (hf:P.funcs[f]?=some fn) (hnt:fn.ntmps=nt) (hps:ps.toList.all (fun p=>decide (p<nt))=true)
 (gY:∀i x A1 args,xs[i]?=some x->I i A1->Fr (bS S A.loops.length) A A1->AR A1 args x->∃e0,ca e ps.toList args=some e0 /\
  Run P H f nt [.code as] .normal e0 A1 fun x e1 A1'=>x=.normal/\Fr S A1 A1'/\∀A1b,Fr (·=.loop A.loops.length) A1' A1b ->
   Run P H f nt [.code bd] .normal e1 A1b fun x e2 A2=>Fr S A1b A2/\match x with
    |.normal=>I (i+1) A2
    |x=>D x i A2)
 (ga:∀A2,I xs.length A2->Fr S A A2->Run P H f nt k .normal e A2 Q)
 (sr:∀x i A2,i<xs.length->x≠.normal->D x i A2->Fr S A A2->Run P H f nt k x e A2 Q):Run P H f nt (.code (.rangeFunc g ps as bd)::k) .normal e A Q:=by
 subst hnt
 generalize hlen:A.loops.length=l at *
 let R:ez:=⟨.ready,none,f,e,ps.toList,as,bd⟩
 have hA0:Fr S0 A (A.aS R):=Fr.aS A R
 have lJ:(A.aS R).loops[l]?=some R:=by rw[<- hlen];exact Ar8 A R
 have one:∀{B C:AS},Fr S0 B C->Fr (·=.loop l) B C:=fun q=>q.mono fun _ z=>z.elim
 have eN:∀{B C:AS} {r:ez},B.loops[l]?=some r->Fr S B C->C.loops[l]?=some r:=fun q z=>z.loop l _ q hl
 obtain⟨v,A2,h1,h2,h3⟩:=hgo (A.aS R) hA0 l (fun i B=>I i B/\B.loops[l]?=some R) (fun i B=>∃(x:Ex) (c:Code),x≠.normal/\bX x=some c/\D x i B/\B.loops[l]?=some { R with state:=.done,pending:=some c })
  (fun i B C q z=>⟨hIs i B C q.1 (one z),z.loop l _ q.2 fun w=>w⟩) (fun i B C ⟨x,c,q0,q1,q2,q3⟩ z=>⟨x,c,q0,q1,hDs x i B C q2 (one z),z.loop l _ q3 fun w=>w⟩)
  (fun i x B args hx hJ hF hAR=>by
   obtain⟨e0,q1,q2⟩:=gY i x B args hx hJ.1 (hA0.jL hF) hAR
   obtain⟨v,C,y1,b,y2,y3,y4,y5⟩:=AR5 (P:=P) (H:=H) (A:=B) (l:=l) (args:=args) (fn:=fn) (e0:=e0) (r:=R)
    (Q:=fun v C=>∃b,v=.bool b/\Fr (bS S l) B C/\(b=true->I (i+1) C/\C.loops[l]?=some R) /\
     (b=false->∃(x:Ex) (c:Code),x≠.normal/\bX x=some c/\D x i C/\C.loops[l]?=some { R with state:=.done,pending:=some c })) hJ.2 hf q1 hps
    (Ad7 q2 fun y e1 B1 ⟨z1,z2,z3⟩=>by
     refine⟨z1,R,eN hJ.2 z2,rfl,Ad7 (z3 _ (Fr.ay B1 l _)) fun y e2 B2 ⟨w1,w2⟩=>?_⟩
     have g1:=Ae0 (r':={ R with state:=.busy }) (eN hJ.2 z2)
     have g2:=eN g1 w1
     have fr:Fr (bS S l) B (B2.ay l { R with state:=if (bX y).isNone then .ready else .done,pending:=bX y }):=
      (((z2.mono fun _ q=>.inl q).trans (Fr.ay B1 l _) fun _ q=>.inl (.inr q)).trans w1 fun _ q=>.inl (.inl q)).trans (Fr.ay B2 l _) fun _ q=>.inl (.inr q)
     refine⟨_,g2,_,rfl,fr,fun hb=>?_,fun hb=>?_⟩
     . cases y with
       |normal=>exact⟨hIs _ _ _ w2 (Fr.ay B2 l _),Ae0 g2⟩
       |exit id=>simp[bX]at hb
       |ret=>simp[bX]at hb
     . cases y with
       |normal=>simp[bX]at hb
       |exit id=>exact⟨.exit id,_,by simp,rfl,hDs _ _ _ _ w2 (Fr.ay B2 l _),Ae0 g2⟩
       |ret=>exact⟨.ret,_,by simp,rfl,hDs _ _ _ _ w2 (Fr.ay B2 l _),Ae0 g2⟩)
   subst y2
   exact⟨b,C,y1,y3,y4,y5⟩) ⟨hIs _ _ _ hI (one hA0),lJ⟩
 have fH:∀r,Fr S A (A2.ay l r):=fun r =>
  (((hA0.mono fun _ q=>q.elim:Fr S A _).trans h2 fun x q=>q.elim .inl fun w=>.inr (by subst w;simp only[Loc.dK];omega))).trans (Fr.ay A2 l r) fun x w=>.inr (by subst w;simp only[Loc.dK];omega)
 rcases h3 with⟨h3,h4⟩ |⟨i,hi,x,c,hx,hj,h3,h4⟩
 . refine Ao6 (v:=v) (A2:=A2) (r:=R) hg (by rw[hlen];exact h1) (by rw[hlen];exact h4) (by simp[R]) ?_
   show Run P H f fn.ntmps k .normal e _ Q
   rw[hlen]
   exact ga _ (hIs _ _ _ h3 (Fr.ay A2 l _)) (fH _)
 . refine Ao6 (v:=v) (A2:=A2) (r:={ R with state:=.done,pending:=some c }) hg (by rw[hlen];exact h1) (by rw[hlen];exact h4) (by simp[R]) ?_
   rw[hlen]
   have fin:=sr x i _ hi hx (hDs _ _ _ _ h3 (Fr.ay A2 l { R with state:=.exhausted,pending:=some c })) (fH _)
   cases x with
   |normal=>exact absurd rfl hx
   |exit id=>simp[bX]at hj;subst hj;exact fin
   |ret=>simp[bX]at hj;subst hj;exact fin
end
end Go.Sv
namespace Go.Sv
open Go
def iX(A:AS):Hp:=fun b=>match A.blk[b]? with
 |some ⟨cs,.ro⟩=>some cs
 | _=>none
theorem Bn6(A:AS):(iX A).on A:=by
 intro b cs h
 unfold iX at h
 split at h
 . rename_i c hb;cases h;exact⟨.ro,hb⟩
 . simp at h
def Reads{τ:Type}(E:Enc τ)(s:Sh)(ψ:τ->Prop)(μ:τ->Nat):Prop :=
 ∀(A:AS) (d:Dat) (cs:List V),eS A s d cs->∃x,E.R (iX A) cs x/\ψ x/\μ x<=d.eL
theorem Reads.u8:Reads eU8 (.int .u8) (fun _=>True) (fun _=>1):=by
 intro A d cs h
 cases h with
 |int k n h =>
  have h':0<=n/\n<=255:=by simpa[IntKind.min,IntKind.max,IntKind.signed,IntKind.bits] using h
  obtain⟨m,rfl⟩:=Int.eq_ofNat_of_zero_le h'.1
  refine⟨UInt8.ofNat m,?_,trivial,by simp[Dat.eL]⟩
  show [V.int .u8 m]=[.int .u8 (UInt8.ofNat m).toNat]
  rw[UInt8.toNat_ofNat']
  have:m%256=m:=Nat.mod_eq_of_lt (by omega)
  simp[this]
def IntIn(k:IntKind)(n:Int):Prop:=k.min<=n/\n<=k.max
theorem Reads.int(k:IntKind):Reads (eInt k) (.int k) (IntIn k) (fun _=>1):=by
 intro A d cs h
 cases h with
 |int k n h=>exact⟨n,rfl,h,by simp[Dat.eL]⟩
def dB{τ:Type}(μ:τ->Nat):List τ->Nat
 |[]=>0
 |x::l=>μ x+dB μ l
theorem Av0{α β:Type}{R:Nat->α->β->Prop}:∀(l:List α) (b:Nat),(∀(i:Nat) a,l[i]?=some a->∃y,R (b+i) a y)->∃r:List β,r.length=l.length/\∀(i:Nat) a y,l[i]?=some a->r[i]?=some y->R (b+i) a y
 |[],b,h=>⟨[],rfl,fun i a y q=>by simp at q⟩
 |a::l,b,h=>by
  obtain⟨y,hy⟩:=h 0 a rfl
  obtain⟨r,h1,h2⟩:=Av0 (R:=R) l (b+1) fun i x q=>by
   obtain⟨z,hz⟩:=h (i+1) x (by simpa using q)
   exact⟨z,by rw[show b+1+i=b+(i+1) by omega];exact hz⟩
  refine⟨y::r,by simp[h1],fun i x z q w=>?_⟩
  cases i with
  |zero=>simp at q w;subst q;subst w;exact hy
  |succ i=>simp at q w;have:=h2 i x z q w;rw[show b+1+i=b+(i+1) by omega]at this;exact this
theorem Reads.sl{τ:Type}{E:Enc τ}{s:Sh}{ψ:τ->Prop}{μ:τ->Nat}(h:Reads E s ψ μ):Reads (eSl E) (.sl s E.sz) (fun l=>l.length<=maxLen/\∀x∈l,ψ x) (fun l=>dB μ l+1):=by
 intro A d cs hd
 cases hd with
 |nil e sz=>exact⟨[],⟨.ah,rfl,.inl ⟨rfl,rfl⟩⟩,⟨by simp,by simp⟩,by simp[dB,Dat.eL]⟩
 | @sl e sz b l cells hb hl hm hh =>
  obtain⟨r,h1,h2⟩:=Av0 (R:=fun i (d:Dat) x=>E.R (iX A) ((cells.drop (i*E.sz)).take E.sz) x/\ψ x/\μ x<=d.eL) l 0 fun i d q=>by
   rw[Nat.zero_add];exact h A d _ (hh i d q)
  simp only[Nat.zero_add]at h2
  have h3:∀(i:Nat) x,r[i]?=some x->∃d,l[i]?=some d/\E.R (iX A) ((cells.drop (i*E.sz)).take E.sz) x/\ψ x/\μ x<=d.eL:=by
   intro i x hx
   have hi:=(LG.1 hx).1
   rw[h1]at hi
   exact⟨l[i],LH hi,h2 i _ x (LH hi) hx⟩
  refine⟨r,⟨_,rfl,.inr ⟨b,0,cells,by rw[h1],?_,by rw[h1];omega,fun i x hx=>?_⟩⟩,⟨by rw[h1];exact hm,fun x hx=>?_⟩,?_⟩
  . unfold iX;rw[hb]
  . rw[Nat.zero_add];exact(h3 i x hx).choose_spec.2.1
  . obtain⟨i,hi⟩:=List.mem_iff_getElem?.1 hx
    exact(h3 i x hi).choose_spec.2.2.1
  . have key:∀(l:List Dat) (r:List τ),r.length=l.length->(∀(i:Nat) x,r[i]?=some x->∃d,l[i]?=some d/\μ x<=d.eL)->dB μ r<=eJ l:=by
     intro l
     induction l with
     |nil=>intro r hr _;rw[List.eq_nil_of_length_eq_zero hr];simp[dB,eJ]
     |cons d l ih =>
      intro r hr hh
      cases r with
      |nil=>simp at hr
      |cons x r =>
       obtain⟨d',q1,q2⟩:=hh 0 x rfl
       simp at q1;subst q1
       have:=ih r (by simpa using hr) fun i y q=>by simpa using hh (i+1) y (by simpa using q)
       simp only[dB,eJ];omega
    have:=key l r h1 fun i x hx=>let ⟨d,q1,_,_,q2⟩:=h3 i x hx;⟨d,q1,q2⟩
    simp only[Dat.eL];omega
theorem Ae9{τ:Type}{μ:τ->Nat}(h:∀x,1<=μ x):∀l:List τ,l.length<=dB μ l
 |[]=>by simp[dB]
 |x::l=>by have:=Ae9 h l;have:=h x;simp only[dB,List.length_cons];omega
theorem WF.start{A:AS}(h:Start A):WF A:=by
 intro b k f base hb hk
 rw[h.ro b k hb]at hk;simp at hk
end Go.Sv
namespace Go.Sv
open Go
section
variable {P:Program} {dst:Option Tmp} {ty:TypeId} {pos:String} {after:Array Edge} {g:Option (Nat×Bool)} {e:Env} {A:AS} {x y z:Operand} {t s d:TypeId}
def bsl(P:Program)(t:TypeId)(n:Nat)(l:Option (List (Nat×V))):Option QR :=
 match P.underlying t with
 |some (.slice et)=>match szT P et,(aC P et).bind V.cells,l with
  |some (s+1),some z,some l=>if z.length=s+1/\n*(s+1)<=16777216 then
   (eP (fun i=>some (i*(s+1),s+1)) (du z n) l).map fun cs=>.aB cs n (s+1)
   else none
  | _,_,_=>none
 | _=>none
def msl(P:Program)(t:TypeId)(l c:Option V):Option QR :=
 match P.underlying t,l,c with
 |some (.slice et),some (.int _ n),some (.int _ m) =>
  match szT P et,ct P et,(aC P et).bind V.cells with
  |some (s+1),some by_,some z =>
   if z.length=s+1/\0<=n/\n=m/\n<=9223372036854775807/\by_*n<=281474976710656 then some (.aB (du z n.toNat) n.toNat (s+1))else none
  | _,_,_=>none
 | _,_,_=>none
def oq(c:Option (List V)):Option QR:=match c with
 |some cs=>some (.cu cs)
 |none=>none
def cnv(P:Program)(s d:TypeId)(x:Option V)(A:AS):Option QR :=
 if s=d then(x.bind fun a=>ic P s d a A).map .val else
 match x with
 |some (.str b)=>match P.underlying s,P.underlying d with
  |some .string,some (.slice et)=>match P.underlying et with
   |some (.int .u8)=>some (.aB (b.map fun u=>.int .u8 u.toNat) b.length 1)
   | _=>none
  | _,_=>(aU P s d (.str b) A).map .val
 |some a=>(aU P s d a A).map .val
 |none=>none
def pck(e:Env)(c:Option V)(a b:Operand):Option V:=match c with
 |some (.bool true)=>e.eval a
 |some (.bool false)=>e.eval b
 | _=>none
def mkf(f:FuncId)(a c:Option (List V)):Option QR:=match a,c with
 |some a,some c=>some (.val (.fn f a c))
 | _,_=>none
def slq(P:Program)(t:TypeId)(x:Option V)(lo hi mx:Option (Option V))(A:AS):Option QR:=match x,lo,hi,mx with
 |some a,some l,some h,some m=>(aE P t a l h m A).map .val
 | _,_,_,_=>none
def mkm(P:Program)(t:TypeId)(r:Option (Option V)):Option QR:=match ia P t,r with
 |some _,some none=>some .cq
 |some _,some (some (.int _ _))=>some .cq
 | _,_=>none
def qC(i:Nat):V->Option V
 |.tup vs=>vs[i]?
 | _=>none
theorem B79:evQ P ⟨dst,.move x,ty,pos,after,g⟩ e A=(e.eval x).map .val:=by show((e.eval x).bind some).map QR.val=_;cases e.eval x<;>rfl
theorem Bx7:evQ P ⟨dst,.assign x,ty,pos,after,g⟩ e A=(e.eval x).map .val:=by show((e.eval x).bind some).map QR.val=_;cases e.eval x<;>rfl
theorem B80:evQ P ⟨dst,.pick x y z,ty,pos,after,g⟩ e A=(pck e (e.eval x) y z).map .val:=by
 show(match e.eval x with
  |some (.bool true)=>((e.eval y).bind some).map QR.val
  |some (.bool false)=>((e.eval z).bind some).map QR.val
  | _=>none)=_
 unfold pck
 split<;>simp
theorem BM9:evQ P ⟨dst,.alloc t,ty,pos,after,g⟩ e A=oq ((aC P t).bind V.cells):=rfl
theorem Co4:evQ P ⟨dst,.box t x,ty,pos,after,g⟩ e A=oq ((e.eval x).bind V.cells):=rfl
theorem BN0{ps:Array (Nat×Operand)}:evQ P ⟨dst,.build t ps,ty,pos,after,g⟩ e A=((a5 e ps.toList).bind fun l=>au P t l).map .val:=rfl
theorem Co5{n:Nat}{ps:Array (Nat×Operand)}:evQ P ⟨dst,.buildSlice t n ps,ty,pos,after,g⟩ e A=bsl P t n (a5 e ps.toList):=rfl
theorem Bn7:evQ P ⟨dst,.load t x,ty,pos,after,g⟩ e A=((e.eval x).bind fun a=>aa P t a A).map .val:=rfl
theorem Co6:evQ P ⟨dst,.nilCheck x,ty,pos,after,g⟩ e A=((e.eval x).bind dE).map .val:=rfl
theorem Co7{op:BinOp}{t2:TypeId}:evQ P ⟨dst,.binOp op t x y t2,ty,pos,after,g⟩ e A=((e.eval x).bind fun a=>(e.eval y).bind fun b=>aw P op t a b).map .val:=rfl
theorem CC1{op:UnOp}:evQ P ⟨dst,.unOp op t x,ty,pos,after,g⟩ e A=((e.eval x).bind fun a=>lg op a).map .val:=rfl
theorem B81:evQ P ⟨dst,.convert s d x,ty,pos,after,g⟩ e A=cnv P s d (e.eval x) A:=rfl
theorem B82:evQ P ⟨dst,.sliceToArrayPointer t x,ty,pos,after,g⟩ e A=((e.eval x).bind fun a=>jS P t a).map .val:=rfl
theorem B83{f:FuncId}{a c:Array Operand}:evQ P ⟨dst,.makeFunc (.func f) a c,ty,pos,after,g⟩ e A=mkf f (aD e a.toList) (aD e c.toList):=rfl
theorem Co8{r:Option Operand}:evQ P ⟨dst,.makeMap t r,ty,pos,after,g⟩ e A=mkm P t (bR e r):=rfl
theorem Co9:evQ P ⟨dst,.makeSlice t x y,ty,pos,after,g⟩ e A=msl P t (e.eval x) (e.eval y):=rfl
theorem BN1{lo hi mx:Option Operand}:evQ P ⟨dst,.slice t x lo hi mx,ty,pos,after,g⟩ e A=slq P t (e.eval x) (bR e lo) (bR e hi) (bR e mx) A:=rfl
theorem A45{i:Nat}:evQ P ⟨dst,.fieldAddr t x i,ty,pos,after,g⟩ e A=((e.eval x).bind fun a=>ae P t a i).map .val:=rfl
theorem BN2{i:Nat}:evQ P ⟨dst,.field t x i,ty,pos,after,g⟩ e A=((e.eval x).bind fun a=>gM P t a i).map .val:=rfl
theorem A46:evQ P ⟨dst,.indexAddr t x y,ty,pos,after,g⟩ e A=((e.eval x).bind fun a=>(e.eval y).bind fun b=>aj P t a b).map .val:=rfl
theorem BN3:evQ P ⟨dst,.index t x y,ty,pos,after,g⟩ e A=((e.eval x).bind fun a=>(e.eval y).bind fun b=>dU P t a b).map .val:=rfl
theorem Bx8{ok:Bool}:evQ P ⟨dst,.lookup t x y ok,ty,pos,after,g⟩ e A=((e.eval x).bind fun a=>(e.eval y).bind fun b=>cL P t a b ok A).map .val:=rfl
theorem Bn8{i:Nat}:evQ P ⟨dst,.extract x i,ty,pos,after,g⟩ e A=((e.eval x).bind (qC i)).map .val:=by
 show((e.eval x).bind _).map QR.val=_
 congr 2
theorem Cp0:evQ P ⟨dst,.call ⟨.builtin .len,#[x],#[t]⟩,ty,pos,after,g⟩ e A=((e.eval x).bind fun a=>dr P t a A).map .val:=rfl
theorem Cp1{a:Array Operand}{ts:Array TypeId}:evQ P ⟨dst,.call ⟨.builtin .max,a,ts⟩,ty,pos,after,g⟩ e A=((aD e a.toList).bind (iU fun x y=>if y>x then y else x)).map .val:=rfl
theorem Cp2{a:Array Operand}{ts:Array TypeId}:evQ P ⟨dst,.call ⟨.builtin .min,a,ts⟩,ty,pos,after,g⟩ e A=((aD e a.toList).bind (iU fun x y=>if y<x then y else x)).map .val:=rfl
variable {C:Calls}
def u1(x:Option AS):Option (V×AS):=x.map fun A'=>(.tup [],A')
def on3{α:Type}(a b c:Option V)(f:V->V->V->Option α):Option α:=a.bind fun a=>b.bind fun b=>c.bind fun c=>f a b c
theorem BN4:evE P C ⟨dst,.store t x y,ty,pos,after,g⟩ e A=u1 ((e.eval x).bind fun p=>(e.eval y).bind fun v=>ag P t p v A):=by
 show(match e.eval x,e.eval y with |some p,some v=>(ag P t p v A).map _ | _,_=>none)=_
 cases e.eval x<;>cases e.eval y<;>rfl
theorem Bx9:evE P C ⟨dst,.mapUpdate t x y z,ty,pos,after,g⟩ e A=u1 (on3 (e.eval x) (e.eval y) (e.eval z) fun m k v=>aZ P t m k v A):=by
 show(match e.eval x,e.eval y,e.eval z with |some m,some k,some v=>(aZ P t m k v A).map _ | _,_,_=>none)=_
 cases e.eval x<;>cases e.eval y<;>cases e.eval z<;>rfl
theorem By0:evE P C ⟨dst,.insert t x y z,ty,pos,after,g⟩ e A=u1 (on3 (e.eval x) (e.eval y) (e.eval z) fun m k v=>aZ P t m k v A):=by
 show(match e.eval x,e.eval y,e.eval z with |some m,some k,some v=>(aZ P t m k v A).map _ | _,_,_=>none)=_
 cases e.eval x<;>cases e.eval y<;>cases e.eval z<;>rfl
theorem Be7:evE P C ⟨dst,.mapEntry t x y,ty,pos,after,g⟩ e A=(e.eval x).bind fun m=>(e.eval y).bind fun k=>dF P t m k A:=by
 show(match e.eval x,e.eval y with |some m,some k=>dF P t m k A | _,_=>none)=_
 cases e.eval x<;>cases e.eval y<;>rfl
theorem AY6:evE P C ⟨dst,.entryStore t x y z,ty,pos,after,g⟩ e A=u1 (on3 (e.eval x) (e.eval y) (e.eval z) fun m s v=>cN m s v A):=by
 show(match e.eval x,e.eval y,e.eval z with |some m,some k,some v=>(cN m k v A).map _ | _,_,_=>none)=_
 cases e.eval x<;>cases e.eval y<;>cases e.eval z<;>rfl
theorem BN5:evE P C ⟨dst,.range t x,ty,pos,after,g⟩ e A=(e.eval x).bind fun x=>fV P t x A:=by
 show(match e.eval x with |some x=>fV P t x A |none=>none)=_
 cases e.eval x<;>rfl
theorem B84:evE P C ⟨dst,.next x false,ty,pos,after,g⟩ e A=(e.eval x).bind fun x=>ie x A:=by
 show(match e.eval x with |some x=>ie x A |none=>none)=_
 cases e.eval x<;>rfl
theorem BN6:evE P C ⟨dst,.entry x,ty,pos,after,g⟩ e A=((e.eval x).bind fun x=>iC x A).map fun v=>(v,A):=by
 show(match e.eval x with |some x=>(iC x A).map fun v=>(v,A) |none=>none)=_
 cases e.eval x<;>rfl
theorem By1{t2:TypeId}:evE P C ⟨dst,.call ⟨.builtin .append,#[x,y],#[t,t2]⟩,ty,pos,after,g⟩ e A=(e.eval x).bind fun a=>(e.eval y).bind fun b=>aR P t t2 a b A:=by
 show(match aD e [x,y] with |none=>none |some args=>_)=_
 simp only[aD]
 cases e.eval x<;>cases e.eval y<;>rfl
theorem B85{t2:TypeId}:evE P C ⟨dst,.call ⟨.builtin .copy,#[x,y],#[t,t2]⟩,ty,pos,after,g⟩ e A=(e.eval x).bind fun a=>(e.eval y).bind fun b=>gH P t a b A:=by
 show(match aD e [x,y] with |none=>none |some args=>_)=_
 simp only[aD]
 cases e.eval x<;>cases e.eval y<;>rfl
theorem By2{t2:TypeId}:evE P C ⟨dst,.call ⟨.builtin .delete,#[x,y],#[t,t2]⟩,ty,pos,after,g⟩ e A=u1 ((e.eval x).bind fun a=>(e.eval y).bind fun b=>fz P t a b A):=by
 show(match aD e [x,y] with |none=>none |some args=>_)=_
 simp only[aD]
 cases e.eval x<;>cases e.eval y<;>rfl
theorem BN7:evE P C ⟨dst,.call ⟨.builtin .clear,#[x],#[t]⟩,ty,pos,after,g⟩ e A=u1 ((e.eval x).bind fun a=>(dH P t a A).or (cZ P t a A)):=by
 show(match aD e [x] with |none=>none |some args=>_)=_
 simp only[aD]
 cases e.eval x<;>rfl
theorem BN8{A':AS}:u1 (some A')=some (.tup [],A'):=rfl
theorem By3{α:Type}{a b c:V}{f:V->V->V->Option α}:on3 (some a) (some b) (some c) f=f a b c:=rfl
theorem Bn9{cs:List V}:oq (some cs)=some (.cu cs):=rfl
theorem By4{f:FuncId}{a c:List V}:mkf f (some a) (some c)=some (.val (.fn f a c)):=rfl
theorem By5{a:V}{l h m:Option V}:slq P t (some a) (some l) (some h) (some m) A=(aE P t a l h m A).map .val:=rfl
theorem Cp3{a b:Operand}:pck e (some (.bool true)) a b=e.eval a:=rfl
theorem Cp4{a b:Operand}:pck e (some (.bool false)) a b=e.eval b:=rfl
theorem Bo0{v:V}(h:s≠d)(hs:∀b,v≠.str b):cnv P s d (some v) A=(aU P s d v A).map .val:=by
 unfold cnv
 rw[if_neg h]
 split
 . rename_i hx;cases hx;exact absurd rfl (hs _)
 . rename_i hx;cases hx;rfl
 . rename_i hx;cases hx
theorem Ah2{m:Hp}{v:V}{l:List UInt8}{el:TypeId}(hne:s≠d)(h:Slc eU8 m v l)(hm:m.on A)(hu:P.underlying s=some (.slice el))(he:P.underlying el=some (.int .u8))(hd:P.underlying d=some .string):
 cnv P s d (some v) A=some (.val (.str l)):=by
 rw[Bo0 hne (fun b q=>by rcases h with⟨rfl,_⟩ |⟨_,_,_,rfl,_⟩<;>simp at q),h.text hm hu he hd];rfl
theorem AI2{l:List UInt8}{el:TypeId}(hne:s≠d)(hu:P.underlying s=some .string)(hd:P.underlying d=some (.slice el))(he:P.underlying el=some (.int .u8)):
 cnv P s d (some (.str l)) A=some (.aB (l.map fun u=>.int .u8 u.toNat) l.length 1):=by
 unfold cnv
 rw[if_neg hne]
 simp only[hu,hd,he]
theorem As0{k k':IntKind}{n:Int}{td:TypeDesc}(hne:s≠d)(hu:P.underlying s=some td)(hd:P.underlying d=some (.int k')):
 cnv P s d (some (.int k n)) A=some (.val (.int k' (k'.wrap n))):=by
 rw[Bo0 hne (fun b q=>by simp at q)]
 unfold aU
 simp only[hu,hd,Option.map_some]
end
section
variable {P:Program} {H:Hints} {f:FuncId} {nt:Nat} {k:List Kt} {e:Env} {A:AS} {Q:Ex->Env->AS->Prop}
theorem AB7{ops:Array Oper}:∀(r:List Oper) (n:Nat) (k:List Kt) (e:Env) (A:AS),ops.toList.drop n=r->Run P H f nt (.ak ops ((List.range' n r.length).map fun i=>(i,[]))::k) .normal e A Q=Run P H f nt (.ops ops r::k) .normal e A Q
 |[],n,k,e,A,_=>rfl
 |o::r,n,k,e,A,h=>by
  have ho:ops[n]?=some o:=by
   rw[<- Array.getElem?_toList]
   have:=congrArg (·[0]?) h
   simpa[List.getElem?_drop] using this
  have hr:ops.toList.drop (n+1)=r:=by
   have:=congrArg List.tail h
   simpa[List.tail_drop] using this
  rw[List.length_cons,List.range'_succ,List.map_cons,A89,Bn5,ho]
  simp only[]
  have key:∀e A,Run P H f nt (.rc ops []::.ak ops ((List.range' (n+1) r.length).map fun i=>(i,[]))::k) .normal e A Q=Run P H f nt (.ops ops r::k) .normal e A Q:=fun e A=>by
   rw[BH9,AB7 r (n+1) k e A hr];simp[recheck]
  unfold lG gA
  unfold a0
  unfold aG j0 cQ jF mu je
  simp only[key]
theorem Aa2{ops:Array Oper}{pl:fS}(h:pl=(List.range' 0 ops.toList.length).map fun i=>(i,[])):Run P H f nt (.ak ops pl::k) .normal e A Q=Run P H f nt (.ops ops ops.toList::k) .normal e A Q:=by
 subst h;exact AB7 _ 0 k e A (by simp)
end
def kP(P:Program)(H:Hints):Bool:=P.follows .mixedOrders && P.funcs.toList.zipIdx.all fun x=>match x.1.body with
 |none=>true
 | some b => codeOk P H x.2 b && !(x.1.name == "runtime.NumGoroutine")
theorem Bo1{P:Program}{H:Hints}(h:kP P H=true)(tab:List (Nat×V))(hg:∀g v,H.ground g=some v->(g,v)∈tab)
 (ht:∀p∈tab,p.2.flat=true/\∃k,∀orc odr,(evFn P { ak:=H.ak } k p.1 [] ⟨[],[],[],[],orc,odr⟩).map (fun r=>(r.1,r.2.orc,r.2.odr))=some (p.2,orc,odr)):fK P H:=by
 simp only[kP,Bool.and_eq_true,List.all_eq_true]at h
 have key : ∀ (g : FuncId) fn body, P.funcs[g]? = some fn -> fn.body = some body -> codeOk P H g body = true /\ (fn.name == "runtime.NumGoroutine") = false := by
  intro g fn body hf hb
  have:=h.2 (fn,g) (by rw[List.mem_iff_getElem?];exact⟨g,by rw[List.getElem?_zipIdx];simp[hf]⟩)
  simp only[hb,Bool.and_eq_true,Bool.not_eq_true']at this
  exact this
 refine⟨h.1,fun g fn body hf hb=>(key g fn body hf hb).1,fun g fn hf hb=>?_,fun g v hv=>ht (g,v) (hg g v hv)⟩
 cases hbb:fn.body with
 |none=>rw[hbb]at hb;simp at hb
 |some body=>exact(key g fn body hf hbb).2
def jG{α:Type}:List (Nat×α)->Nat->Option α
 |[],_=>none
 | (a,v)::r,f=>if a == f then some v else jG r f
theorem AI3{α:Type}:∀{l:List (Nat×α)} {f:Nat} {v:α},jG l f=some v->(f,v)∈l
 | (a,w)::r,f,v,h=>by
  unfold jG at h
  split at h
  . rename_i q;simp at q;cases h;subst q;simp
  . exact List.mem_cons_of_mem _ (AI3 h)
end Go.Sv
namespace Go.Sv
open Go
section
variable {P:Program} {H:Hints} {f:FuncId} {nt:Nat} {k:List Kt} {e:Env} {A:AS} {Q:Ex->Env->AS->Prop}
theorem Aa6{c:Code}(I:Nat->Env->AS->Prop)(J:Ex->Env->AS->Prop)(hI:∃n,I n e A)
 (dA:∀n e A,I n e A->Run P H f nt [.code c] .normal e A fun x e' A'=>match x with
  |.normal=>∃n',n'<n/\I n' e' A'
  |x=>J x e' A')
 (ga:∀x e A,x≠.normal->J x e A->Run P H f nt k x e A Q):Run P H f nt (.code (.loop c)::k) .normal e A Q:=by
 refine Bx5 I hI fun n e A h=>Ad7 (dA n e A h) fun x e' A' q=>?_
 cases x with
 |normal=>exact q
 |exit id=>exact ga _ _ _ (by simp) q
 |ret=>exact ga _ _ _ (by simp) q
def kQ(P:Program)(rs:List ResultVar)(Q:V->AS->Prop):Ex->Env->AS->Prop
 |.normal,e,A | .ret,e,A=>∃vs,aW P e A rs=some vs/\Q (single vs) A
 |.exit _,_,_=>False
theorem Aa4{fn:Func}{body:Code}{args:List V}{Q:V->AS->Prop}{n:Nat}{rs:List ResultVar}(hg:H.ground f=none)(hf:P.funcs[f]?=some fn)(hb:fn.body=some body)(hn:fn.ntmps=n)(hr:fn.results.toList=rs)(hl:args.length<=n)
 (h:Run P H f n [.code body] .normal (eD 0 args) A (kQ P rs Q)):∃v A',EvF P H f args A v A'/\Q v A':=by
 subst hn;subst hr
 refine B76 hg hf hb hl (Ad7 h fun x e A q=>?_)
 cases x<;>exact q
end
theorem Ad5{v:V}(h:v.one=true):v.cells=some [v]:=by cases v<;>simp[V.one]at h<;>rfl
theorem AS0{P:Program}{tx el:TypeId}{b n sz:Nat}{cs:List V}{k:BK}{A:AS}(hu:P.underlying tx=some (.slice el))(hb:A.blk[b]?=some ⟨cs,k⟩)(hl:cs.length=n*sz):fR P tx sz (.sl b 0 n sz) A=some (n,cs):=by
 unfold fR
 simp only[hu,if_true]
 unfold AS.range
 rw[hb]
 simp only[Nat.zero_add,hl,Nat.le_refl,if_true,List.drop_zero]
 rw[<- hl,List.take_length];rfl
theorem A47{P:Program}{tx el:TypeId}{sz:Nat}{A:AS}(hu:P.underlying tx=some (.slice el)):fR P tx sz .ah A=some (0,[]):=by
 unfold fR;simp only[hu]
theorem Bo2{P:Program}{tx el:TypeId}{m:Hp}{v:V}{l:List UInt8}{A:AS}(hu:P.underlying tx=some (.slice el))(h:Slc eU8 m v l)(hm:m.on A):fR P tx 1 v A=some (l.length,l.map fun u=>.int .u8 u.toNat):=by
 rcases h.bytes with⟨rfl,rfl⟩ |⟨b,o,cs,rfl,h2,h3,h4⟩
 . rw[A47 hu];rfl
 . unfold fR
   simp only[hu,if_true,Nat.mul_one]
   rw[hm.range h2 h3,h4];rfl
theorem Fr.pB{S:Loc->Prop}{A B C:AS}(h:Fr S A B)(k:Fr (iz A.blk.length) B C):Fr S A C:=h.trans k fun x q=>.inr (by
 cases x<;>simp only[iz]at q<;>first |exact q |exact q.elim)
theorem Fr.ar{S:Loc->Prop}{A B C:AS}{b:Nat}(h:Fr S A B)(k:Fr (·=.row b) B C)(hb:A.blk.length<=b):Fr S A C:=h.trans k fun x q=>.inr (by subst q;exact hb)
theorem Fr.af{A A':AS}{b:Nat}{k:Blk}(hf:Fr S0 A A')(h:A.blk[b]?=some k):A'.blk[b]?=some k:=hf.row b k h fun q=>q
theorem Fr.aq{A A':AS}{b c:Nat}{k:Blk}(hf:Fr (·=.row c) A A')(h:A.blk[b]?=some k)(hne:b≠c):A'.blk[b]?=some k:=hf.row b k h fun q=>hne (by injection q)
theorem Ab3{A:AS}{b:Nat}{k:Blk}(h:A.blk[b]?=some k):b<A.blk.length:=(LG.1 h).1
theorem Cp5{n:Nat}(h:n<=9223372036854775807):IntKind.i64.wrap (n:Int)=n:=A22 (by omega) (by omega)
theorem Ac2{n:Nat}(h:n<9223372036854775807):IntKind.i64.wrap ((n:Int)+1)=((n+1:Nat):Int):=by rw[A22 (by omega) (by omega)];rfl
theorem As1{P:Program}{t:TypeId}(hu:P.underlying t=some .string)(s:List UInt8)(A:AS):dr P t (.str s) A=some (.int .i64 s.length):=by unfold dr;rw[hu]
theorem Ac7{α:Type}{l:List α}{i:Nat}(h:i<l.length):∃x,l[i]?=some x:=⟨l[i],LH h⟩
structure SlT(P:Program)(t e:TypeId)(sz bt:Nat):Prop where
 u:P.underlying t=some (.slice e)
 s:szT P e=some sz
 b:ct P e=some bt
 z:∃zc,(aC P e).bind V.cells=some zc/\zc.length=sz
 pos:0<sz
theorem SlT.of{P:Program}{t e:TypeId}{sz bt:Nat}(zc:List V)(u:P.underlying t=some (.slice e))(s:szT P e=some sz)(b:ct P e=some bt)(z:(aC P e).bind V.cells=some zc)(l:zc.length=sz)(p:0<sz):SlT P t e sz bt:=⟨u,s,b,⟨zc,z,l⟩,p⟩
theorem Own.app{P:Program}{N:Nat}{A:AS}{v x:V}{t tx e:TypeId}{sz bt:Nat}{n k:Nat}{cs new:List V}(h:Own N A v n sz cs)(hT:SlT P t e sz bt)(hw:WF A)(hN:N<=A.blk.length)
 (fQ:fR P tx sz x A=some (k,new)) (hk:new.length=k*sz) (hn:new.all V.one=true) (hbound:(n+k)*bt<=140737488355328) (dk:n+k<=4611686018427387903):
 ∃v' A',aR P t tx v x A=some (v',A')/\Own N A' v' (n+k) sz (cs++new)/\Fr (iz N) A A':=by
 obtain⟨zc,z1,z2⟩:=hT.z
 obtain⟨z,rfl⟩:∃z,sz=z+1:=⟨sz-1,by have:=hT.pos;omega⟩
 exact h.append hw hN hT.u hT.s hT.b z1 z2 fQ hk hn hbound dk
theorem Own.nC{P:Program}{N:Nat}{A:AS}{v:V}{t tx e:TypeId}{sz bt:Nat}{n k:Nat}{cs new:List V}(h:Own N A v n sz cs)(hT:SlT P t e sz bt)(hT2:P.underlying tx=some (.slice e))(hw:WF A)(hN:N<=A.blk.length)
 (hk:new.length=k*sz) (hn:new.all V.one=true) (hbound:(n+k)*bt<=140737488355328) (dk:n+k<=4611686018427387903):
 ∃v' A',aR P t tx v (.sl A.blk.length 0 k sz) (A.push ⟨new,.arr A.blk.length 0⟩)=some (v',A')/\Own N A' v' (n+k) sz (cs++new)/\Fr (iz N) A A':=by
 have q1:=Fr.aF A new
 have q2:=Ab9 A ⟨new,.arr A.blk.length 0⟩
 obtain⟨v',A',p1,p2,p3⟩:=(h.fr0 q1).app (tx:=tx) hT (q1.wf hw) (by have:=q1.len;omega) (AS0 hT2 q2 hk) hk hn hbound dk
 exact⟨v',A',p1,p2,q1.jL p3⟩
def Is{α:Type}(a b:α):Prop:=a=b
theorem Is.da{α:Type}(a:α):Is a a:=rfl
theorem BN9{b:Bool}:V.cells (.bool b)=some [.bool b]:=rfl
theorem B86{k:IntKind}{n:Int}:V.cells (.int k n)=some [.int k n]:=rfl
theorem B87{s:List UInt8}:V.cells (.str s)=some [.str s]:=rfl
theorem BO0:V.cells .eg=some [.eg]:=rfl
theorem B88{b o:Nat}:V.cells (.ptr b o)=some [.ptr b o]:=rfl
theorem BO1:V.cells .ah=some [.ah]:=rfl
theorem Cp6{b o n z:Nat}:V.cells (.sl b o n z)=some [.sl b o n z]:=rfl
theorem BO2:V.cells .gm=some [.gm]:=rfl
theorem B89{r:Nat}:V.cells (.map r)=some [.map r]:=rfl
theorem BO3:V.cells .iP=some [.iP]:=rfl
theorem Cp7{f:FuncId}{a c:List V}:V.cells (.fn f a c)=some [.fn f a c]:=rfl
theorem By6{l:Nat}:V.cells (.yield l)=some [.yield l]:=rfl
theorem B90{cs:List V}:V.cells (.agg cs)=some cs:=rfl
theorem Fr.bK{A A':AS}{l b:Nat}{k:Blk}(hf:Fr (·=.loop l) A A')(h:A.blk[b]?=some k):A'.blk[b]?=some k:=hf.row b k h fun q=>by cases q
theorem Ab2{P:Program}{A:AS}{b:Nat}{cs:List V}{k:BK}{t:TypeId}(h:aH P t=some false)(hb:A.blk[b]?=some ⟨cs,k⟩)(o:Nat):aa P t (.ptr b o) A=cs[o]?:=by
 rw[Ae3 h,Ah8 hb]
section
variable {P:Program} {H:Hints} {f:FuncId} {nt:Nat} {k:List Kt} {e:Env} {A:AS} {Q:Ex->Env->AS->Prop}
theorem Be8{τ:Type}{g:Operand}{ps:Array Tmp}{as bd:Code}{id:Nat}{h:FuncId}{first cap:List V}{S:Loc->Prop}{AR:AS->List V->τ->Prop}{xs:List τ}{fn:Func}
 (I:Nat->AS->Prop) (K:AS->Prop)
 (hg:e.eval g=some (.fn h first cap)) (hl:¬S (.loop A.loops.length))
 (hgo:∀A0,Fr S0 A A0->pL P H h first cap A0 (bS S A.loops.length) AR xs) (hI:I 0 A)
 (hIs:∀i A1 A',I i A1->Fr (·=.loop A.loops.length) A1 A'->I i A')
 (hKs:∀A1 A',K A1->Fr (·=.loop A.loops.length) A1 A'->K A')
 (hf:P.funcs[f]?=some fn) (hnt:fn.ntmps=nt) (hps:ps.toList.all (fun p=>decide (p<nt))=true)
 (gY:∀i x A1 args,xs[i]?=some x->I i A1->Fr (bS S A.loops.length) A A1->AR A1 args x->∃e0,ca e ps.toList args=some e0 /\
  Run P H f nt [.code as] .normal e0 A1 fun x e1 A1'=>Is x .normal/\Fr S A1 A1'/\∀A1b,Fr (·=.loop A.loops.length) A1' A1b ->
   Run P H f nt [.code bd] .normal e1 A1b fun x e2 A2=>Fr S A1b A2/\((Is x .normal/\I (i+1) A2)∨(Is x (.exit id)/\K A2)))
 (hIK:∀A2,I xs.length A2->K A2)
 (ga:∀A2,K A2->Fr S A A2->Run P H f nt k .normal e A2 Q):Run P H f nt (.code (.rangeFunc g ps as bd)::.blk id::k) .normal e A Q:=by
 refine Bx6 I (fun x _ A2=>x=.exit id/\K A2) hg hl hgo hI hIs (fun x i A1 A' q z=>⟨q.1,hKs _ _ q.2 z⟩) hf hnt hps ?_ ?_ ?_
 . intro i x A1 args h1 h2 h3 h4
   obtain⟨e0,q1,q2⟩:=gY i x A1 args h1 h2 h3 h4
   refine⟨e0,q1,Ad7 q2 fun x e1 A1' ⟨z1,z2,z3⟩=>⟨z1,z2,fun A1b z4=>Ad7 (z3 A1b z4) fun x e2 A2 ⟨w1,w2⟩=>⟨w1,?_⟩⟩⟩
   rcases w2 with⟨rfl,w2⟩ |⟨rfl,w2⟩
   . exact w2
   . exact⟨rfl,w2⟩
 . intro A2 h1 h2
   exact ga A2 (hIK A2 h1) h2
 . rintro x i A2 _ _ ⟨rfl,h1⟩ h2
   have:=ga A2 h1 h2
   rw[Ar7,if_pos rfl];exact this
end
end Go.Sv
