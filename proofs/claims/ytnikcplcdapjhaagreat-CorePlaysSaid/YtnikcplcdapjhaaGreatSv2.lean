/- Ranging bL maps. -/
import Derived.Test.YtnikcplcdapjhaaGreatSv1
import Derived.Laws.Cover3
import Derived.Laws.BytesArg
import Derived.Orders
set_option linter.unnecessarySimpa false
set_option linter.unusedSimpArgs false
set_option linter.unusedVariables false
namespace Go.Sv
open Go
theorem MER.nil(ρ:Rho):MER ρ [] []:=⟨rfl,fun _ _ _ a _=>by simp at a⟩
theorem MER.cons_inv{ρ:Rho}{e:ME}{l:List ME}{l':List MapEntry}(h:MER ρ (e::l) l'):∃e' r',l'=e'::r'/\(VR ρ e.key e'.key/\VR ρ e.val e'.val/\e'.born=e.born)/\MER ρ l r':=by
 cases l' with
 |nil=>have:=h.len;simp at this
 |cons e' r'=>exact⟨e',r',rfl,h.at_ 0 e e' rfl rfl,⟨by have:=h.len;simpa using this,fun i x x' a b=>h.at_ (i+1) x x' (by simpa using a) (by simpa using b)⟩⟩
theorem MER.cons{ρ:Rho}{e:ME}{e':MapEntry}{l:List ME}{l':List MapEntry}(he:VR ρ e.key e'.key/\VR ρ e.val e'.val/\e'.born=e.born)(h:MER ρ l l'):MER ρ (e::l) (e'::l'):=
 ⟨by simp[h.len],fun i x x' a b=>by
  cases i with
  |zero=>simp at a b;subst a;subst b;exact he
  |succ i=>simp at a b;exact h.at_ i x x' a b⟩
theorem MER.filter{ρ:Rho}(p:Nat->Bool):∀{l:List ME} {l':List MapEntry},MER ρ l l'->MER ρ (l.filter fun e=>p e.born) (l'.filter fun e=>p e.born)
 |[],l',h=>by
  have:l'=[]:=List.length_eq_zero_iff.1 (by have:=h.len;simpa using this.symm)
  subst this;exact .nil ρ
 |e::l,l',h=>by
  obtain⟨e',r',rfl,h1,h2⟩:=h.cons_inv
  have ih:=MER.filter p h2
  simp only[List.filter_cons,h1.2.2]
  split
  . exact .cons h1 ih
  . exact ih
theorem MER.append{ρ:Rho}:∀{a b:List ME} {a' b':List MapEntry},MER ρ a a'->MER ρ b b'->MER ρ (a++b) (a'++b')
 |[],b,a',b',h,k=>by
  have:a'=[]:=List.length_eq_zero_iff.1 (by have:=h.len;simpa using this.symm)
  subst this;simpa using k
 |e::a,b,a',b',h,k=>by
  obtain⟨e',r',rfl,h1,h2⟩:=h.cons_inv
  exact .cons h1 (h2.append k)
theorem MER.all{ρ:Rho}(p:Nat->Bool):∀{l:List ME} {l':List MapEntry},MER ρ l l'->(l.all fun e=>p e.born)=(l'.all fun e=>p e.born)
 |[],l',h=>by
  have:l'=[]:=List.length_eq_zero_iff.1 (by have:=h.len;simpa using this.symm)
  subst this;rfl
 |e::l,l',h=>by
  obtain⟨e',r',rfl,h1,h2⟩:=h.cons_inv
  simp only[List.all_cons,h1.2.2,h2.all p]
theorem MER.find{ρ:Rho}(p:Nat->Bool):∀{l:List ME} {l':List MapEntry} {e:ME},MER ρ l l'->(l.find? fun e=>p e.born)=some e->∃e',(l'.find? fun e=>p e.born)=some e'/\VR ρ e.key e'.key/\VR ρ e.val e'.val
 |[],l',e,h,hf=>by simp at hf
 |x::l,l',e,h,hf=>by
  obtain⟨e',r',rfl,h1,h2⟩:=h.cons_inv
  simp only[List.find?_cons,h1.2.2]at hf ⊢
  split at hf
  . simp at hf;subst hf;exact⟨e',rfl,h1.1,h1.2.1⟩
  . exact h2.find p hf
def jW(es:List MapEntry)(since:Nat)(seen:List Nat):List (Option MapEntry):=
 let left:=es.filter fun e=>!seen.contains e.born
 let old:=left.filter (·.born<since)
 let new:=left.filter (·.born>=since)
 (if old.isEmpty then [none] else [])++(old++new).map some
theorem MER.tk{ρ:Rho}{l:List ME}{l':List MapEntry}(h:MER ρ l l')(it:ItO):
 (candidates l it).length=(jW l' it.since it.seen).length/\∀j:Nat,
  ((candidates l it)[j]?=some none->(jW l' it.since it.seen)[j]?=some none) /\
  (∀e,(candidates l it)[j]?=some (some e)->∃e',(jW l' it.since it.seen)[j]?=some (some e')/\VR ρ e.key e'.key/\VR ρ e.val e'.val/\e'.born=e.born):=by
 have h1:=h.filter (fun b=>!it.seen.contains b)
 have h2:=h1.filter (fun b=>decide (b<it.since))
 have h3:=h1.filter (fun b=>decide (b>=it.since))
 have h4:=h2.append h3
 unfold candidates jW
 simp only[]
 generalize (l.filter fun e=>!it.seen.contains e.born).filter (fun e=>decide (e.born<it.since))=old at *
 generalize (l'.filter fun e=>!it.seen.contains e.born).filter (fun e=>decide (e.born<it.since))=old' at *
 generalize (l.filter fun e=>!it.seen.contains e.born).filter (fun e=>decide (e.born>=it.since))=new at *
 generalize (l'.filter fun e=>!it.seen.contains e.born).filter (fun e=>decide (e.born>=it.since))=new' at *
 have he:old.isEmpty=old'.isEmpty:=by
  have:=h2.len
  cases old<;>cases old'<;>simp_all
 have key:∀(j:Nat),(((old++new).map some)[j]?=some none->False)/\(∀e,((old++new).map some)[j]?=some (some e)->∃e',((old'++new').map some)[j]?=some (some e')/\VR ρ e.key e'.key/\VR ρ e.val e'.val/\e'.born=e.born):=by
  intro j
  refine⟨fun q=>by
   rw[List.getElem?_map]at q
   cases hq:(old++new)[j]?<;>simp[hq]at q,fun e q=>?_⟩
  rw[List.getElem?_map]at q
  cases hq:(old++new)[j]? with
  |none=>simp[hq]at q
  |some x =>
   simp[hq]at q;subst q
   have hj:=(LG.1 hq).1
   have hj':j<(old'++new').length:=by rw[<- h4.len];exact hj
   have h5:=h4.at_ j x _ hq (LH hj')
   exact⟨_,by rw[List.getElem?_map,LH hj'];rfl,h5⟩
 rw[he]
 refine⟨by simp only[List.length_append,List.length_map];rw[h2.len,h3.len];split<;>rfl,fun j=>?_⟩
 split
 . cases j with
   |zero=>simp
   |succ j =>
    simp only[List.cons_append,List.nil_append,List.getElem?_cons_succ]
    exact⟨fun q=>((key j).1 q).elim,(key j).2⟩
 . simp only[List.nil_append]
   exact⟨fun q=>((key j).1 q).elim,(key j).2⟩
def Rho.ir(ρ:Rho)(r x:Nat):Rho:={ ρ with it:=fun i=>if i=r then some x else ρ.it i }
def Rho.fI(ρ:Rho)(r x:Nat):Rho:={ ρ with lp:=fun i=>if i=r then some x else ρ.lp i }
theorem Rho.nZ{ρ:Rho}{r x:Nat}(hb:ρ.it r=none):ρ.le (ρ.ir r x):=
 ⟨fun _ _ _ h=>⟨h,rfl⟩,fun _ _ h=>h,fun i y h=>by simp only[Rho.ir];rw[if_neg (fun e=>by rw[e,hb]at h;simp at h)];exact h,fun _ _ h=>h⟩
theorem Rho.oa{ρ:Rho}{r x:Nat}(hb:ρ.lp r=none):ρ.le (ρ.fI r x):=
 ⟨fun _ _ _ h=>⟨h,rfl⟩,fun _ _ h=>h,fun _ _ h=>h,fun i y h=>by simp only[Rho.fI];rw[if_neg (fun e=>by rw[e,hb]at h;simp at h)];exact h⟩
theorem Rho.m8{ρ:Rho}{r x y:Nat}(h:(ρ.ir r x).has y):ρ.has y∨y=x:=by
 rcases h with h |h |⟨i,h⟩ |h
 . exact .inl (.inl h)
 . exact .inl (.inr (.inl h))
 . simp only[Rho.ir]at h
   split at h
   . simp at h;exact .inr h.symm
   . exact .inl (.inr (.inr (.inl ⟨i,h⟩)))
 . exact .inl (.inr (.inr (.inr h)))
theorem Rho.kz{ρ:Rho}{r x y:Nat}(h:(ρ.fI r x).has y):ρ.has y∨y=x:=by
 rcases h with h |h |h |⟨i,h⟩
 . exact .inl (.inl h)
 . exact .inl (.inr (.inl h))
 . exact .inl (.inr (.inr (.inl h)))
 . simp only[Rho.fI]at h
   split at h
   . simp at h;exact .inr h.symm
   . exact .inl (.inr (.inr (.inr ⟨i,h⟩)))
theorem Inv.pZ{P:Program}{base:Nat}{W:World}{ρ:Rho}{A:AS}{w:World}(h:Inv P base W ρ A w){r:Nat}(hb:A.its.length<=r):ρ.it r=none:=by
 cases q:ρ.it r with
 |none=>rfl
 |some y =>
  obtain⟨_,mo,es',h1,_⟩:=h.it r y q
  have:=(LG.1 h1).1
  omega
theorem Inv.qd{P:Program}{base:Nat}{W:World}{ρ:Rho}{A:AS}{w:World}(h:Inv P base W ρ A w){r:Nat}(hb:A.loops.length<=r):ρ.lp r=none:=by
 cases q:ρ.lp r with
 |none=>rfl
 |some y =>
  obtain⟨_,mo,es',h1,_⟩:=h.lp r y q
  have:=(LG.1 h1).1
  omega
theorem AL9{P:Program}{base:Nat}{W:World}{ρ:Rho}{A:AS}{w:World}(h:Inv P base W ρ A w){io:ItO}{mo':Option Nat}
 (hm:io.map=none/\mo'=none∨∃r y,io.map=some r/\mo'=some y/\ρ.m r=some y):
 Adv P base W ρ A w (ρ.ir A.its.length w.heap.size) (A.jR io) (w.alloc (.mapIter mo' io.since io.seen.toArray io.cM)):=by
 have hn:=h.pZ (Nat.le_refl A.its.length)
 have hle:=Rho.nZ (x:=w.heap.size) hn
 have ha:=h.alloc (.mapIter mo' io.since io.seen.toArray io.cM)
 refine⟨hle,?_,.alloc ρ w _,⟨Nat.le_refl _,Nat.le_refl _,fun _ _ _=>rfl,fun _ _ _=>rfl⟩,⟨fun i x d hi hn'=>?_,fun i x hi hn'=>?_,fun x hx hh=>?_⟩⟩
 . refine { os:=ha.os,tape:=ha.tape,output:=ha.output,size:=ha.size,old:=ha.old,blk:=?_,inj:=h.inj,fam:=h.fam,own:=h.own,map:=?_,dX:=h.dX,it:=?_,dY:=?_,lp:=?_,dZ:=h.dZ }
   . intro b x d hx
     obtain⟨k,e1,e2,e3⟩:=ha.blk b x d hx
     exact⟨k,e1,e2.mono hle hx,e3⟩
   . intro r y hy
     obtain⟨e0,mo,es',e1,e2,e3⟩:=ha.map r y hy
     exact⟨e0,mo,es',e1,e2,e3.mono hle⟩
   . intro i y hy
     simp only[Rho.ir]at hy
     split at hy
     . rename_i e;subst e
       simp at hy;subst hy
       exact⟨h.size,io,mo',by simp[AS.jR],Ae5 _ _,hm⟩
     . obtain⟨e0,io1,mo1,e1,e2,e3⟩:=ha.it i y hy
       refine⟨e0,io1,mo1,?_,e2,e3⟩
       have:=(LG.1 e1).1
       simp[AS.jR,List.getElem?_append_left this,e1]
   . intro r1 r2 x h1 h2
     simp only[Rho.ir]at h1 h2
     have hlt:∀r y,ρ.it r=some y->y<w.heap.size:=fun r y q=>h.ik (.inr (.inr (.inl ⟨r,q⟩)))
     split at h1<;>split at h2
     . omega
     . simp at h1;subst h1;have:=hlt _ _ h2;omega
     . simp at h2;subst h2;have:=hlt _ _ h1;omega
     . exact h.dY r1 r2 x h1 h2
   . intro i y hy
     obtain⟨e0,io1,mo1,e1,e2,e3⟩:=ha.lp i y hy
     exact⟨e0,io1,mo1,e1,e2,e3.mono hle⟩
 . rw[show(ρ.ir A.its.length w.heap.size).b i=ρ.b i from rfl,hn']at hi;simp at hi
 . rw[show(ρ.ir A.its.length w.heap.size).m i=ρ.m i from rfl,hn']at hi;simp at hi
 . rcases Rho.m8 hh with hh |rfl
   . exact hh
   . omega
theorem AW2{P:Program}{base:Nat}{W:World}{ρ:Rho}{A A':AS}{w:World}(h:Inv P base W ρ A w){t:TypeId}{m v:V}{m':Value}
 (hm:VR ρ m m') (hv:fV P t m A=some (v,A')):∃ ρ' v' w',(Instr.range t m').run P w=.ok v' w'/\Adv P base W ρ A w ρ' A' w'/\VR ρ' v v':=by
 unfold fV at hv
 split at hv
 . rename_i q hmt
   obtain⟨kt,et⟩:=q
   have hu:=Ap9 hmt
   simp at hv;obtain⟨rfl,rfl⟩:=hv
   cases hm
   have:=AL9 h (io:=⟨none,0,[],0⟩) (mo':=none) (.inl ⟨rfl,rfl⟩)
   exact⟨_,.pointer (some ⟨w.heap.size,0,none⟩),_,by simp[Instr.range,run_underlying hu],this,.iter (by simp[Rho.ir])⟩
 . rename_i q r hmt
   obtain⟨kt,et⟩:=q
   have hu:=Ap9 hmt
   split at hv
   . rename_i mo hmo
     simp at hv;obtain⟨rfl,rfl⟩:=hv
     cases hm with
     |map hr =>
      rename_i y
      obtain⟨hb,mo1,es',h1,h2,h3⟩:=h.map r y hr
      rw[hmo]at h1;cases h1
      have:=AL9 h (io:=⟨some r,mo.clock,[],mo.clock⟩) (mo':=some y) (.inr ⟨r,y,rfl,rfl,hr⟩)
      exact⟨_,.pointer (some ⟨w.heap.size,0,none⟩),_,by simp[Instr.range,run_underlying hu,Ac1 h2 rfl],this,.iter (by simp[Rho.ir])⟩
   . simp at hv
 . simp at hv
theorem Inv.rH{P:Program}{base:Nat}{W:World}{ρ:Rho}{A:AS}{w:World}(h:Inv P base W ρ A w){r x:Nat}{io:ItO}{mo':Option Nat}
 (hx:ρ.it r=some x) (hr:io.map=none/\mo'=none∨∃r y,io.map=some r/\mo'=some y/\ρ.m r=some y):
 Adv P base W ρ A w ρ (A.mE r io) (w.putObj x (.mapIter mo' io.since io.seen.toArray io.cM)):=by
 obtain⟨hb,io0,mo0,h1,h2,h3⟩:=h.it r x hx
 have hlt:=Ak4 h2
 have bM:=As8 (.mapIter mo' io.since io.seen.toArray io.cM) hlt
 have hrl:=(LG.1 h1).1
 refine⟨.refl ρ,?_,⟨by simp,fun i hi hn=>?_⟩,⟨Nat.le_refl _,Nat.le_refl _,fun _ _ _=>rfl,fun _ _ _=>rfl⟩,.refl _ _ _⟩
 . refine { os:=h.os,tape:=h.tape,output:=h.output,size:=by simpa using h.size,old:=?_,blk:=?_,inj:=h.inj,fam:=h.fam,own:=h.own,map:=?_,dX:=h.dX,it:=?_,dY:=h.dY,lp:=?_,dZ:=h.dZ }
   . intro i hi
     rw[bM,if_neg (by omega)];exact h.old i hi
   . intro b y d hy
     obtain⟨k,e1,e2,e3⟩:=h.blk b y d hy
     refine⟨k,e1,e2.world ?_,e3⟩
     rw[bM,if_neg]
     rintro rfl
     obtain⟨c,el,fr,e4,_⟩:=e2.row
     rw[h2]at e4;simp at e4
   . intro i y hy
     obtain⟨e0,io,mo',e1,e2,e3⟩:=h.map i y hy
     refine⟨e0,io,mo',e1,?_,e3⟩
     rw[bM,if_neg];exact e2
     rintro rfl;rw[h2]at e2;simp at e2
   . intro r' y hy
     by_cases hrr:r'=r
     . subst hrr
       rw[hx]at hy;cases hy
       exact⟨hb,io,mo',by simp[AS.mE,hrl],by rw[bM,if_pos rfl],hr⟩
     . obtain⟨e0,mo',es',e1,e2,e3⟩:=h.it r' y hy
       refine⟨e0,mo',es',by simp[AS.mE,List.getElem?_set,Ne.symm hrr,e1],?_,e3⟩
       rw[bM,if_neg (fun(e:y=x)=>hrr (h.dY r' r x (e ▸ hy) hx))];exact e2
   . intro i y hy
     obtain⟨e0,io,mo',e1,e2,e3⟩:=h.lp i y hy
     refine⟨e0,io,mo',e1,?_,e3⟩
     rw[bM,if_neg];exact e2
     rintro rfl;rw[h2]at e2;simp at e2
 . rw[bM,if_neg (fun(e:i=x)=>hn (by rw[e];exact .inr (.inr (.inl ⟨r,hx⟩))))]
theorem Inv.odr{P:Program}{base:Nat}{W:World}{ρ:Rho}{A:AS}{w:World}(h:Inv P base W ρ A w)(n:Nat):Inv P base W ρ { A with odr:=n } w :=
 h.abs (fun _ _ _ q=>q) (fun i k f β q r s=>h.own i k f β q r s) (fun _ _ _ q=>q) (fun _ _ q=>q) (fun _ _ q=>q)
theorem Adv.odr{P:Program}{base:Nat}{W:World}{ρ:Rho}{A:AS}{w:World}(h:Inv P base W ρ A w)(n:Nat):Adv P base W ρ A w ρ { A with odr:=n } w :=
 ⟨.refl ρ,h.odr n,.refl ρ w,⟨Nat.le_refl _,Nat.le_refl _,fun _ _ _=>rfl,fun _ _ _=>rfl⟩,.refl _ _ _⟩
def mJ(es:Array MapEntry)(since:Nat)(seen:Array Nat):Array (Option MapEntry):=
 let left:=es.filter fun e=>!seen.contains e.born
 let old:=left.filter (·.born<since)
 let new:=left.filter (·.born>=since)
 (if old.isEmpty then #[none] else #[])++(old++new).map some
theorem A20(es:Array MapEntry)(since:Nat)(seen:List Nat):(mJ es since seen.toArray).toList=jW es.toList since seen:=by
 have hc:∀b,seen.toArray.contains b=seen.contains b:=fun b=>by simp
 simp only[mJ,hc,jW,Array.toList_append,Array.toList_map,Array.toList_filter]
 congr 1
 have:((es.filter fun e=>!seen.contains e.born).filter (·.born<since)).isEmpty=(((es.toList.filter fun e=>!seen.contains e.born).filter (·.born<since))).isEmpty:=by
  rw[<- Array.isEmpty_toList,Array.toList_filter,Array.toList_filter]
 rw[this]
 split<;>rfl
theorem A21{P:Program}{base:Nat}{W:World}{ρ:Rho}{A A':AS}{w:World}(h:Inv P base W ρ A w){ty:TypeId}{x v:V}{x':Value}
 (hx:VR ρ x x') (hv:ie x A=some (v,A')) (ho:∀n,A.orc A.odr n=w.tape w.drawn (.mapNext n)):∃v' w',(Instr.next x' false ty).run P w=.ok v' w'/\Adv P base W ρ A w ρ A' w'/\VR ρ v v':=by
 unfold ie at hv
 split at hv
 . rename_i i
   cases hx with
   |iter hi =>
    rename_i y
    obtain⟨hb,io,mo',h1,h2,h3⟩:=h.it i y hi
    rw[h1]at hv
    simp only[]at hv
    split at hv
    . rename_i gq
      simp at hv;obtain⟨rfl,rfl⟩:=hv
      have hmo:mo'=none:=by
       rcases h3 with⟨_,e⟩ |⟨r,y,e,_⟩
       . exact e
       . rw[gq]at e;simp at e
      subst hmo
      exact⟨.tuple #[.bool false],w,by simp[Instr.next,Ac1 h2 rfl],.odr h _,.dy (.cons (.bool _) (.nil _))⟩
    . rename_i r lu
      obtain⟨z,hmz,hmo⟩:∃z,mo'=some z/\ρ.m r=some z:=by
       rcases h3 with⟨e,_⟩ |⟨r',y,e,e2,e3⟩
       . rw[lu]at e;simp at e
       . rw[lu]at e;simp at e;subst e;exact⟨y,e2,e3⟩
      subst hmz
      obtain⟨hb2,mo,es',g1,g2,g3⟩:=h.map r z hmo
      rw[g1]at hv
      simp only[]at hv
      split at hv
      . simp at hv
      . rename_i hgd
        obtain⟨c1,c2⟩:=g3.tk io
        have tn:(!io.seen.toArray.isEmpty && !es'.isEmpty && es'.all (·.born>=io.cM))=false:=by
         have e1:io.seen.toArray.isEmpty=io.seen.isEmpty:=by cases io.seen<;>rfl
         have e2:es'.isEmpty=mo.es.isEmpty:=by
          have:=g3.len
          rw[<- Array.isEmpty_toList]
          cases hq:es'.toList<;>cases hq2:mo.es<;>simp_all
         have e3:es'.all (fun e=>decide (e.born>=io.cM))=mo.es.all fun e=>decide (e.born>=io.cM):=by
          rw[g3.all (fun b=>decide (b>=io.cM)),<- Array.all_toList]
         rw[e1,e2,e3]
         simpa using hgd
        have hcl:=A20 es' io.since io.seen
        generalize hcd:mJ es' io.since io.seen.toArray=cd at *
        have hsz:cd.size=(candidates mo.es io).length:=by rw[c1,<- hcl];simp
        obtain⟨w1,hw1,hch⟩:∃w1,(w1=w∨w1=w.drew)/\(choose (.mapNext cd.size)).run P w=.ok (if (candidates mo.es io).length<=1 then 0 else A.orc A.odr (candidates mo.es io).length%(candidates mo.es io).length) w1:=by
         by_cases hle:(candidates mo.es io).length<=1
         . refine⟨w,.inl rfl,?_⟩
           rw[if_pos hle]
           simp[choose,Sem.run,Question.forced,hsz,hle]
         . refine⟨w.drew,.inr rfl,?_⟩
           rw[if_neg hle,ho]
           simp[choose,Sem.run,Question.forced,Question.cut,hsz,hle]
        have hI1:Inv P base W ρ A w1:=by rcases hw1 with rfl |rfl;exact h;exact h.drew
        have hA1:Adv P base W ρ A w ρ A w1:=by rcases hw1 with rfl |rfl;exact .refl h;exact⟨.refl ρ,h.drew,.drew ρ w,.refl _ _,.refl _ _ _⟩
        have hg2:w1.heap[y]?=some (.mapIter (some z) io.since io.seen.toArray io.cM):=by rcases hw1 with rfl |rfl<;>exact h2
        have lL:(Instr.next (.pointer (some ⟨y,0,none⟩)) false ty).run P w=((do
         match cd[if (candidates mo.es io).length<=1 then 0 else A.orc A.odr (candidates mo.es io).length%(candidates mo.es io).length]? with
         |some (some e) =>
          setObj y (.mapIter (some z) io.since (io.seen.toArray.push e.born) mo.clock)
          pure (.tuple #[.bool true,e.key,e.val])
         |some none=>pure (.tuple #[.bool false])
         | none => stuck "Next: no such candidate" : Sem Value)).run P w1 := by
         unfold Instr.next
         simp only[mJ]at hcd
         simp only[Sem.run_bind,Ac1 h2 rfl,Result.andThen_ok,Ac1 g2 rfl,tn,Bool.false_eq_true,if_false,hcd,hch]
         rfl
        rw[lL]
        have mX:∀j:Nat,cd[j]?=(jW es'.toList io.since io.seen)[j]?:=fun j=>by rw[<- hcl];simp
        split at hv
        . rename_i e hce
          simp at hv;obtain⟨rfl,rfl⟩:=hv
          obtain⟨e',q1,q2,q3,q4⟩:=(c2 _).2 e hce
          rw[mX,q1]
          have hA2:=Adv.odr hI1 (A.odr+1)
          have hA3:=hA2.inv.rH (io:={ io with seen:=io.seen++[e.born],cM:=mo.clock }) (mo':=some z) hi (.inr ⟨r,z,lu,rfl,hmo⟩)
          refine⟨.tuple #[.bool true,e'.key,e'.val],w1.putObj y (.mapIter (some z) io.since (io.seen.toArray.push e'.born) mo.clock),?_,?_,.dy (c':=#[.bool true,e'.key,e'.val]) (.cons (.bool _) (.cons q2 (.cons q3 (.nil _))))⟩
          . simp only[Sem.run_bind,Ad6 _ hg2 rfl,Result.andThen_ok,Sem.run_pure]
          . have:=hA1.trans (hA2.trans hA3)
            simpa[q4] using this
        . rename_i hce
          simp at hv;obtain⟨rfl,rfl⟩:=hv
          rw[mX,(c2 _).1 hce]
          exact⟨_,_,rfl,hA1.trans (Adv.odr hI1 (A.odr+1)),.dy (.cons (.bool _) (.nil _))⟩
        . simp at hv
 . simp at hv
theorem AW3{P:Program}{base:Nat}{W:World}{ρ:Rho}{A:AS}{w:World}(h:Inv P base W ρ A w){x v:V}{x':Value}
 (hx:VR ρ x x') (hv:iC x A=some v):∃v',(Instr.entry x').run P w=.ok v' w/\VR ρ v v':=by
 unfold iC at hv
 split at hv
 . rename_i i
   cases hx with
   |iter hi =>
    rename_i y
    obtain⟨hb,io,mo',h1,h2,h3⟩:=h.it i y hi
    rw[h1]at hv
    split at hv
    . rename_i r since seen cM hio
      simp at hio;subst hio
      obtain⟨z,hmz,hmo⟩:∃z,mo'=some z/\ρ.m r=some z:=by
       rcases h3 with⟨e,_⟩ |⟨r',y,e,e2,e3⟩
       . simp at e
       . simp at e;subst e;exact⟨y,e2,e3⟩
      subst hmz
      obtain⟨hb2,mo,es',g1,g2,g3⟩:=h.map r z hmo
      rw[g1]at hv
      split at hv
      . rename_i mo2 stamp hmm rI
        simp at hmm;subst hmm
        split at hv
        . simp at hv
        . rename_i hcl
          have hcl:mo.clock=cM:=by simpa using hcl
          split at hv
          . rename_i e he
            simp at hv;subst hv
            obtain⟨e',q1,q2,q3⟩:=g3.find (fun b=>b == stamp) he
            refine⟨.tuple #[e'.key,e'.val],?_,.dy (.cons q2 (.cons q3 (.nil _)))⟩
            have rJ:seen.toArray.back?=some stamp:=by simpa using rI
            have nv:es'.find? (fun e=>e.born == stamp)=some e':=by rw[<- Array.find?_toList];exact q1
            simp[Instr.entry,Ac1 h2 rfl,rJ,Ac1 g2 rfl,hcl,nv]
          . simp at hv
      . simp at hv
    . simp at hv
 . simp at hv
end Go.Sv
namespace Go.Sv
open Go
theorem AW4(op:BinOp)(t:TypeId)(x y:Operand)(b:Bool)(v:Value):eqGuard op t x y (.bool b) v=pure ():=by cases op<;>rfl
theorem Au8(op:BinOp)(t:TypeId)(x y:Operand)(k:IntKind)(n:Int)(v:Value):eqGuard op t x y (.int k n) v=pure ():=by cases op<;>rfl
theorem AJ4(op:BinOp)(t:TypeId)(x y:Operand)(s:ByteArray)(v:Value):eqGuard op t x y (.string s) v=pure ():=by cases op<;>rfl
theorem Al2(op:BinOp)(t:TypeId)(x y:Operand)(s:Option Addr)(v:Value):eqGuard op t x y (.pointer s) v=pure ():=by cases op<;>rfl
theorem Aq0(op:BinOp)(t:TypeId)(x y:Operand)(s:Option Addr)(n m:Nat)(v:Value):eqGuard op t x y (.slice s n m) v=pure ():=by cases op<;>rfl
theorem AW5{P:Program}{op:BinOp}{k:IntKind}{a b:Int}{v:V}(ρ:Rho)(yk:IntKind)(h:bg op k a b=some v)(w:World):∃v',(Op.shift op k a yk b).run P w=.ok v' w/\VR ρ v v':=by
 unfold bg at h
 split at h
 . simp at h
 . rename_i hb
   unfold Op.shift
   rw[if_neg hb]
   cases op<;>simp at h
   . subst h;exact⟨_,rfl,.int _ _⟩
   . subst h;exact⟨_,rfl,.int _ _⟩
theorem BL4{P:Program}{op:BinOp}{k:IntKind}{a b:Int}{v:V}(ρ:Rho)(h:eO op k a b=some v)(t:TypeId)(w:World):∃v',(binOp op t (.int k a) (.int k b)).run P w=.ok v' w/\VR ρ v v':=by
 cases op<;>simp[eO,ck]at h
 case add=>subst h;exact⟨_,by simp only[binOp_add,Op.intArith];rfl,.int _ _⟩
 case sub=>subst h;exact⟨_,by simp only[binOp_sub,Op.intArith];rfl,.int _ _⟩
 case mul=>subst h;exact⟨_,by simp only[binOp_mul,Op.intArith];rfl,.int _ _⟩
 case quo=>exact⟨_,by simp[binOp,Op.intDiv,h.1];rfl,by rw[<- h.2];exact .int _ _⟩
 case rem=>exact⟨_,by simp[binOp,Op.intDiv,h.1];rfl,by rw[<- h.2];exact .int _ _⟩
 case and=>subst h;exact⟨_,by simp[binOp,Op.intBits];rfl,by simpa using VR.int k _⟩
 case or=>subst h;exact⟨_,by simp[binOp,Op.intBits];rfl,by simpa using VR.int k _⟩
 case xor=>subst h;exact⟨_,by simp[binOp,Op.intBits];rfl,by simpa using VR.int k _⟩
 case andNot=>subst h;exact⟨_,by simp[binOp,Op.intBits];rfl,by simpa using VR.int k _⟩
 case eql=>subst h;exact⟨_,by simp only[binOp_eql];rfl,.bool _⟩
 case neq=>subst h;exact⟨_,by simp only[binOp_neq];rfl,.bool _⟩
 case lss=>subst h;exact⟨_,by simp only[binOp_lss];rfl,.bool _⟩
 case leq=>subst h;exact⟨_,by simp only[binOp_leq];rfl,.bool _⟩
 case gtr=>subst h;exact⟨_,by simp only[binOp_gtr];rfl,.bool _⟩
 case geq=>subst h;exact⟨_,by simp only[binOp_geq];rfl,.bool _⟩
theorem BL5{P:Program}{op:BinOp}{a b:ByteArray}{v:V}(ρ:Rho)(h:iY op a.data.toList b.data.toList=some v)(t:TypeId)(w:World):∃v',(binOp op t (.string a) (.string b)).run P w=.ok v' w/\VR ρ v v':=by
 have e:∀s:ByteArray,s.toList=s.data.toList:=ByteArray.toList_eq
 have hl:∀s:ByteArray,s.data.toList.length=s.size:=fun s=>by rw[Array.length_toList];rfl
 cases op
 case add =>
  simp only[iY]at h
  split at h
  . rename_i hle
    simp at h;subst h
    rw[hl,hl]at hle
    have:¬((a.size+b.size:Nat):Int)>IntKind.i64.max:=by simp;omega
    refine⟨.string (a++b),by simp only[binOp,Op.stringOp];rw[if_neg this];rfl,?_⟩
    have:=VR.str (ρ:=ρ) (a++b)
    rwa[ByteArray.data_append,Array.toList_append]at this
  . simp at h
 case eql=>simp only[iY,Option.some.injEq]at h;subst h;exact⟨.bool (a.toList == b.toList),by simp[binOp,Op.stringOp],by rw[e,e];exact .bool _⟩
 case neq=>simp only[iY,Option.some.injEq]at h;subst h;exact⟨.bool (!(a.toList == b.toList)),by simp[binOp,Op.stringOp],by rw[e,e];exact .bool _⟩
 all_goals (simp[iY]at h)
theorem BH8{P:Program}{ρ:Rho}{t:TypeId}{a b:V}{a' b':Value}{r:Bool}(h:fO P t a b=some r)(ha:VR ρ a a')(hb:VR ρ b b')(op:BinOp)(x y:Operand)(w:World):
 (Op.equal t a' b').run P w=.ok r w/\(eqGuard op t x y a' b').run P w=.ok () w /\
  binOp .eql t a' b'=(do pure (.bool (<- Op.equal t a' b')))/\binOp .neq t a' b'=(do pure (.bool (!(<- Op.equal t a' b')))):=by
 unfold fO at h
 split at h
 . split at h
   . rename_i hu
     simp at h;subst h
     have:=ha.dR;subst this
     have:=hb.dR;subst this
     exact⟨run_equal_bool w t _ _ hu,by rw[AW4];rfl,rfl,rfl⟩
   . simp at h
 . split at h
   . rename_i hu
     simp at h;subst h
     cases ha;cases hb
     exact⟨(show ∀d,(Op.equalIn (d+1) t _ _).run P w=.ok _ w from fun d=>by simp[Op.equalIn,run_underlying hu]) 9999,by rw[Al2];rfl,rfl,rfl⟩
   . simp at h
 . split at h
   . rename_i hu
     simp at h;subst h
     cases ha;cases hb
     exact⟨(show ∀d,(Op.equalIn (d+1) t _ _).run P w=.ok _ w from fun d=>by simp[Op.equalIn,run_underlying hu]) 9999,by rw[Al2];rfl,rfl,rfl⟩
   . simp at h
 . split at h
   . rename_i hu
     simp at h;subst h
     cases ha;cases hb
     exact⟨(show ∀d,(Op.equalIn (d+1) t _ _).run P w=.ok _ w from fun d=>by simp[Op.equalIn,run_underlying hu]) 9999,by rw[Al2];rfl,rfl,rfl⟩
   . simp at h
 . split at h
   . rename_i hu
     simp at h;subst h
     cases ha;cases hb
     exact⟨(show ∀d,(Op.equalIn (d+1) t _ _).run P w=.ok _ w from fun d=>by simp[Op.equalIn,run_underlying hu]) 9999,by rw[Aq0];rfl,rfl,rfl⟩
   . simp at h
 . split at h
   . rename_i hu
     simp at h;subst h
     cases ha;cases hb<;>exact⟨(show ∀d,(Op.equalIn (d+1) t _ _).run P w=.ok _ w from fun d=>by simp[Op.equalIn,run_underlying hu]) 9999,by rw[Aq0];rfl,rfl,rfl⟩
   . simp at h
 . split at h
   . rename_i hu
     simp at h;subst h
     cases hb;cases ha<;>exact⟨(show ∀d,(Op.equalIn (d+1) t _ _).run P w=.ok _ w from fun d=>by simp[Op.equalIn,run_underlying hu]) 9999,by rw[Aq0];rfl,rfl,rfl⟩
   . simp at h
 . split at h
   . rename_i sh hs hat
     split at h
     . rename_i hc
       simp only[Bool.and_eq_true,Bool.not_eq_true']at hc
       simp at h;subst h
       obtain⟨xs',rfl,hx⟩:=ha.gR
       obtain⟨ys',rfl,hy⟩:=hb.gR
       have e1:=hx.aO (Am3 hc.1.1)
       have e2:=hy.aO (Am3 hc.1.2)
       refine⟨?_,run_eqGuard_agg w op t x y _ _ hc.2,rfl,rfl⟩
       have:=Al0 50 9950 t sh hs w _ _ hc.1.1 hc.1.2
       unfold dw at this
       rw[if_pos hat,if_pos hat,<- e1,<- e2]at this
       exact this
     . simp at h
   . simp at h
 . simp at h
end Go.Sv
namespace Go.Sv
open Go
theorem B72{P:Program}{ρ:Rho}{op:UnOp}{x v:V}{x':Value}(hx:VR ρ x x')(h:lg op x=some v)(w:World):∃v',(Op.unary op x').run P w=.ok v' w/\VR ρ v v':=by
 unfold lg at h
 split at h
 . have:=hx.bD;subst this
   split at h
   . simp only[Option.some.injEq]at h;subst h;exact⟨_,rfl,.int _ _⟩
   . simp[ck]at h;subst h;exact⟨_,rfl,by simpa using VR.int (ρ:=ρ) _ _⟩
   . simp at h
 . have:=hx.dR;subst this
   split at h
   . simp at h;subst h;exact⟨_,rfl,.bool _⟩
   . simp at h
 . simp at h
theorem Ax0(off:Nat):∀(vs:List Value) (n:Nat) (c:Array Value) (j:Nat),
 ((vs.zipIdx n).foldl (fun(cs:Array Value) (x:Value×Nat)=>cs.setIfInBounds (off+x.2) x.1) c)[j]?=if off+n<=j/\j<off+n+vs.length/\j<c.size then vs[j-(off+n)]? else c[j]?
 |[],n,c,j=>by simp;intros;omega
 |v::vs,n,c,j=>by
  rw[List.zipIdx_cons,List.foldl_cons,Ax0 off vs (n+1)]
  simp only[Array.size_setIfInBounds,List.length_cons]
  by_cases h:off+(n+1)<=j/\j<off+(n+1)+vs.length/\j<c.size
  . rw[if_pos h,if_pos ⟨by omega,by omega,h.2.2⟩,show j-(off+n)=(j-(off+(n+1)))+1 by omega];simp
  . rw[if_neg h]
    by_cases hj:j=off+n
    . subst hj
      by_cases hs:off+n<c.size
      . rw[if_pos ⟨by omega,by omega,hs⟩];simp[Array.getElem?_setIfInBounds,hs]
      . rw[if_neg (by omega)];simp[Array.getElem?_setIfInBounds,hs]
    . rw[if_neg (by omega),Array.getElem?_setIfInBounds,if_neg (by omega)]
theorem AJ5(off:Nat)(vs c:Array Value)(h:off+vs.size<=c.size):
 (vs.zipIdx.foldl (fun cs (x,j)=>cs.setIfInBounds (off+j) x) c).toList=c.toList.take off++vs.toList++c.toList.drop (off+vs.size):=by
 apply List.ext_getElem?
 intro j
 have e:(vs.zipIdx.foldl (fun(cs:Array Value) (x:Value×Nat)=>cs.setIfInBounds (off+x.2) x.1) c)=((vs.toList.zipIdx 0).foldl (fun(cs:Array Value) (x:Value×Nat)=>cs.setIfInBounds (off+x.2) x.1) c):=by
  rw[<- Array.foldl_toList,Array.toList_zipIdx]
 show(vs.zipIdx.foldl (fun(cs:Array Value) (x:Value×Nat)=>cs.setIfInBounds (off+x.2) x.1) c).toList[j]?=_
 rw[e,Array.getElem?_toList,Ax0]
 simp only[Nat.add_zero,Array.length_toList]
 by_cases h1:j<off
 . rw[if_neg (by omega),List.append_assoc,List.getElem?_append_left (by simp;omega),List.getElem?_take,if_pos h1];simp
 . by_cases h2:j<off+vs.size
   . rw[if_pos ⟨by omega,h2,by omega⟩,List.append_assoc,List.getElem?_append_right (by simp;omega)]
     simp only[List.length_take,Array.length_toList]
     rw[show min off c.size=off by omega,List.getElem?_append_left (by simp;omega)]
   . rw[if_neg (by omega),List.getElem?_append_right (by simp;omega)]
     simp only[List.length_append,List.length_take,Array.length_toList,List.getElem?_drop]
     rw[show off+vs.size+(j-(min off c.size+vs.size))=j by omega];simp
inductive PR(ρ:Rho):List (Nat×V)->List (Nat×Value)->Prop
 |nil:PR ρ [] []
 |cons {i:Nat} {v:V} {v':Value} {l:List (Nat×V)} {l':List (Nat×Value)} (h:VR ρ v v') (hl:PR ρ l l'):PR ρ ((i,v)::l) ((i,v')::l')
theorem AD2{ρ:Rho}(place:Nat->Option (Nat×Nat)):∀{parts:List (Nat×V)} {parts':List (Nat×Value)} {cells out:List V} {cells':Array Value},
 PR ρ parts parts'->VRs ρ cells cells'.toList->eP place cells parts=some out->∃out',Instr.fill place cells' parts'=some out'/\VRs ρ out out'.toList
 |[],_,cells,out,cells',hp,hc,h=>by
  cases hp
  simp[eP]at h;subst h
  exact⟨cells',rfl,hc⟩
 | (i,v)::parts,_,cells,out,cells',hp,hc,h=>by
  cases hp with
  |cons hv hl =>
   rename_i v' l'
   unfold eP at h
   split at h
   . rename_i off size cs hpl hcs
     split at h
     . rename_i hle
       have hvc:=hv.cells hcs
       have hsz:v'.cells.size=size:=by have:=hvc.len;simp at this;omega
       have hcl:=hc.len
       simp at hcl
       have rK:=AJ5 off v'.cells cells' (by omega)
       have hr:VRs ρ (putAt cells off cs) (v'.cells.zipIdx.foldl (fun cs (x,j)=>cs.setIfInBounds (off+j) x) cells').toList:=by
        rw[rK]
        unfold putAt
        rw[hsz,<- hle.1]
        exact((hc.take off).append hvc).append (hc.drop _)
       obtain⟨out',h1,h2⟩:=AD2 place hl hr h
       refine⟨out',?_,h2⟩
       unfold Instr.fill
       rw[hpl]
       simp only[]
       rw[if_neg (by simp;omega)]
       exact h1
     . simp at h
   . simp at h
theorem Bv8{P:Program}{t:TypeId}{zc:List V}(h:aC P t=some (.agg zc))(w:World):∃z',(zeroValue t).run P w=.ok (.agg z') w/\∀ ρ,VRs ρ zc z'.toList:=by
 obtain⟨z',h1,h2⟩:=Aj8 h w
 obtain⟨c',rfl,_⟩:=(h2 ⟨fun _=>none,fun _=>0,fun _=>none,fun _=>none,fun _=>none⟩).gR
 refine⟨c',h1,fun ρ=>?_⟩
 obtain⟨c2,e,h3⟩:=(h2 ρ).gR
 cases e;exact h3
theorem AM0{P:Program}(w:World):∀(fs:List Field),(∀f∈fs,(szT P f.type).isSome=true) ->
 ((fs.mapM fun f=>do pure (f.offset,<- sizeOf f.type):Sem (List (Nat×Nat)))).run P w=.ok (fs.map fun f=>(f.offset,(szT P f.type).getD 0)) w
 |[],_=>rfl
 |f::fs,h=>by
  obtain⟨n,hn⟩:=Option.isSome_iff_exists.1 (h f (by simp))
  have ih:=AM0 w fs (fun g hg=>h g (by simp[hg]))
  rw[List.mapM_cons]
  simp only[Sem.run_bind,Ab8 hn,Result.andThen_ok,Sem.run_pure,ih,List.map_cons,hn,Option.getD_some]
theorem Bk9{P:Program}{ρ:Rho}{t:TypeId}{parts:List (Nat×V)}{parts':Array (Nat×Value)}{v:V}(hp:PR ρ parts parts'.toList)(h:au P t parts=some v)(w:World):
 ∃v',(Instr.build t parts').run P w=.ok v' w/\VR ρ v v':=by
 unfold au at h
 split at h
 . rename_i zc hz
   obtain⟨z',hz1,hz2⟩:=Bv8 hz w
   split at h
   . rename_i fs hu
     split at h
     . rename_i gL
       rw[Array.all_eq_true_iff_forall_mem]at gL
       cases hf:eP (iZ P fs) zc parts with
       |none=>simp[hf]at h
       |some out =>
        simp[hf]at h;subst h
        have hm:((fs.mapM fun f=>do pure (f.offset,<- sizeOf f.type):Sem (Array (Nat×Nat)))).run P w=.ok (fs.toList.map fun f=>(f.offset,(szT P f.type).getD 0)).toArray w:=by
         rw[Array.mapM_eq_mapM_toList]
         simp only[Sem.run_map]
         rw[AM0 w fs.toList (fun f hf=>gL f (by simpa using hf))]
         rfl
        have qf:(fun i=>((fs.toList.map fun f=>(f.offset,(szT P f.type).getD 0)).toArray)[i]?)=iZ P fs:=by
         funext i
         simp only[List.getElem?_toArray,List.getElem?_map,iZ,Array.getElem?_toList]
         cases hq:fs[i]? with
         |none=>rfl
         |some f =>
          obtain⟨n,hn⟩:=Option.isSome_iff_exists.1 (gL f (Array.mem_of_getElem? hq))
          simp[hn]
        obtain⟨out',h1,h2⟩:=AD2 (iZ P fs) hp (hz2 ρ) hf
        refine⟨.agg out',?_,.jm h2⟩
        unfold Instr.build
        simp only[Sem.run_bind,hz1,Result.andThen_ok,run_underlying hu,hm,Value.cells]
        rw[qf,h1]
        rfl
     . simp at h
   . rename_i n e hu
     split at h
     . rename_i s hs
       cases hf:eP (fun i=>some (i*s,s)) zc parts with
       |none=>simp[hf]at h
       |some out =>
        simp[hf]at h;subst h
        obtain⟨out',h1,h2⟩:=AD2 _ hp (hz2 ρ) hf
        refine⟨.agg out',?_,.jm h2⟩
        unfold Instr.build
        simp only[Sem.run_bind,hz1,Result.andThen_ok,run_underlying hu,Ab8 hs,Value.cells,h1]
        rfl
     . simp at h
   . simp at h
 . simp at h
theorem A82{P:Program}{ρ:Rho}{t:TypeId}{cs:List V}{cs':Array Value}{off:Nat}{v:V}(hc:VRs ρ cs cs'.toList)(h:mF P t cs off=some v)(w:World):
 ∃v',(part t cs' off).run P w=.ok v' w/\VR ρ v v':=by
 unfold mF at h
 split at h
 . rename_i n ha hn
   split at h
   . rename_i hle
     simp at h;subst h
     refine⟨.agg (cs'.extract off (off+n)),by simp[part,An7 ha,Ab8 hn],.jm ?_⟩
     have:(cs'.extract off (off+n)).toList=(cs'.toList.drop off).take n:=by
      rw[Array.toList_extract];simp[List.extract]
     rw[this]
     exact(hc.drop off).take n
   . simp at h
 . rename_i ha
   obtain⟨v',h1,h2⟩:=hc.getElem? h
   have h1':cs'[off]?=some v':=by simpa using h1
   exact⟨v',by simp[part,An7 ha,h1'],h2⟩
 . simp at h
theorem AM1{P:Program}{t:TypeId}{fs:Array Field}(h:jE P t=some fs):P.underlying t=some (.struct fs):=by
 unfold jE at h
 split at h
 . rename_i q hu;simp at h;rw[hu,h]
 . simp at h
theorem Bl0{P:Program}{ρ:Rho}{t:TypeId}{x v:V}{x':Value}{i:Nat}(hx:VR ρ x x')(h:gM P t x i=some v)(w:World):∃v',(Instr.field t x' i).run P w=.ok v' w/\VR ρ v v':=by
 unfold gM at h
 split at h
 . rename_i cs fs hfs
   obtain⟨c',rfl,hc⟩:=hx.gR
   split at h
   . rename_i f hf
     obtain⟨v',h1,h2⟩:=A82 hc h w
     exact⟨v',by simp[Instr.field,run_underlying (AM1 hfs),hf,asAgg,h1],h2⟩
   . simp at h
 . simp at h
theorem Bl1{P:Program}{ρ:Rho}{t:TypeId}{x i v:V}{x' i':Value}(hx:VR ρ x x')(hi:VR ρ i i')(h:dU P t x i=some v)(w:World):∃v',(Instr.index t x' i').run P w=.ok v' w/\VR ρ v v':=by
 unfold dU at h
 split at h
 . rename_i cs k n
   obtain⟨c',rfl,hc⟩:=hx.gR
   have:=hi.bD;subst this
   split at h
   . rename_i len e hu
     split at h
     . rename_i s hs
       split at h
       . rename_i hn
         obtain⟨v',h1,h2⟩:=A82 hc h w
         exact⟨v',by simp[Instr.index,asIntOf,run_underlying hu,hn,Ab8 hs,h1],h2⟩
       . simp at h
     . simp at h
   . simp at h
 . rename_i s k n
   obtain⟨s',rfl,rfl⟩:=hx.fg
   have:=hi.bD;subst this
   split at h
   . rename_i hu
     split at h
     . rename_i hn
       cases hq:s'.data.toList[n.toNat]? with
       |none=>simp[hq]at h
       |some b =>
        simp[hq]at h;subst h
        have hq':s'[n.toNat]?=some b:=by
         have:s'.data[n.toNat]?=some b:=by simpa using hq
         rw[Array.getElem?_eq_some_iff]at this
         obtain⟨hlt,he⟩:=this
         rw[getElem?_pos s' n.toNat hlt]
         exact congrArg some he
        exact⟨.int .u8 b.toNat,by simp[Instr.index,asIntOf,run_underlying hu,hn,hq'],.int _ _⟩
     . simp at h
   . simp at h
 . simp at h
theorem AQ1{P:Program}{ρ:Rho}{t:TypeId}{x v:V}{x':Value}{i:Nat}(hx:VR ρ x x')(h:ae P t x i=some v)(w:World):∃v',(Instr.fieldAt t x' i).run P w=.ok v' w/\VR ρ v v':=by
 unfold ae at h
 split at h
 . rename_i b o fs hfs
   obtain⟨y,d,hb,rfl⟩:=hx.ff
   split at h
   . rename_i f hf
     split at h
     . rename_i n hn
       simp at h;subst h
       refine⟨.pointer (some ⟨y,o+d+f.offset,none⟩),?_,?_⟩
       . simp[Instr.fieldAt,run_underlying (AM1 hfs),hf,Instr.sureAddr,fieldPlace,Ab8 hn,Addr.add_lit]
       . rw[show o+d+f.offset=(o+f.offset)+d by omega];exact .ptr hb
     . simp at h
   . simp at h
 . simp at h
theorem AQ2{P:Program}{ρ:Rho}{t:TypeId}{x i v:V}{x' i':Value}(hx:VR ρ x x')(hi:VR ρ i i')(h:aj P t x i=some v)(w:World):∃v',(Instr.indexAt t x' i').run P w=.ok v' w/\VR ρ v v':=by
 unfold aj at h
 split at h
 . rename_i len e b o k n hu
   obtain⟨y,d,hb,rfl⟩:=hx.ff
   have:=hi.bD;subst this
   split at h
   . rename_i s hs
     split at h
     . rename_i hn
       simp at h;subst h
       refine⟨.pointer (some ⟨y,o+d+n.toNat*s,none⟩),?_,?_⟩
       . simp[Instr.indexAt,asIntOf,run_underlying hu,Instr.sureAddr,hn,Ab8 hs,Addr.add_lit]
       . rw[show o+d+n.toNat*s=(o+n.toNat*s)+d by omega];exact .ptr hb
     . simp at h
   . simp at h
 . rename_i e b o len sz k n hu
   have:=hi.bD;subst this
   split at h
   . rename_i s hs
     split at h
     . rename_i hn
       obtain⟨hss,h0,hl⟩:=hn
       simp at h;subst h
       cases hx with
       |sl hb hn2 hc =>
        rename_i y d cap
        refine⟨.pointer (some ⟨y,o+d+n.toNat*s,none⟩),?_,?_⟩
        . simp[Instr.indexAt,asIntOf,run_underlying hu,h0,hl,Ab8 hs,Addr.add_lit]
        . rw[show o+d+n.toNat*s=(o+n.toNat*s)+d by omega];exact .ptr hb
       |slz o sz a hbz=>simp at hl;omega
     . simp at h
   . simp at h
 . simp at h
theorem Ax1{P:Program}{ρ:Rho}{top:Nat}{x:V}{x':Value}{n:Nat}(dflt:Nat)(hx:VR ρ x x')(h:aV dflt top (some x)=some n)(top':Nat)(ht:top<=top')(c:BoundsCode)(w:World):
 (Instr.sliceBound x' top' c).run P w=.ok n w/\n<=top:=by
 unfold aV at h
 split at h
 . rename_i e;simp at e
 . rename_i k i e
   simp at e;subst e
   have:=hx.bD;subst this
   split at h
   . rename_i hc
     simp at h;subst h
     refine⟨?_,by omega⟩
     have:0<=i/\i<=(top':Int):=⟨hc.1,by omega⟩
     simp[Instr.sliceBound,asIntOf,this]
   . simp at h
 . simp at h
inductive OR(ρ:Rho):Option V->Option Value->Prop
 |none:OR ρ none none
 |some {v:V} {v':Value} (h:VR ρ v v'):OR ρ (some v) (some v')
end Go.Sv
namespace Go.Sv
open Go
theorem Ao1{P:Program}{ρ:Rho}{n cap:Nat}{lo hi mx:Option V}{lo' hi' mx':Option Value}(hlo:OR ρ lo lo')(hhi:OR ρ hi hi')(hmx:OR ρ mx mx')(isSlice:Bool)
 {m h l:Nat} (hn:n<=cap) (h1:aV n n mx=some m) (h2:aV n (if mx.isSome then m else n) hi=some h) (h3:aV 0 h lo=some l) (h4:¬(mx.isSome=true/\hi.isNone=true)) (w:World):
 ∃m',(Instr.sliceBounds isSlice n cap lo' hi' mx').run P w=.ok (l,h,m') w/\h<=m'/\m'<=cap/\l<=h/\h<=n:=by
 have low:∀(c:BoundsCode),(match lo' with
  |some v=>Instr.sliceBound v h c
  |none=>pure 0:Sem Nat).run P w=.ok l w/\l<=h:=by
  intro c
  cases hlo with
  |none=>simp[aV]at h3;subst h3;exact⟨rfl,by omega⟩
  |some hv=>obtain⟨e1,e2⟩:=Ax1 (P:=P) 0 hv h3 h (Nat.le_refl _) c w;exact⟨e1,e2⟩
 cases hmx with
 |none =>
  simp[aV]at h1;subst h1
  cases hhi with
  |none =>
   simp[aV]at h2;subst h2
   refine⟨cap,?_,hn,Nat.le_refl _,(low .sliceB).2,Nat.le_refl _⟩
   simp only[Instr.sliceBounds,Sem.run_bind,Sem.run_pure,Result.andThen_ok]
   have:=(low .sliceB).1
   simp only[Option.isSome_none,Bool.false_eq_true,if_false]
   cases hlo with
   |none=>simp[aV]at h3;subst h3;rfl
   |some hv=>simp only[]at this;simp[this]
  |some hv =>
   simp only[Option.isSome_none,Bool.false_eq_true,if_false]at h2
   obtain⟨e1,e2⟩:=Ax1 (P:=P) n hv h2 cap hn (if isSlice=true then .sliceAcap else .sliceAlen) w
   refine⟨cap,?_,by omega,Nat.le_refl _,(low .sliceB).2,e2⟩
   simp only[Instr.sliceBounds,Sem.run_bind,Sem.run_pure,Result.andThen_ok,e1]
   have:=(low .sliceB).1
   simp only[Option.isSome_none,Bool.false_eq_true,if_false]
   cases hlo with
   |none=>simp[aV]at h3;subst h3;rfl
   |some hv=>simp only[]at this;simp[this]
 |some hm =>
  obtain⟨e1,e2⟩:=Ax1 (P:=P) n hm h1 cap hn (if isSlice=true then .slice3Acap else .slice3Alen) w
  cases hhi with
  |none=>simp at h4
  |some hv =>
   simp only[Option.isSome_some,if_true]at h2
   obtain⟨e3,e4⟩:=Ax1 (P:=P) n hv h2 m (Nat.le_refl _) .slice3B w
   refine⟨m,?_,e4,by omega,(low .slice3C).2,by omega⟩
   simp only[Instr.sliceBounds,Sem.run_bind,Sem.run_pure,Result.andThen_ok,e1,e3]
   have:=(low .slice3C).1
   simp only[Option.isSome_some,if_true]
   cases hlo with
   |none=>simp[aV]at h3;subst h3;rfl
   |some hv=>simp only[]at this;simp[this]
theorem Bl2{P:Program}{base:Nat}{W:World}{ρ:Rho}{A:AS}{w:World}(hI:Inv P base W ρ A w){t:TypeId}{x v:V}{x':Value}{lo hi mx:Option V}{lo' hi' mx':Option Value}
 (hx:VR ρ x x') (hlo:OR ρ lo lo') (hhi:OR ρ hi hi') (hmx:OR ρ mx mx') (hv:aE P t x lo hi mx A=some v):∃v',(Instr.sliceAt t x' lo' hi' mx').run P w=.ok v' w/\VR ρ v v':=by
 unfold aE at hv
 split at hv
 ·
  rename_i s hu
  obtain⟨s',rfl,rfl⟩:=hx.fg
  have hl:s'.data.toList.length=s'.size:=by rw[Array.length_toList];rfl
  split at hv
  . rename_i h hh
    cases hmx
    split at hv
    . rename_i l hl2
      simp at hv;subst hv
      obtain⟨m',e1,e2,e3,e4,e5⟩:=Ao1 (P:=P) (n:=s'.data.toList.length) (cap:=s'.data.toList.length) hlo hhi .none false (m:=s'.data.toList.length) (h:=h) (l:=l) (Nat.le_refl _) (by simp[aV]) (by simpa using hh) hl2 (by simp) w
      rw[hl]at e1
      refine⟨.string (s'.extract l h),?_,?_⟩
      . simp only[Instr.sliceAt,Sem.run_bind,run_underlying hu,Result.andThen_ok,Instr.slice,Option.isSome_none,Bool.false_eq_true,if_false,Sem.run_pure,e1]
      . have:=VR.str (ρ:=ρ) (s'.extract l h)
        rw[ByteArray.data_extract,Array.toList_extract]at this
        simp only[List.extract]at this
        rw[List.drop_take]
        exact this
    . simp at hv
  . simp at hv
 ·
  rename_i e b o n sz hu
  split at hv
  . rename_i s m hs hm
    split at hv
    . simp at hv
    . rename_i hc
      have hsz:s=sz:=Classical.byContradiction fun q=>hc (.inl q)
      have hmh:¬(mx.isSome=true/\hi.isNone=true):=fun q=>hc (.inr q)
      subst hsz
      split at hv
      . rename_i h hh
        split at hv
        . rename_i l hl
          simp at hv;subst hv
          cases hx with
          |sl hb hn2 kJ =>
           rename_i y d cap
           obtain⟨m',e1,e2,e3,e4,e5⟩:=Ao1 (P:=P) (cap:=cap) hlo hhi hmx true hn2 hm hh hl hmh w
           refine⟨.slice (if m'=l then some ⟨y,o+d,none⟩else some ⟨y,o+d+l*s,none⟩) (h-l) (m'-l),?_,?_⟩
           . simp only[Instr.sliceAt,Sem.run_bind,run_underlying hu,Result.andThen_ok,Instr.slice,e1,Ab8 hs,Sem.run_pure,Option.map_some,Addr.add_lit]
           . by_cases hml:m'=l
             . rw[if_pos hml]
               have e6:h-l=0:=by omega
               have e7:m'-l=0:=by omega
               rw[e6,e7]
               exact .slz _ _ _ hb
             . rw[if_neg hml,show o+d+l*s=(o+l*s)+d by omega]
               refine .sl hb (by omega) ?_
               have:l*s+(m'-l)*s=m'*s:=by rw[<- Nat.add_mul];congr 1;omega
               have:=Nat.mul_le_mul_right s e3
               omega
          |slz o sz a hbz =>
           obtain⟨m',e1,e2,e3,e4,e5⟩:=Ao1 (P:=P) (cap:=0) hlo hhi hmx true (Nat.le_refl _) hm hh hl hmh w
           have e6:l=0:=by omega
           have e7:h=0:=by omega
           have e8:m'=0:=by omega
           subst e6;subst e7;subst e8
           refine⟨.slice (some a) 0 0,?_,.slz _ _ _ hbz⟩
           simp only[Instr.sliceAt,Sem.run_bind,run_underlying hu,Result.andThen_ok,Instr.slice,e1,Ab8 hs,Sem.run_pure,if_true,Nat.sub_self]
        . simp at hv
      . simp at hv
  . simp at hv
 ·
  rename_i e hu
  split at hv
  . rename_i s m hs hm
    split at hv
    . simp at hv
    . rename_i hmh
      split at hv
      . rename_i h hh
        split at hv
        . rename_i l hl
          simp at hv;subst hv
          cases hx
          obtain⟨m',e1,e2,e3,e4,e5⟩:=Ao1 (P:=P) (n:=0) (cap:=0) hlo hhi hmx true (Nat.le_refl _) hm hh hl hmh w
          have e6:l=0:=by omega
          have e7:h=0:=by omega
          have e8:m'=0:=by omega
          subst e6;subst e7;subst e8
          refine⟨.slice none 0 0,?_,.ah⟩
          simp only[Instr.sliceAt,Sem.run_bind,run_underlying hu,Result.andThen_ok,Instr.slice,e1,Ab8 hs,Sem.run_pure,if_true,Nat.sub_self]
        . simp at hv
      . simp at hv
  . simp at hv
 ·
  rename_i len e b o hu
  split at hv
  . rename_i s h hs hh
    cases hmx
    split at hv
    . rename_i l rr hl hr
      simp at hv;subst hv
      obtain⟨y,d,hb,rfl⟩:=hx.ff
      obtain⟨m',e1,e2,e3,e4,e5⟩:=Ao1 (P:=P) (n:=len) (cap:=len) hlo hhi .none false (m:=len) (h:=h) (l:=l) (Nat.le_refl _) (by simp[aV]) (by simpa using hh) hl (by simp) w
      obtain⟨k,hk,hle,_,_⟩:=Ag7 hr
      obtain⟨k',hk',dx,_⟩:=hI.blk b y d hb
      rw[hk]at hk';cases hk'
      obtain⟨c,el,fr,hc,hcs,hfr,hcl,ef⟩:=dx.row
      refine⟨.slice (some (if m'=l then⟨y,o+d,none⟩else⟨y,o+d+l*(s+1),none⟩)) (h-l) (m'-l),?_,?_⟩
      . simp only[Instr.sliceAt,Sem.run_bind,run_underlying hu,Result.andThen_ok,Instr.sureAddr,Sem.run_pure,e1,Ab8 hs,Addr.add_lit]
      . by_cases hml:m'=l
        . rw[if_pos hml]
          have e6:h-l=0:=by omega
          have e7:m'-l=0:=by omega
          rw[e6,e7]
          exact .slz _ _ _ hb
        . rw[if_neg hml,show o+d+l*(s+1)=(o+l*(s+1))+d by omega]
          refine .sl hb (by omega) ?_
          have h7:l*(s+1)+(m'-l)*(s+1)=m'*(s+1):=by rw[<- Nat.add_mul];congr 1;omega
          have h8:=Nat.mul_le_mul_right (s+1) e3
          omega
    . simp at hv
  . simp at hv
 . simp at hv
end Go.Sv
namespace Go.Sv
open Go
structure oe(ρ:Rho)(cells:List V)(x:Nat)(size:Nat)(w:World):Prop where
 row:∃c el fr,w.heap[x]?=some (.cells c el fr)/\c.size=size/\lj fr c.size/\cells.length<=c.size/\∀(i:Nat) v,cells[i]?=some v->∃v',c[i]?=some v'/\VR ρ v v'
inductive QOk(ρ:Rho)(w w1:World):QR->Value->Prop
 |val {v:V} {v':Value} (h:VR ρ v v'):QOk ρ w w1 (.val v) v'
 |cu {cells:List V} {x n:Nat} (hx:w.heap.size<=x) (h:oe ρ cells x n w1):QOk ρ w w1 (.cu cells) (.pointer (some ⟨x,0,none⟩))
 |aB {cells:List V} {x n m sz cap:Nat} (hx:w.heap.size<=x) (h:oe ρ cells x m w1) (hn:n<=cap) (hm:cap*sz<=m):
  QOk ρ w w1 (.aB cells n sz) (.slice (some ⟨x,0,none⟩) n cap)
 |cq {x:Nat} (hx:w.heap.size<=x) (h:w1.heap[x]?=some (.map #[] 0)):QOk ρ w w1 .cq (.map (some x))
structure QW(P:Program)(base:Nat)(W:World)(ρ:Rho)(A:AS)(w w1:World):Prop where
 inv:Inv P base W ρ A w1
 fu:FU ρ w w1
theorem QW.refl{P:Program}{base:Nat}{W:World}{ρ:Rho}{A:AS}{w:World}(h:Inv P base W ρ A w):QW P base W ρ A w w:=⟨h,.refl _ _⟩
theorem QW.alloc{P:Program}{base:Nat}{W:World}{ρ:Rho}{A:AS}{w:World}(h:Inv P base W ρ A w)(o:Obj):QW P base W ρ A w (w.alloc o):=⟨h.alloc o,.alloc _ _ _⟩
theorem Al3{ρ:Rho}{w:World}{cells:List V}{c:Array Value}{el:TypeId}(h:VRs ρ cells c.toList):oe ρ cells w.heap.size c.size (w.alloc (.cells c el)):=
 ⟨c,el,(0,0),Ae5 _ _,rfl,.inl rfl,by have:=h.len;simp at this;omega,fun i v hv=>by
  obtain⟨v',h1,h2⟩:=h.getElem? hv
  exact⟨v',by simpa using h1,h2⟩⟩
theorem Ak5{P:Program}(el:TypeId)(c:Array Value)(w:World):(newRow el c).run P w=.ok ⟨w.heap.size,0,none⟩ (w.alloc (.cells c el)):=rfl
theorem Bl3{P:Program}{base:Nat}{W:World}{ρ:Rho}{A:AS}{w:World}(h:Inv P base W ρ A w){t:TypeId}{cs:List V}
 (hz:(aC P t).bind V.cells=some cs):∃v' w1,(Instr.alloc t true (.tuple #[])).run P w=.ok v' w1/\QW P base W ρ A w w1/\QOk ρ w w1 (.cu cs) v':=by
 cases hq:aC P t with
 |none=>simp[hq]at hz
 |some z =>
  simp[hq]at hz
  obtain⟨z',h1,h2⟩:=Aj8 hq w
  exact⟨_,w.alloc (.cells z'.cells t),by simp[Instr.alloc,h1,newVar,Ak5],.alloc h _,.cu (Nat.le_refl _) (Al3 ((h2 ρ).cells hz))⟩
theorem BL6{P:Program}{base:Nat}{W:World}{ρ:Rho}{A:AS}{w:World}(h:Inv P base W ρ A w){t:TypeId}{x:V}{x':Value}{cs:List V}
 (hx:VR ρ x x') (hc:x.cells=some cs):∃v' w1,(Instr.box t x').run P w=.ok v' w1/\QW P base W ρ A w w1/\QOk ρ w w1 (.cu cs) v' :=
 ⟨_,w.alloc (.cells x'.cells t),by simp[Instr.box,newVar,Ak5],.alloc h _,.cu (Nat.le_refl _) (Al3 (hx.cells hc))⟩
theorem AG6{P:Program}{base:Nat}{W:World}{ρ:Rho}{A:AS}{w:World}(h:Inv P base W ρ A w){t:TypeId}{r:Option V}{r':Option Value}
 (hr:OR ρ r r') (hm:(ia P t).isSome=true) (hi:∀v,r=some v->∃k n,v=.int k n):
 ∃v' w1,(Instr.makeMap t r').run P w=.ok v' w1/\QW P base W ρ A w w1/\QOk ρ w w1 .cq v':=by
 refine⟨_,w.alloc (.map #[] 0),?_,.alloc h _,.cq (Nat.le_refl _) (Ae5 _ _)⟩
 have hu:∃k e,P.underlying t=some (.map k e):=by
  unfold ia at hm
  split at hm
  . rename_i k e hu;exact⟨k,e,hu⟩
  . simp at hm
 obtain⟨k,e,hu⟩:=hu
 cases hr with
 |none=>simp[Instr.makeMap,newObj,Sem.run]
 |some hv =>
  obtain⟨kd,n,rfl⟩:=hi _ rfl
  rw[hv.bD]
  simp only[Instr.makeMap,Sem.run_bind,run_underlying hu,Result.andThen_ok,asInt,asIntOf,Sem.run_pure]
  rfl
theorem Ar3(z:List V):∀n,(du z n).length=n*z.length
 | 0=>by simp[du]
 |n+1=>by simp[du,Ar3 z n,Nat.add_mul,Nat.add_comm]
theorem AW6(z:List V):∀(n i:Nat),i<n*z.length->(du z n)[i]?=z[i%z.length]?
 | 0,i,h=>by simp at h
 |n+1,i,h=>by
  simp only[du]
  by_cases hi:i<z.length
  . rw[List.getElem?_append_left hi,Nat.mod_eq_of_lt hi]
  . rw[List.getElem?_append_right (by omega),AW6 z n (i-z.length) (by rw[Nat.add_mul]at h;omega)]
    congr 1
    rw[Nat.mod_eq_sub_mod (a:=i) (by omega)]
theorem AG7{ρ:Rho}{z:List V}{z':Array Value}(h:VRs ρ z z'.toList)(n k:Nat)(hk:z.length=k):
 VRs ρ (du z n) ((Array.range (n*k)).map (z'[· % z'.size]!)).toList:=by
 have hl:z.length=z'.size:=by have:=h.len;simpa using this
 refine⟨by simp[Ar3,hk],fun i v v' h1 h2=>?_⟩
 have hi:i<n*z.length:=by have:=(LG.1 h1).1;rwa[Ar3]at this
 rw[AW6 z n i hi]at h1
 have h0:0<z.length:=by
  rcases Nat.eq_zero_or_pos z.length with q |q
  . rw[q]at hi;simp at hi
  . exact q
 have hm:i%z.length<z.length:=Nat.mod_lt _ h0
 simp at h2
 obtain⟨w9,hw9,rfl⟩:=h2
 obtain⟨_,rfl⟩:∃_:i<n*k,i=w9:=by
  obtain⟨q1,q2⟩:=LG.1 hw9
  simp at q1 q2
  exact⟨q1,q2⟩
 exact h.at_ (i%z.length) v _ h1 (by
  rw[hl]at hm ⊢
  simp[hm,getElem!_pos z' (i%z'.size) hm])
theorem AJ6{P:Program}{base:Nat}{W:World}{ρ:Rho}{A:AS}{w:World}(h:Inv P base W ρ A w){t et:TypeId}{n s:Nat}{z cs:List V}{l:List (Nat×V)}{l':Array (Nat×Value)}
 (hu:P.underlying t=some (.slice et)) (hs:szT P et=some (s+1)) (hz:(aC P et).bind V.cells=some z) (hl:PR ρ l l'.toList) (hzl:z.length=s+1) (hn:n*(s+1)<=16777216)
 (hf:eP (fun i=>some (i*(s+1),s+1)) (du z n) l=some cs):
 ∃v' w1,(Instr.buildSlice t n l').run P w=.ok v' w1/\QW P base W ρ A w w1/\QOk ρ w w1 (.aB cs n (s+1)) v':=by
 obtain⟨i,zv,hi,hiz,his,hzr⟩:=Ap8 hs hz
 have hzs:zv.cells.size=s+1:=by have:=(hzr ρ).len;simp at this;omega
 have hlen:cs.length=n*(s+1):=by
  have key:∀(parts:List (Nat×V)) (cells out:List V),eP (fun i=>some (i*(s+1),s+1)) cells parts=some out->out.length=cells.length:=by
   intro parts
   induction parts with
   |nil=>intro cells out q;simp[eP]at q;rw[q]
   |cons p parts ih =>
    intro cells out q
    obtain⟨i,v⟩:=p
    unfold eP at q
    split at q
    . split at q
      . rename_i hc;rw[ih _ _ q,AV7 (by omega)]
      . simp at q
    . simp at q
  rw[key _ _ _ hf,Ar3,hzl]
 have fin:∀(arr:Array Value),VRs ρ (du z n) arr.toList ->
  ∃out',Instr.fill (fun i=>some (i*(s+1),s+1)) arr l'.toList=some out'/\VRs ρ cs out'.toList:=fun arr ha=>AD2 _ hl ha hf
 have kg:¬n*(s+1)>2^24:=by omega
 have hZ:=AG7 (hzr ρ) n (s+1) hzl
 by_cases h0:n=0
 . subst h0
   obtain⟨out',h1,h2⟩:=fin ((Array.range (0*(s+1))).map ((#[]:Array Value)[· % (#[]:Array Value).size]!)) ⟨by simp[du],fun i v v' a b=>by simp[du]at a⟩
   refine⟨_,w.alloc (.cells out' et),?_,.alloc h _,.aB (Nat.le_refl _) (Al3 h2) (Nat.le_refl _) (by simp)⟩
   simp only[Instr.buildSlice,Sem.run_bind,run_underlying hu,Result.andThen_ok,Ab8 hs,if_neg kg]
   simp only[Nat.zero_mul,if_true,Sem.run_bind,Sem.run_pure,Result.andThen_ok]at h1 ⊢
   rw[h1]
   simp[Ak5]
 . have h0':¬n*(s+1)=0:=by
    intro q;rcases Nat.mul_eq_zero.1 q with q |q
    . exact h0 q
    . omega
   obtain⟨out',h1,h2⟩:=fin _ hZ
   have hsz:out'.size=n*(s+1):=by have:=h2.len;simp at this;omega
   refine⟨_,w.alloc (.cells out' et),?_,.alloc h _,.aB (Nat.le_refl _) (Al3 h2) (Nat.le_refl _) (by omega)⟩
   have hzv:(zeroValue et).run P w=.ok zv w:=by simp[zeroValue,typeInfo,hi,hiz]
   simp only[Instr.buildSlice,Sem.run_bind,run_underlying hu,Result.andThen_ok,Ab8 hs,if_neg kg,if_neg h0',hzv,Sem.run_pure,h1]
   simp[Ak5]
theorem A22{n:Int}(h0:0<=n)(h1:n<=9223372036854775807):IntKind.i64.wrap n=n:=by
 rw[IntKind.wrap_i64]
 omega
theorem AG8{P:Program}(n:Nat)(w:World):(askRoom n).run P w=.ok () w:=by
 unfold askRoom
 split<;>rfl
theorem AQ3{P:Program}{base:Nat}{W:World}{ρ:Rho}{A:AS}{w:World}(h:Inv P base W ρ A w){t et:TypeId}{s by_:Nat}{n:Int}{k k':IntKind}{z:List V}
 (hu:P.underlying t=some (.slice et)) (hs:szT P et=some (s+1)) (hb:ct P et=some by_) (hz:(aC P et).bind V.cells=some z) (hzl:z.length=s+1)
 (h0:0<=n) (hn:n<=9223372036854775807) (hbn:by_*n<=281474976710656):
 ∃v' w1,(Instr.makeSlice t (.int k n) (.int k' n)).run P w=.ok v' w1/\QW P base W ρ A w w1/\QOk ρ w w1 (.aB (du z n.toNat) n.toNat (s+1)) v':=by
 obtain⟨i,zv,hi,hiz,his,hzr⟩:=Ap8 hs hz
 have hzs:zv.cells.size=s+1:=by have:=(hzr ρ).len;simp at this;omega
 have hib:i.bytes=by_:=by simpa[ct,hi] using hb
 have hw:=A22 h0 hn
 have hZ:=AG7 (hzr ρ) n.toNat (s+1) hzl
 have hzv:(zeroValue et).run P w=.ok zv w:=by simp[zeroValue,typeInfo,hi,hiz]
 have rL:(typeInfo et).run P w=.ok i w:=by simp[typeInfo,hi]
 refine⟨_,w.alloc (.cells ((Array.range (n.toNat*(s+1))).map (zv.cells[· % zv.cells.size]!)) et),?_,.alloc h _,.aB (Nat.le_refl _) (Al3 hZ) (Nat.le_refl _) (by simp)⟩
 simp only[Instr.makeSlice,Sem.run_bind,run_underlying hu,Result.andThen_ok,asInt,asIntOf,Sem.run_pure,rL,hw,Ab8 hs]
 have hc2:¬(281474976710656:Int)<i.bytes*n:=by rw[hib];omega
 have hc3:¬n<0:=by omega
 by_cases hn0:n.toNat*(s+1)=0
 . simp[hc2,hc3,AG8,Ab8 hs,hn0,Ak5,show Array.range 0=#[] from rfl]
 . simp[hc2,hc3,AG8,Ab8 hs,hn0,Ak5,hzv]
end Go.Sv
namespace Go.Sv
open Go
theorem Inv.freeze{P:Program}{base:Nat}{W:World}{ρ:Rho}{A:AS}{w:World}(h:Inv P base W ρ A w){x:Nat}{c:Array Value}{el:TypeId}{fr:Nat×Nat}(o:Nat)
 (hx:w.heap[x]?=some (.cells c el fr)) (hb:base<=x) (hf:lj fr c.size) (ho:c.size<=o):
 Inv P base W ρ A (w.freeze ⟨x,o,none⟩ 1)/\(w.freeze ⟨x,o,none⟩ 1).heap.size=w.heap.size/\(∀i,i≠x->(w.freeze ⟨x,o,none⟩ 1).heap[i]?=w.heap[i]?) /\
  ∃fr',(w.freeze ⟨x,o,none⟩ 1).heap[x]?=some (.cells c el fr')/\lj fr' c.size:=by
 obtain⟨lo,hi⟩:=fr
 have jo:∀i,i≠x->(w.freeze ⟨x,o,none⟩ 1).heap[i]?=w.heap[i]?:=by
  intro i hi'
  simp only[World.freeze,Nat.one_ne_zero,if_false,Array.getElem?_modify]
  rw[if_neg (fun e=>hi' e.symm)]
 have eQ:(w.freeze ⟨x,o,none⟩ 1).heap[x]?=some (.cells c el (if lo == hi then(o,o+1)else(min lo o,max hi (o+1)))):=by
  simp only[World.freeze,Nat.one_ne_zero,if_false,Array.getElem?_modify,if_true,hx,Option.map_some]
 have rM:lj (if lo == hi then(o,o+1)else(min lo o,max hi (o+1))) c.size:=by
  split
  . exact .inr ho
  . rename_i hne
    rcases hf with hf |hf
    . exact absurd (by simpa using hf) hne
    . right;simp only[]at hf ⊢;omega
 have hsz:(w.freeze ⟨x,o,none⟩ 1).heap.size=w.heap.size:=by simp[World.freeze]
 refine⟨?_,hsz,jo,_,eQ,rM⟩
 refine { os:=h.os,tape:=h.tape,output:=h.output,size:=by rw[hsz];exact h.size,old:=?_,blk:=?_,inj:=h.inj,fam:=h.fam,own:=h.own,map:=?_,dX:=h.dX,it:=?_,dY:=h.dY,lp:=?_,dZ:=h.dZ }
 . intro i hi;rw[jo i (by omega)];exact h.old i hi
 . intro b1 x1 d1 hb1
   obtain⟨k1,h1,h2,h3⟩:=h.blk b1 x1 d1 hb1
   refine⟨k1,h1,?_,h3⟩
   by_cases hxx:x1=x
   . subst hxx
     obtain⟨c1,el1,fr1,hc1,oQ,pR,nU,jV⟩:=h2.row
     rw[hx]at hc1;cases hc1
     exact⟨c,el,_,eQ,oQ,fun _=>rM,nU,jV⟩
   . exact h2.world (jo x1 hxx)
 . intro r y hy
   obtain⟨h0,mo,es',h1,h2,h3⟩:=h.map r y hy
   exact⟨h0,mo,es',h1,by rw[jo y (fun e=>by subst e;rw[hx]at h2;simp at h2)];exact h2,h3⟩
 . intro r y hy
   obtain⟨h0,mo,es',h1,h2,h3⟩:=h.it r y hy
   exact⟨h0,mo,es',h1,by rw[jo y (fun e=>by subst e;rw[hx]at h2;simp at h2)];exact h2,h3⟩
 . intro r y hy
   obtain⟨h0,mo,es',h1,h2,h3⟩:=h.lp r y hy
   exact⟨h0,mo,es',h1,by rw[jo y (fun e=>by subst e;rw[hx]at h2;simp at h2)];exact h2,h3⟩
theorem Ao2{P:Program}{w:World}{a:Addr}{c:Array Value}{el:TypeId}{fr:Nat×Nat}(hx:w.heap[a.block]?=some (.cells c el fr)):
 (markStringish a).run P w=.ok () (w.freeze ⟨a.block,c.size,none⟩ 1):=by
 have hs:w.shape? a.block=some (el,c.size):=by simp[World.shape?,hx]
 simp[markStringish,shape,freeze,Sem.run,hs]
theorem Bv9{P:Program}{base:Nat}{W:World}{ρ:Rho}{A:AS}{w:World}(h:Inv P base W ρ A w){s d:TypeId}{x v:V}{x':Value}(hx:VR ρ x x')
 (hv:ic P s d x A=some v):∃v' w1,(convert s d x').run P w=.ok v' w1/\QW P base W ρ A w w1/\VR ρ v v':=by
 unfold ic at hv
 split at hv
 . rename_i b o n
   split at hv
   . rename_i hsd
     subst hsd
     split at hv
     . rename_i e hu
       split at hv
       . rename_i hue hk
         simp at hv;subst hv
         cases hx with
         |sl hb hn hc =>
          rename_i y d cap
          obtain⟨k,hk',hr,fH⟩:=h.blk b y d hb
          rw[hk]at hk';cases hk'
          obtain⟨c,el,fr,hcc,hcs,hfr,hcl,ef⟩:=hr.row
          obtain⟨h1,h2,h3,_⟩:=h.freeze c.size hcc (fH (by simp)) (hfr (by simp)) (Nat.le_refl _)
          refine⟨_,_,?_,⟨h1,⟨by rw[h2];exact Nat.le_refl _,fun i hi hn'=>h3 i (fun e=>hn' (by subst e;exact .inl ⟨b,d,hb⟩))⟩⟩,.sl hb hn hc⟩
          have hm:=Ao2 (P:=P) (w:=w) (a:=⟨y,o+d,none⟩) hcc
          simp[convert,run_underlying hu,run_underlying hue,hm]
       . simp at hv
     . simp at hv
   . simp at hv
 . simp at hv
theorem A23{P:Program}{base:Nat}{W:World}{ρ:Rho}{A:AS}{w:World}(h:Inv P base W ρ A w){s d et:TypeId}(b:ByteArray)
 (hs:P.underlying s=some .string) (hd:P.underlying d=some (.slice et)) (he:P.underlying et=some (.int .u8)):
 ∃v' w1,(convert s d (.string b)).run P w=.ok v' w1/\QW P base W ρ A w w1/\QOk ρ w w1 (.aB (b.data.toList.map fun u=>.int .u8 u.toNat) b.data.toList.length 1) v':=by
 have kJ:b.size<=(Question.appendCap b.size 0 et).cut (w.tape w.drawn (.appendCap b.size 0 et)):=Nat.le_add_right _ _
 generalize hcq:(Question.appendCap b.size 0 et).cut (w.tape w.drawn (.appendCap b.size 0 et))=cap at kJ
 let elems:Array Value:=b.data.map fun b=>.int .u8 b.toNat
 let c:Array Value:=elems++Array.replicate (cap-b.size) (.int .u8 0)
 have hes:elems.size=b.size:=by simp[elems]
 have hcs:c.size=cap:=by simp[c,hes];omega
 have hI:=h.drew.alloc (.cells c et)
 have dx:=Ae5 w.drew (.cells c et)
 obtain⟨h1,h2,h3,fr',h4,h5⟩:=hI.freeze (x:=w.heap.size) c.size dx h.size (.inl rfl) (Nat.le_refl _)
 refine⟨.slice (some ⟨w.heap.size,0,none⟩) b.size cap,(w.drew.alloc (.cells c et)).freeze ⟨w.heap.size,c.size,none⟩ 1,?_,⟨h1,⟨?_,fun i hi _=>?_⟩⟩,?_⟩
 . have hm:=Ao2 (P:=P) (w:=w.drew.alloc (.cells c et)) (a:=⟨w.heap.size,0,none⟩) dx
   simp only[convert,Sem.run_bind,run_underlying hs,run_underlying hd,run_underlying he,Result.andThen_ok,Conv.stringToBytes,choose,Sem.run,Question.forced,Bool.false_eq_true,if_false,hcq]
   exact congrArg (fun r=>Result.andThen r fun _ w'=>Result.ok (Value.slice (some ⟨w.heap.size,0,none⟩) b.size cap) w') hm
 . have:=FU.alloc ρ w.drew (.cells c et)
   have e1:=this.size
   show w.heap.size<=_
   rw[h2];exact e1
 . rw[h3 i (by show i≠w.heap.size;omega)]
   exact At5 w.drew _ hi
 . have hl:b.data.toList.length=b.size:=by rw[Array.length_toList];rfl
   rw[hl]
   refine .aB (Nat.le_refl _) ⟨c,et,fr',h4,rfl,h5,?_,fun i v hv=>?_⟩ kJ (by omega)
   . simp;rw[hcs];exact kJ
   . rw[List.getElem?_map]at hv
     cases hq:b.data.toList[i]? with
     |none=>simp[hq]at hv
     |some u =>
      simp[hq]at hv;subst hv
      have hi:i<b.data.toList.length:=(LG.1 hq).1
      refine⟨.int .u8 u.toNat,?_,.int _ _⟩
      have hi':i<elems.size:=by rw[hes,<- hl];exact hi
      show(elems++_)[i]?=_
      rw[Array.getElem?_append_left hi']
      simp at hq
      simp[elems,hq]
theorem AB3:∀{cs:List V} {bs:List UInt8},bytesOf cs=some bs->∃ns:List Int,cs=ns.map (V.int .u8)/\bs=ns.map fun n=>UInt8.ofNat n.toNat
 |[],bs,h=>by simp[bytesOf]at h;subst h;exact⟨[],rfl,rfl⟩
 |c::r,bs,h=>by
  unfold bytesOf at h
  split at h
  . rename_i h0;simp at h0
  . rename_i n r' h0
    simp at h0
    obtain⟨rfl,rfl⟩:=h0
    cases hq:bytesOf r with
    |none=>simp[hq]at h
    |some l =>
     simp[hq]at h;subst h
     obtain⟨ns,rfl,rfl⟩:=AB3 hq
     exact⟨n::ns,rfl,rfl⟩
  . simp at h
theorem AG9{P:Program}{base:Nat}{W:World}{ρ:Rho}{A:AS}{w:World}(h:Inv P base W ρ A w){s d:TypeId}{x v:V}{x':Value}(hx:VR ρ x x')
 (hv:aU P s d x A=some v):∃v',(convert s d x').run P w=.ok v' w/\VR ρ v v':=by
 unfold aU at hv
 split at hv
 . rename_i k n
   split at hv
   . rename_i us kd hs hd
     simp at hv;subst hv
     rw[hx.bD]
     refine⟨_,?_,.int _ _⟩
     simp only[convert,Sem.run_bind,run_underlying hs,run_underlying hd,Result.andThen_ok]
     cases us<;>rfl
   . simp at hv
 . rename_i b
   split at hv
   . rename_i hs hd
     simp at hv;subst hv
     obtain⟨s',rfl,rfl⟩:=hx.fg
     exact⟨_,by simp[convert,run_underlying hs,run_underlying hd],.str _⟩
   . simp at hv
 . split at hv
   . rename_i e hs hd
     split at hv
     . rename_i he
       simp at hv;subst hv
       cases hx
       exact⟨_,by simp[convert,run_underlying hs,run_underlying hd,run_underlying he,Conv.bytesToString],.str ByteArray.empty⟩
     . simp at hv
   . simp at hv
 . rename_i b o n sz
   split at hv
   . rename_i e hs hd
     split at hv
     . rename_i he
       split at hv
       . rename_i hsz
         subst hsz
         split at hv
         . rename_i cs hr
           cases hq:bytesOf cs with
           |none=>simp[hq]at hv
           |some bs =>
            simp[hq]at hv;subst hv
            obtain⟨ns,rfl,rfl⟩:=AB3 hq
            cases hx with
            |sl hb hn hc =>
             rename_i y dd cap
             obtain⟨cs',h1,h2,h3⟩:=An6 h hb hr
             have pq:=Aj0 (P:=P) h2 h3
             have hcs:cs'=ns.map (Value.int .u8):=by
              apply List.ext_getElem?
              intro i
              cases hi:ns[i]? with
              |none =>
               have:ns.length<=i:=List.getElem?_eq_none_iff.1 hi
               have e1:=h1.len
               simp at e1
               rw[List.getElem?_eq_none (by omega)]
               simp[hi]
              |some m =>
               obtain⟨u,e1,e2⟩:=h1.getElem? (i:=i) (v:=.int .u8 m) (by simp[hi])
               rw[e1,e2.bD]
               simp[hi]
             rw[hcs]at pq
             refine⟨.string (ns.foldl (fun r n=>r.push (UInt8.ofNat n.toNat)) ByteArray.empty),?_,?_⟩
             . rw[run_convert_bytes_string w s d e _ _ _ hs he hd]
               exact run_bytesToString w _ _ _ ns pq
             . rw[foldl_push_bytes]
               have:=VR.str (ρ:=ρ) ⟨(ByteArray.empty.data++(ns.map fun n=>UInt8.ofNat n.toNat).toArray)⟩
               simpa using this
            |slz o sz a hbz =>
             obtain⟨k,_,_,hk,hl⟩:=Ag7 hr
             have:ns=[]:=List.length_eq_zero_iff.1 (by simpa using hl)
             subst this
             refine⟨.string ByteArray.empty,?_,.str ByteArray.empty⟩
             rw[run_convert_bytes_string w s d e _ _ _ hs he hd]
             have h0:(loadCells a 0).run P w=.ok #[] w:=by simpa using run_loadCells_list (P:=P) w a [] (fun j v hj=>by simp at hj)
             exact run_bytesToString w a 0 0 [] (by simpa using h0)
         . simp at hv
       . simp at hv
     . simp at hv
   . simp at hv
 . simp at hv
theorem Bw0{P:Program}{ρ:Rho}{t:TypeId}{x v:V}{x':Value}(hx:VR ρ x x')(hv:jS P t x=some v)(w:World):
 ∃v',(Instr.arrayAt t x').run P w=.ok v' w/\VR ρ v v':=by
 unfold jS at hv
 split at hv
 . rename_i n e b o len sz hu
   split at hv
   . rename_i hle
     simp at hv;subst hv
     cases hx with
     |sl hb hn hc=>exact⟨_,by simp[Instr.arrayAt,run_underlying hu,Nat.not_lt.2 hle],.ptr hb⟩
   . simp at hv
 . simp at hv
end Go.Sv
namespace Go.Sv
open Go
theorem BL7{P:Program}{base:Nat}{W:World}{ρ:Rho}{A:AS}{w:World}(h:Inv P base W ρ A w){t ty:TypeId}{x v:V}{x':Value}(hx:VR ρ x x')
 (hv:dr P t x A=some v):∃v',(Builtin.len_ #[t] ty #[x']).run P w=.ok v' w/\VR ρ v v':=by
 unfold dr at hv
 split at hv
 . rename_i s hu
   simp at hv;subst hv
   obtain⟨s',rfl,rfl⟩:=hx.fg
   refine⟨.int .i64 s'.size,by simp[Builtin.len_,run_underlying hu,goInt],?_⟩
   have:(s'.data.toList.length:Int)=s'.size:=by rw[Array.length_toList];rfl
   rw[this];exact .int _ _
 . rename_i n e hu
   simp at hv;subst hv
   exact⟨.int .i64 n,by simp[Builtin.len_,run_underlying hu,goInt],.int _ _⟩
 . rename_i e b o n sz hu
   simp at hv;subst hv
   cases hx with
   |sl hb hn hc=>exact⟨.int .i64 n,by simp[Builtin.len_,run_underlying hu,goInt],.int _ _⟩
   |slz o sz a hb=>exact⟨.int .i64 0,by simp[Builtin.len_,run_underlying hu,goInt],.int _ _⟩
 . rename_i e hu
   simp at hv;subst hv
   cases hx
   exact⟨.int .i64 0,by simp[Builtin.len_,run_underlying hu,goInt],.int _ _⟩
 . rename_i hu
   simp at hv;subst hv
   cases hx
   exact⟨.int .i64 0,by simp[Builtin.len_,run_underlying hu,goInt],.int _ _⟩
 . rename_i r hu
   cases hx with
   |map hr =>
    rename_i y
    obtain⟨_,mo,es',h1,h2,h3⟩:=h.map r y hr
    simp[h1]at hv;subst hv
    refine⟨.int .i64 es'.size,?_,?_⟩
    . have:=Ac1 (P:=P) h2 rfl
      simp[Builtin.len_,run_underlying hu,goInt,this]
    . have:(mo.es.length:Int)=es'.size:=by rw[h3.len];simp
      rw[this];exact .int _ _
 . simp at hv
theorem AM2{P:Program}{ρ:Rho}(w:World)(k:IntKind):∀{l:List V} {l':List Value} {x:Int} {v:V},VRs ρ l l'->eX (fun x y=>if y>x then y else x) k x l=some v ->
 ∃v',(l'.foldlM Builtin.max2 (.int k x)).run P w=.ok v' w/\VR ρ v v'
 |[],l',x,v,hl,h=>by
  rw[hl.dI];simp[eX]at h;subst h
  exact⟨.int k x,by simp,.int _ _⟩
 |y::l,l',x,v,hl,h=>by
  obtain⟨y',r',rfl,h1,h2⟩:=hl.cons_inv
  unfold eX at h
  split at h
  . rename_i q;simp at q
  . rename_i j z r q
    simp at q
    obtain⟨rfl,rfl⟩:=q
    split at h
    . rename_i hjk
      subst hjk
      rw[h1.bD]
      obtain⟨v',e1,e2⟩:=AM2 w j h2 h
      refine⟨v',?_,e2⟩
      simp only[List.foldlM_cons,Sem.run_bind,Builtin.max2,Sem.run_pure,Result.andThen_ok]
      exact e1
    . simp at h
  . simp at h
theorem AM3{P:Program}{ρ:Rho}(w:World)(k:IntKind):∀{l:List V} {l':List Value} {x:Int} {v:V},VRs ρ l l'->eX (fun x y=>if y<x then y else x) k x l=some v ->
 ∃v',(l'.foldlM Builtin.min2 (.int k x)).run P w=.ok v' w/\VR ρ v v'
 |[],l',x,v,hl,h=>by
  rw[hl.dI];simp[eX]at h;subst h
  exact⟨.int k x,by simp,.int _ _⟩
 |y::l,l',x,v,hl,h=>by
  obtain⟨y',r',rfl,h1,h2⟩:=hl.cons_inv
  unfold eX at h
  split at h
  . rename_i q;simp at q
  . rename_i j z r q
    simp at q
    obtain⟨rfl,rfl⟩:=q
    split at h
    . rename_i hjk
      subst hjk
      rw[h1.bD]
      obtain⟨v',e1,e2⟩:=AM3 w j h2 h
      refine⟨v',?_,e2⟩
      simp only[List.foldlM_cons,Sem.run_bind,Builtin.min2,Sem.run_pure,Result.andThen_ok]
      exact e1
    . simp at h
  . simp at h
theorem BL8{P:Program}{ρ:Rho}(w:World)(ts:Array TypeId)(ty:TypeId){l:List V}{l':Array Value}{v:V}(hl:VRs ρ l l'.toList)(h:iU (fun x y=>if y>x then y else x) l=some v):
 ∃v',(Builtin.max_ ts ty l').run P w=.ok v' w/\VR ρ v v':=by
 unfold iU at h
 split at h
 . obtain⟨y',r',e,h1,h2⟩:=hl.cons_inv
   obtain⟨v',e1,e2⟩:=AM2 (P:=P) w _ h2 h
   exact⟨v',by simp only[Builtin.max_,e];rw[h1.bD];exact e1,e2⟩
 . simp at h
theorem BL9{P:Program}{ρ:Rho}(w:World)(ts:Array TypeId)(ty:TypeId){l:List V}{l':Array Value}{v:V}(hl:VRs ρ l l'.toList)(h:iU (fun x y=>if y<x then y else x) l=some v):
 ∃v',(Builtin.min_ ts ty l').run P w=.ok v' w/\VR ρ v v':=by
 unfold iU at h
 split at h
 . obtain⟨y',r',e,h1,h2⟩:=hl.cons_inv
   obtain⟨v',e1,e2⟩:=AM3 (P:=P) w _ h2 h
   exact⟨v',by simp only[Builtin.min_,e];rw[h1.bD];exact e1,e2⟩
 . simp at h
theorem Ah5{α β:Type}{P:Program}{w w1:World}{s:Sem α}{a:α}(f:α->β)(h:s.run P w=.ok a w1):(do pure (f (<- s)):Sem β).run P w=.ok (f a) w1:=by
 simp[h]
theorem BM0{P:Program}{ρ:Rho}{op:BinOp}{t:TypeId}{a b v:V}{a' b':Value}(ha:VR ρ a a')(hb:VR ρ b b')(h:aw P op t a b=some v)(x y:Operand)(w:World):
 ∃v',(do eqGuard op t x y a' b';binOp op t a' b':Sem Value).run P w=.ok v' w/\VR ρ v v':=by
 unfold aw at h
 split at h
 . rename_i k1 a1 k2 b1
   have:=ha.bD;subst this
   have:=hb.bD;subst this
   obtain⟨v',h1,h2⟩:=AW5 (P:=P) ρ k2 h w
   exact⟨v',by simp only[Sem.run_bind,Au8,Sem.run_pure,Result.andThen_ok];exact h1,h2⟩
 . rename_i k1 a1 k2 b1
   have:=ha.bD;subst this
   have:=hb.bD;subst this
   obtain⟨v',h1,h2⟩:=AW5 (P:=P) ρ k2 h w
   exact⟨v',by simp only[Sem.run_bind,Au8,Sem.run_pure,Result.andThen_ok];exact h1,h2⟩
 . have:=ha.bD;subst this
   have:=hb.bD;subst this
   split at h
   . rename_i hk
     subst hk
     obtain⟨v',h1,h2⟩:=BL4 (P:=P) ρ h t w
     exact⟨v',by simp only[Sem.run_bind,Au8,Sem.run_pure,Result.andThen_ok];exact h1,h2⟩
   . simp at h
 . obtain⟨a1,rfl,rfl⟩:=ha.fg
   obtain⟨b1,rfl,rfl⟩:=hb.fg
   obtain⟨v',h1,h2⟩:=BL5 (P:=P) ρ h t w
   exact⟨v',by simp only[Sem.run_bind,AJ4,Sem.run_pure,Result.andThen_ok];exact h1,h2⟩
 . cases hq:fO P t a b with
   |none=>simp[hq]at h
   |some r =>
    simp[hq]at h;subst h
    obtain⟨h1,h2,h3,_⟩:=BH8 hq ha hb .eql x y w
    exact⟨.bool r,by simp only[Sem.run_bind,h2,Result.andThen_ok,h3,h1,Sem.run_pure],.bool _⟩
 . cases hq:fO P t a b with
   |none=>simp[hq]at h
   |some r =>
    simp[hq]at h;subst h
    obtain⟨h1,h2,_,h3⟩:=BH8 hq ha hb .neq x y w
    exact⟨.bool (!r),by simp only[Sem.run_bind,h2,Result.andThen_ok,h3,h1,Sem.run_pure],.bool _⟩
 . simp at h
def EvR(ρ:Rho)(e:Env)(f:Operand->Value)(xs:Array Operand):Prop:=∀x∈xs,∀v,e.eval x=some v->VR ρ v (f x)
theorem Ah6{ρ:Rho}{e:Env}{f:Operand->Value}:∀{xs:List Operand} {vs:List V},(∀x∈xs,∀v,e.eval x=some v->VR ρ v (f x))->aD e xs=some vs->VRs ρ vs (xs.map f)
 |[],vs,_,h=>by simp[aD]at h;subst h;exact .nil _
 |x::xs,vs,hf,h=>by
  unfold aD at h
  split at h
  . rename_i v vs' h1 h2
    simp at h;subst h
    exact .cons (hf x (by simp) v h1) (Ah6 (fun y hy=>hf y (by simp[hy])) h2)
  . simp at h
theorem Ar4{ρ:Rho}{e:Env}{f:Operand->Value}:∀{xs:List (Nat×Operand)} {vs:List (Nat×V)},(∀x∈xs.map (·.2),∀v,e.eval x=some v->VR ρ v (f x))->a5 e xs=some vs ->
 PR ρ vs (xs.map fun(i,x)=>(i,f x))
 |[],vs,_,h=>by simp[a5]at h;subst h;exact .nil
 | (i,x)::xs,vs,hf,h=>by
  unfold a5 at h
  split at h
  . rename_i v vs' h1 h2
    simp at h;subst h
    exact .cons (hf x (by simp) v h1) (Ar4 (fun y hy=>hf y (by simp at hy ⊢;right;exact hy)) h2)
  . simp at h
theorem Ao3{ρ:Rho}{e:Env}{f:Operand->Value}{x:Option Operand}{v:Option V}(hf:∀y∈x.toArray,∀v,e.eval y=some v->VR ρ v (f y))(h:bR e x=some v):OR ρ v (x.map f):=by
 cases x with
 |none=>simp[bR]at h;subst h;exact .none
 |some y =>
  simp only[bR]at h
  cases h1:e.eval y with
  |none=>simp[h1]at h
  |some v' =>
   simp[h1]at h;subst h
   exact .some (hf y (by simp) v' h1)
def ki(P:Program)(base:Nat)(W:World)(ρ:Rho)(A:AS)(w:World)(s:Sem Next)(q:QR):Prop :=
 ∃v' w1,s.run P w=.ok (.value v') w1/\QW P base W ρ A w w1/\QOk ρ w w1 q v'
theorem ki.eb{P:Program}{base:Nat}{W:World}{ρ:Rho}{A:AS}{w:World}(h:Inv P base W ρ A w){s:Sem Value}{v:V}
 (hs:∃v',s.run P w=.ok v' w/\VR ρ v v'):ki P base W ρ A w (do pure (.value (<- s))) (.val v):=by
 obtain⟨v',h1,h2⟩:=hs
 exact⟨v',w,Ah5 Next.value h1,.refl h,.val h2⟩
theorem ki.ja{P:Program}{base:Nat}{W:World}{ρ:Rho}{A:AS}{w:World}(h:Inv P base W ρ A w){v:V}{v':Value}
 (hs:VR ρ v v'):ki P base W ρ A w (pure (.value v')) (.val v):=⟨v',w,rfl,.refl h,.val hs⟩
theorem ki.iu{P:Program}{base:Nat}{W:World}{ρ:Rho}{A:AS}{w:World}{s:Sem Value}{q:QR}
 (hs:∃v' w1,s.run P w=.ok v' w1/\QW P base W ρ A w w1/\QOk ρ w w1 q v'):ki P base W ρ A w (do pure (.value (<- s))) q:=by
 obtain⟨v',w1,h1,h2,h3⟩:=hs
 exact⟨v',w1,Ah5 Next.value h1,h2,h3⟩
theorem Af3{e:Env}{x:Operand}{g:V->Option V}{q:QR}(h:(((e.eval x).bind g).map QR.val)=some q):∃a v,e.eval x=some a/\g a=some v/\q=.val v:=by
 cases ha:e.eval x with
 |none=>simp[ha]at h
 |some a =>
  cases hg:g a with
  |none=>simp[ha,hg]at h
  |some v=>simp[ha,hg]at h;exact⟨a,v,rfl,hg,h.symm⟩
theorem Ax2{e:Env}{x y:Operand}{g:V->V->Option V}{q:QR}(h:(((e.eval x).bind fun a=>(e.eval y).bind fun b=>g a b).map QR.val)=some q):
 ∃a b v,e.eval x=some a/\e.eval y=some b/\g a b=some v/\q=.val v:=by
 cases ha:e.eval x with
 |none=>simp[ha]at h
 |some a =>
  cases hb:e.eval y with
  |none=>simp[ha,hb]at h
  |some b =>
   cases hg:g a b with
   |none=>simp[ha,hb,hg]at h
   |some v=>simp[ha,hb,hg]at h;exact⟨a,b,v,rfl,rfl,hg,h.symm⟩
theorem AW7{P:Program}{base:Nat}{W:World}{ρ:Rho}{A:AS}{w:World}(h:Inv P base W ρ A w){f:Operand->Value}{dst:Option Tmp}{x:Operand}{ty:TypeId}{pos:String}{after:Array Edge}{guard:Option (Nat×Bool)}
 {a v:V} (hx:VR ρ a (f x)) (hv:dE a=some v):ki P base W ρ A w (execOp f ⟨dst,.nilCheck x,ty,pos,after,guard⟩) (.val v):=by
 have key:∀z,f x=z->(match z with |.pointer (some _)=>True |.func (.func _) _ _=>True |.func (.yield _) _ _=>True | _=>False)->execOp f ⟨dst,.nilCheck x,ty,pos,after,guard⟩=pure (.value z):=by
  intro z hz hm
  simp only[execOp]
  rw[hz]
  split at hm<;>first |rfl |exact hm.elim
 unfold dE at hv
 split at hv
 . simp at hv;subst hv
   obtain⟨y,d,hb,e1⟩:=hx.ff
   rw[key _ rfl (by rw[e1];trivial)]
   exact .ja h hx
 . simp at hv;subst hv
   obtain⟨a',c',e1,_⟩:=hx.l7
   rw[key _ rfl (by rw[e1];trivial)]
   exact .ja h hx
 . simp at hv;subst hv
   have e1:∀l z,VR ρ (.yield l) z->∃y,z=.func (.yield y) #[] #[]:=by
    intro l z hz
    cases hz;exact⟨_,rfl⟩
   obtain⟨y,e1⟩:=e1 _ _ hx
   rw[key _ rfl (by rw[e1];trivial)]
   exact .ja h hx
 . simp at hv
set_option maxHeartbeats 1000000 in
theorem AW8{P:Program}{base:Nat}{W:World}{ρ:Rho}{A:AS}{w:World}(h:Inv P base W ρ A w)(f:Operand->Value)(e:Env)(o:Oper)(q:QR)
 (hf:EvR ρ e f o.op.operands) (hq:evQ P o e A=some q):ki P base W ρ A w (execOp f o) q:=by
 obtain⟨dst,op,ty,pos,after,guard⟩:=o
 cases op
 case move x =>
  obtain⟨a,v,h1,h2,rfl⟩:=Af3 hq
  cases h2
  exact .ja h (hf x (by simp[Op.operands]) _ h1)
 case assign x =>
  obtain⟨a,v,h1,h2,rfl⟩:=Af3 hq
  cases h2
  exact .ja h (hf x (by simp[Op.operands]) _ h1)
 case pick c a b =>
  simp only[evQ]at hq
  split at hq
  . rename_i hc
    obtain⟨x,v,h1,h2,rfl⟩:=Af3 hq
    cases h2
    have hcv:=(hf c (by simp[Op.operands]) _ hc).dR
    refine⟨f a,w,?_,.refl h,.val (hf a (by simp[Op.operands]) _ h1)⟩
    simp[execOp,hcv,asBool]
  . rename_i hc
    obtain⟨x,v,h1,h2,rfl⟩:=Af3 hq
    cases h2
    have hcv:=(hf c (by simp[Op.operands]) _ hc).dR
    refine⟨f b,w,?_,.refl h,.val (hf b (by simp[Op.operands]) _ h1)⟩
    simp[execOp,hcv,asBool]
  . simp at hq
 case alloc t =>
  simp only[evQ]at hq
  split at hq
  . rename_i cs hz
    simp at hq;subst hq
    exact .iu (Bl3 h hz)
  . simp at hq
 case box t x =>
  simp only[evQ]at hq
  split at hq
  . rename_i cs hz
    simp at hq;subst hq
    cases hx:e.eval x with
    |none=>simp[hx]at hz
    |some a =>
     simp[hx]at hz
     exact .iu (BL6 h (hf x (by simp[Op.operands]) _ hx) hz)
  . simp at hq
 case build t ps =>
  simp only[evQ]at hq
  cases hp:a5 e ps.toList with
  |none=>simp[hp]at hq
  |some l =>
   cases hv:au P t l with
   |none=>simp[hp,hv]at hq
   |some v =>
    simp[hp,hv]at hq;subst hq
    have hpr:=Ar4 (ρ:=ρ) (f:=f) (fun x hx v hv=>hf x (by simpa[Op.operands] using hx) v hv) hp
    exact .eb h (Bk9 (parts':=ps.map fun(i,x)=>(i,f x)) (by simpa using hpr) hv w)
 case buildSlice t n ps =>
  simp only[evQ]at hq
  split at hq
  . rename_i et hu
    split at hq
    . rename_i s z l hs hz hl
      split at hq
      . rename_i hc
        cases hfl:eP (fun i=>some (i*(s+1),s+1)) (du z n) l with
        |none=>simp[hfl]at hq
        |some cs =>
         simp[hfl]at hq;subst hq
         have hpr:=Ar4 (ρ:=ρ) (f:=f) (fun x hx v hv=>hf x (by simpa[Op.operands] using hx) v hv) hl
         have key:=AJ6 (n:=n) h hu hs hz (l':=ps.map fun(i,x)=>(i,f x)) (by simpa using hpr) (by omega) (by omega) hfl
         exact .iu key
      . simp at hq
    . simp at hq
  . simp at hq
 case load t x =>
  obtain⟨a,v,h1,h2,rfl⟩:=Af3 hq
  exact .eb h (AG1 h (hf x (by simp[Op.operands]) _ h1) h2)
 case nilCheck x =>
  obtain⟨a,v,h1,h2,rfl⟩:=Af3 hq
  exact AW7 h (hf x (by simp[Op.operands]) _ h1) h2
 case binOp op t x y yt =>
  obtain⟨a,b,v,h1,h2,h3,rfl⟩:=Ax2 hq
  exact .eb h (BM0 (hf x (by simp[Op.operands]) _ h1) (hf y (by simp[Op.operands]) _ h2) h3 x y w)
 case unOp op t x =>
  obtain⟨a,v,h1,h2,rfl⟩:=Af3 hq
  exact .eb h (B72 (hf x (by simp[Op.operands]) _ h1) h2 w)
 case convert s d x =>
  simp only[evQ]at hq
  split at hq
  . obtain⟨a,v,h1,h2,rfl⟩:=Af3 hq
    obtain⟨v',w1,e1,e2,e3⟩:=Bv9 h (hf x (by simp[Op.operands]) _ h1) h2
    exact .iu ⟨v',w1,e1,e2,.val e3⟩
  . split at hq
    . rename_i b hx
      have hxr:=hf x (by simp[Op.operands]) _ hx
      split at hq
      . rename_i et hs hd
        split at hq
        . rename_i he
          simp at hq;subst hq
          obtain⟨s',e1,rfl⟩:=hxr.fg
          show ki P base W ρ A w (do pure (.value (<- convert s d (f x)))) _
          rw[e1]
          exact .iu (A23 h s' hs hd he)
        . simp at hq
      . cases hv:aU P s d (.str b) A with
        |none=>simp[hv]at hq
        |some v =>
         simp[hv]at hq;subst hq
         exact .eb h (AG9 h hxr hv)
    . rename_i a _ hx
      cases hv:aU P s d a A with
      |none=>simp[hv]at hq
      |some v =>
       simp[hv]at hq;subst hq
       exact .eb h (AG9 h (hf x (by simp[Op.operands]) _ hx) hv)
    . simp at hq
 case sliceToArrayPointer t x =>
  obtain⟨a,v,h1,h2,rfl⟩:=Af3 hq
  exact .eb h (Bw0 (hf x (by simp[Op.operands]) _ h1) h2 w)
 case makeFunc fn first cap =>
  cases fn
  case func g =>
   simp only[evQ]at hq
   split at hq
   . rename_i a c h1 h2
     simp at hq;subst hq
     have ha:=Ah6 (ρ:=ρ) (f:=f) (fun x hx v hv=>hf x (by simp[Op.operands];left;simpa using hx) v hv) h1
     have hc:=Ah6 (ρ:=ρ) (f:=f) (fun x hx v hv=>hf x (by simp[Op.operands];right;simpa using hx) v hv) h2
     exact .eb h ⟨.func (.func g) (first.map f) (cap.map f),by simp[Instr.makeFunc],.pj g (by simpa using ha) (by simpa using hc)⟩
   . simp at hq
  all_goals simp[evQ]at hq
 case makeMap t r =>
  simp only[evQ]at hq
  split at hq
  . rename_i m h1 h2
    simp at hq;subst hq
    have:=Ao3 (ρ:=ρ) (f:=f) (fun y hy v hv=>hf y (by simpa[Op.operands] using hy) v hv) h2
    exact .iu (AG6 h this (by simp[h1]) (fun v hv=>by simp at hv))
  . rename_i m kd n h1 h2
    simp at hq;subst hq
    have:=Ao3 (ρ:=ρ) (f:=f) (fun y hy v hv=>hf y (by simpa[Op.operands] using hy) v hv) h2
    exact .iu (AG6 h this (by simp[h1]) (fun v hv=>by simp at hv;exact⟨_,_,hv.symm⟩))
  . simp at hq
 case makeSlice t l c =>
  simp only[evQ]at hq
  split at hq
  . rename_i et k1 n k2 m hu hl hc
    split at hq
    . rename_i s by_ z hs hb hz
      split at hq
      . rename_i jx
        obtain⟨c1,c2,c3,c4,c5⟩:=jx
        subst c3
        simp at hq;subst hq
        have e1:=(hf l (by simp[Op.operands]) _ hl).bD
        have e2:=(hf c (by simp[Op.operands]) _ hc).bD
        show ki P base W ρ A w (do pure (.value (<- Instr.makeSlice t (f l) (f c)))) _
        rw[e1,e2]
        exact .iu (AQ3 h hu hs hb hz c1 c2 c4 c5)
      . simp at hq
    . simp at hq
  . simp at hq
 case slice t x lo hi mx =>
  simp only[evQ]at hq
  split at hq
  . rename_i a l hh m h1 h2 h3 h4
    cases hv:aE P t a l hh m A with
    |none=>simp[hv]at hq
    |some v =>
     simp[hv]at hq;subst hq
     exact .eb h (Bl2 h (hf x (by simp[Op.operands]) _ h1)
      (Ao3 (f:=f) (fun y hy v hv=>hf y (by simp[Op.operands]at hy ⊢;simp[hy]) v hv) h2)
      (Ao3 (f:=f) (fun y hy v hv=>hf y (by simp[Op.operands]at hy ⊢;simp[hy]) v hv) h3)
      (Ao3 (f:=f) (fun y hy v hv=>hf y (by simp[Op.operands]at hy ⊢;simp[hy]) v hv) h4) hv)
  . simp at hq
 case fieldAddr t x i =>
  obtain⟨a,v,h1,h2,rfl⟩:=Af3 hq
  exact .eb h (AQ1 (hf x (by simp[Op.operands]) _ h1) h2 w)
 case field t x i =>
  obtain⟨a,v,h1,h2,rfl⟩:=Af3 hq
  exact .eb h (Bl0 (hf x (by simp[Op.operands]) _ h1) h2 w)
 case indexAddr t x i =>
  obtain⟨a,b,v,h1,h2,h3,rfl⟩:=Ax2 hq
  exact .eb h (AQ2 (hf x (by simp[Op.operands]) _ h1) (hf i (by simp[Op.operands]) _ h2) h3 w)
 case index t x i =>
  obtain⟨a,b,v,h1,h2,h3,rfl⟩:=Ax2 hq
  exact .eb h (Bl1 (hf x (by simp[Op.operands]) _ h1) (hf i (by simp[Op.operands]) _ h2) h3 w)
 case lookup t x k ok =>
  obtain⟨a,b,v,h1,h2,h3,rfl⟩:=Ax2 hq
  exact .eb h (AP9 h (hf x (by simp[Op.operands]) _ h1) (hf k (by simp[Op.operands]) _ h2) h3)
 case extract x i =>
  obtain⟨a,v,h1,h2,rfl⟩:=Af3 hq
  have hx:=hf x (by simp[Op.operands]) _ h1
  split at h2
  . rename_i vs
    obtain⟨c',e1,e2⟩:=hx.mG
    obtain⟨v',e3,e4⟩:=e2.getElem? h2
    refine .eb h ⟨v',?_,e4⟩
    have e5:c'[i]?=some v':=by simpa using e3
    rw[e1]
    simp[Instr.extract,e5]
  . simp at h2
 case call c =>
  obtain⟨callee,args,argTypes⟩:=c
  cases callee
  case builtin b =>
   cases b
   case len =>
    simp only[evQ]at hq
    split at hq
    . rename_i x t hx ht
      obtain⟨a,v,h1,h2,rfl⟩:=Af3 hq
      have hxa:args=#[x]:=by simpa using congrArg List.toArray hx
      have hta:argTypes=#[t]:=by simpa using congrArg List.toArray ht
      subst hxa;subst hta
      obtain⟨v',e1,e2⟩:=BL7 (ty:=ty) h (hf x (by simp[Op.operands,Call.operands]) _ h1) h2
      refine⟨v',w,?_,.refl h,.val e2⟩
      simp[execOp,resolve,invoke,builtin,e1]
    . simp at hq
   case max =>
    simp only[evQ]at hq
    cases hl:aD e args.toList with
    |none=>simp[hl]at hq
    |some l =>
     cases hm:iU (fun x y=>if y>x then y else x) l with
     |none=>simp only[hl,Option.bind_some,hm,Option.map_none]at hq;simp at hq
     |some v =>
      simp only[hl,Option.bind_some,hm,Option.map_some,Option.some.injEq]at hq;subst hq
      have hl':=Ah6 (ρ:=ρ) (f:=f) (fun x hx v hv=>hf x (by simp[Op.operands,Call.operands];simpa using hx) v hv) hl
      obtain⟨v',e1,e2⟩:=BL8 (P:=P) w argTypes ty (l':=args.map f) (by simpa using hl') hm
      refine⟨v',w,?_,.refl h,.val e2⟩
      simp[execOp,resolve,invoke,builtin,e1]
   case min =>
    simp only[evQ]at hq
    cases hl:aD e args.toList with
    |none=>simp[hl]at hq
    |some l =>
     cases hm:iU (fun x y=>if y<x then y else x) l with
     |none=>simp only[hl,Option.bind_some,hm,Option.map_none]at hq;simp at hq
     |some v =>
      simp only[hl,Option.bind_some,hm,Option.map_some,Option.some.injEq]at hq;subst hq
      have hl':=Ah6 (ρ:=ρ) (f:=f) (fun x hx v hv=>hf x (by simp[Op.operands,Call.operands];simpa using hx) v hv) hl
      obtain⟨v',e1,e2⟩:=BL9 (P:=P) w argTypes ty (l':=args.map f) (by simpa using hl') hm
      refine⟨v',w,?_,.refl h,.val e2⟩
      simp[execOp,resolve,invoke,builtin,e1]
   all_goals simp[evQ]at hq
  all_goals simp[evQ]at hq
 all_goals simp[evQ]at hq
end Go.Sv
namespace Go.Sv
open Go
theorem Inv.tp{P:Program}{base:Nat}{W:World}{ρ:Rho}{A:AS}{w:World}(h:Inv P base W ρ A w){r x:Nat}{mo:jQ}{es':Array MapEntry}
 (hr:ρ.m r=none) (hm:A.maps[r]?=some mo) (hx:w.heap[x]?=some (.map es' mo.clock)) (hn:¬ ρ.has x) (hb:base<=x) (he:MER ρ mo.es es'.toList):Inv P base W (ρ.im r x) A w:=by
 have hle:ρ.le (ρ.im r x):=Rho.lr hr
 refine { os:=h.os,tape:=h.tape,output:=h.output,size:=h.size,old:=h.old,blk:=?_,inj:=h.inj,fam:=h.fam,own:=h.own,map:=?_,dX:=?_,it:=?_,dY:=h.dY,lp:=?_,dZ:=h.dZ }
 . intro b y d hy
   obtain⟨k,h1,h2,h3⟩:=h.blk b y d hy
   exact⟨k,h1,h2.mono hle hy,h3⟩
 . intro r1 y hy
   simp only[Rho.im]at hy
   split at hy
   . rename_i e;subst e
     simp at hy;subst hy
     exact⟨hb,mo,es',hm,hx,he.mono hle⟩
   . obtain⟨h0,mo1,es1,h1,h2,h3⟩:=h.map r1 y hy
     exact⟨h0,mo1,es1,h1,h2,h3.mono hle⟩
 . intro r1 r2 y h1 h2
   simp only[Rho.im]at h1 h2
   split at h1<;>split at h2
   . omega
   . simp at h1;subst h1;exact absurd (.inr (.inl ⟨r2,h2⟩)) hn
   . simp at h2;subst h2;exact absurd (.inr (.inl ⟨r1,h1⟩)) hn
   . exact h.dX r1 r2 y h1 h2
 . intro i y hy
   obtain⟨h0,io,mo',h1,h2,h3⟩:=h.it i y hy
   refine⟨h0,io,mo',h1,h2,?_⟩
   rcases h3 with h3 |⟨r1,y1,e1,e2,e3⟩
   . exact .inl h3
   . exact .inr ⟨r1,y1,e1,e2,hle.m _ _ e3⟩
 . intro i y hy
   obtain⟨h0,r1,r',h1,h2,h3⟩:=h.lp i y hy
   exact⟨h0,r1,r',h1,h2,h3.mono hle⟩
def QR.gX(q:QR)(A0 A:AS)(ρ:Rho):Prop :=
 match q with
 |.val _=>True
 |.cu cells=>ρ.b A0.blk.length=none/\A.blk[A0.blk.length]?=some ⟨cells,.var⟩
 |.aB cells _ _=>ρ.b A0.blk.length=none/\A.blk[A0.blk.length]?=some ⟨cells,.arr A0.blk.length 0⟩
 |.cq=>ρ.m A0.maps.length=none/\A.maps[A0.maps.length]?=some ⟨[],0⟩
def QR.jy:QR->Bool |.cu _ |.aB ..=>true | _=>false
def QR.jX:QR->Bool |.cq=>true | _=>false
structure qg(ρ ρ':Rho)(q:QR)(A0:AS)(n:Nat):Prop where
 le:ρ.le ρ'
 has:∀x,x<n->ρ'.has x->ρ.has x
 b:∀i y,ρ'.b i=some y->ρ.b i=none->i=A0.blk.length/\q.jy=true
 m:∀i y,ρ'.m i=some y->ρ.m i=none->i=A0.maps.length/\q.jX=true
theorem Cw3{P:Program}{base:Nat}{W:World}{ρ:Rho}{A A0:AS}{w w1:World}{q:QR}{v':Value}(h:Inv P base W ρ A w1)(hb:base<=w.heap.size)(hlt:∀x,ρ.has x->x<w.heap.size)
 (hq:QOk ρ w w1 q v') (ht:q.gX A0 A ρ):∃ ρ',Inv P base W ρ' A w1/\VR ρ' (q.value A0) v'/\qg ρ ρ' q A0 w.heap.size:=by
 cases hq with
 |val hv=>exact⟨ρ,h,hv,.refl ρ,fun _ _ hh=>hh,fun i y h1 h2=>by simp[h1]at h2,fun i y h1 h2=>by simp[h1]at h2⟩
 |cu hx hr =>
  rename_i cells x n
  obtain⟨c,el,fr,h1,h2,h3,h4,h5⟩:=hr.row
  obtain⟨t1,t2⟩:=ht
  have gq:∀i d',ρ.b i≠some (x,d'):=fun i d' q=>by have:=hlt x (.inl ⟨i,d',q⟩);omega
  have hI:=h.lay (A':=A) (b:=A0.blk.length) (x:=x) (d:=0) (k:=⟨cells,.var⟩) t1 t2 (fun i k1 _ hk1=>hk1) (fun i k1 f β _ hn hk1 hkd=>h.own i k1 f β hn hk1 hkd) rfl rfl rfl h h1 (fun _=>h3) (by omega)
   (by simpa using h4) (by simpa using h5) (by simp) (fun i d' q=>absurd q (gq i d')) (fun b1 d1 k1 q=>absurd q (gq b1 d1)) (fun f β hk=>by simp at hk)
  refine⟨_,hI,?_,Rho.gp t1 (fun i d' q=>absurd q (gq i d')),fun y hy hh=>?_,fun i y e1 e2=>?_,fun i y e1 e2=>?_⟩
  . exact .ptr (o:=0) (x:=x) (d:=0) (by simp[Rho.bf])
  . rcases Rho.iD hh with hh |rfl
    . exact hh
    . omega
  . simp only[Rho.bf]at e1
    split at e1
    . rename_i e3;exact⟨e3,rfl⟩
    . rw[e2]at e1;simp at e1
  . rw[show(ρ.bf A0.blk.length x 0 c.size).m i=ρ.m i from rfl,e2]at e1;simp at e1
 |aB hx hr hn hm =>
  rename_i cells x n m sz cap
  obtain⟨c,el,fr,h1,h2,h3,h4,h5⟩:=hr.row
  obtain⟨t1,t2⟩:=ht
  have gq:∀i d',ρ.b i≠some (x,d'):=fun i d' q=>by have:=hlt x (.inl ⟨i,d',q⟩);omega
  have hI:=h.lay (A':=A) (b:=A0.blk.length) (x:=x) (d:=0) (k:=⟨cells,.arr A0.blk.length 0⟩) t1 t2 (fun i k1 _ hk1=>hk1) (fun i k1 f β _ hn hk1 hkd=>h.own i k1 f β hn hk1 hkd) rfl rfl rfl h h1 (fun _=>h3) (by omega)
   (by simpa using h4) (by simpa using h5) (by simp) (fun i d' q=>absurd q (gq i d')) (fun b1 d1 k1 q=>absurd q (gq b1 d1)) (fun f β hk=>by simp at hk;exact .inl hk.1.symm)
  refine⟨_,hI,?_,Rho.gp t1 (fun i d' q=>absurd q (gq i d')),fun y hy hh=>?_,fun i y e1 e2=>?_,fun i y e1 e2=>?_⟩
  . exact .sl (o:=0) (x:=x) (d:=0) (by simp[Rho.bf]) hn (by simp[Rho.bf];omega)
  . rcases Rho.iD hh with hh |rfl
    . exact hh
    . omega
  . simp only[Rho.bf]at e1
    split at e1
    . rename_i e3;exact⟨e3,rfl⟩
    . rw[e2]at e1;simp at e1
  . rw[show(ρ.bf A0.blk.length x 0 c.size).m i=ρ.m i from rfl,e2]at e1;simp at e1
 |cq hx h1 =>
  rename_i x
  obtain⟨t1,t2⟩:=ht
  have kg:¬ ρ.has x:=fun q=>by have:=hlt x q;omega
  have hI:=h.tp (r:=A0.maps.length) (x:=x) t1 t2 h1 kg (by omega) (.nil ρ)
  refine⟨_,hI,.map (by simp[Rho.im]),Rho.lr t1,fun y hy hh=>?_,fun i y e1 e2=>?_,fun i y e1 e2=>?_⟩
  . rcases Rho.mZ hh with hh |rfl
    . exact hh
    . omega
  . rw[show(ρ.im A0.maps.length x).b i=ρ.b i from rfl,e2]at e1;simp at e1
  . simp only[Rho.im]at e1
    split at e1
    . rename_i e3;exact⟨e3,rfl⟩
    . rw[e2]at e1;simp at e1
theorem QR.kA{P:Program}{base:Nat}{W:World}{ρ:Rho}{A:AS}{w:World}(h:Inv P base W ρ A w)(q:QR):q.gX A (q.state A) ρ:=by
 cases q with
 |val v=>trivial
 |cu cells=>exact⟨h.jn (Nat.le_refl _),Af7 A _⟩
 |aB cells n sz=>exact⟨h.jn (Nat.le_refl _),Af7 A _⟩
 |cq=>exact⟨h.pT (Nat.le_refl _),by simp[QR.state,AS.bQ]⟩
structure fj(A A':AS):Prop where
 blk:∀(b:Nat) k,A.blk[b]?=some k->A'.blk[b]?=some k
 maps:∀(r:Nat) m,A.maps[r]?=some m->A'.maps[r]?=some m
 its:A'.its=A.its
 loops:A'.loops=A.loops
 orc:A'.orc=A.orc
 odr:A'.odr=A.odr
theorem fj.refl(A:AS):fj A A:=⟨fun _ _ h=>h,fun _ _ h=>h,rfl,rfl,rfl,rfl⟩
theorem fj.trans{A B C:AS}(h:fj A B)(k:fj B C):fj A C :=
 ⟨fun b x q=>k.blk b x (h.blk b x q),fun b x q=>k.maps b x (h.maps b x q),k.its.trans h.its,k.loops.trans h.loops,k.orc.trans h.orc,k.odr.trans h.odr⟩
theorem AH0{A:AS}{k:jQ}{i:Nat}{k1:jQ}(h:A.maps[i]?=some k1):(A.bQ k).maps[i]?=some k1:=by
 have hi:=(LG.1 h).1
 simp[AS.bQ,List.getElem?_append_left hi,h]
theorem QR.grow(q:QR)(A:AS):fj A (q.state A):=by
 cases q with
 |val v=>exact .refl A
 |cu cells=>exact⟨fun b k h=>Ag8 h,fun _ _ h=>h,rfl,rfl,rfl,rfl⟩
 |aB cells n sz=>exact⟨fun b k h=>Ag8 h,fun _ _ h=>h,rfl,rfl,rfl,rfl⟩
 |cq=>exact⟨fun _ _ h=>h,fun r m h=>AH0 h,rfl,rfl,rfl,rfl⟩
theorem Ax3{A A':AS}(h:fj A A'):A.blk.length<=A'.blk.length:=by
 rcases Nat.lt_or_ge A'.blk.length A.blk.length with q |q
 . have h1:=h.blk A'.blk.length _ (LH q)
   have:=(LG.1 h1).1
   omega
 . exact q
theorem Ax4{A A':AS}(h:fj A A'):A.maps.length<=A'.maps.length:=by
 rcases Nat.lt_or_ge A'.maps.length A.maps.length with q |q
 . have h1:=h.maps A'.maps.length _ (LH q)
   have:=(LG.1 h1).1
   omega
 . exact q
theorem QR.own(q:QR)(A:AS){i:Nat}{k:Blk}{f β:Nat}(hk:(q.state A).blk[i]?=some k)(hd:k.kind=.arr f β):A.blk[i]?=some k∨(i=A.blk.length/\f=i):=by
 cases q with
 |val v=>exact .inl hk
 |cu cells =>
  rcases Aw5 hk with q |⟨q1,q2⟩
  . exact .inl q
  . rw[q2]at hd;simp at hd
 |aB cells n sz =>
  rcases Aw5 hk with q |⟨q1,q2⟩
  . exact .inl q
  . rw[q2]at hd;simp at hd;exact .inr ⟨q1,by rw[q1];exact hd.1.symm⟩
 |cq=>exact .inl hk
theorem Inv.state{P:Program}{base:Nat}{W:World}{ρ:Rho}{A:AS}{w:World}(h:Inv P base W ρ A w)(q:QR):Inv P base W ρ (q.state A) w:=by
 have hg:=q.grow A
 refine h.abs (fun i k _ hk=>hg.blk i k hk) (fun i k1 f β hn hk hd=>?_) (fun r mo _ hm=>hg.maps r mo hm) (fun r mo hm=>by rw[hg.its];exact hm) (fun r mo hm=>by rw[hg.loops];exact hm)
 rcases q.own A hk hd with e |⟨_,e⟩
 . exact h.own i k1 f β hn e hd
 . exact e
theorem Bl4{P:Program}{base:Nat}{W:World}{ρ:Rho}{A:AS}{w:World}(h:Inv P base W ρ A w)(f:Operand->Value)(e:Env)(o:Oper)(q:QR)
 (hf:EvR ρ e f o.op.operands) (hq:evQ P o e A=some q):
 ∃ ρ' v' w',(execOp f o).run P w=.ok (.value v') w'/\Adv P base W ρ A w ρ' (q.state A) w'/\VR ρ' (q.value A) v':=by
 obtain⟨v',w1,h1,h2,h3⟩:=AW8 h f e o q hf hq
 obtain⟨ρ',h4,h5,h6⟩:=Cw3 (A0:=A) (h2.inv.state q) h.size (fun x hx=>h.ik hx) h3 (q.kA h)
 have hg:=q.grow A
 refine⟨ρ',v',w1,h1,⟨h6.le,h4,h2.fu,⟨Ax3 hg,Ax4 hg,fun b hb _=>?_,fun r hr _=>?_⟩,⟨fun i x d e1 e2=>?_,fun i x e1 e2=>?_,h6.has⟩⟩,h5⟩
 . rw[hg.blk b _ (LH hb),LH hb]
 . rw[hg.maps r _ (LH hr),LH hr]
 . have:=(h6.b i _ e1 e2).1;omega
 . have:=(h6.m i _ e1 e2).1;omega
theorem Az6{A A':AS}(h:fj A A'){b o n:Nat}{cs:List V}(hr:A.range b o n=some cs):A'.range b o n=some cs:=by
 obtain⟨k,h1,h2,h3,_⟩:=Ag7 hr
 simp[AS.range,h.blk b k h1,h2,h3]
theorem Bl5{A A':AS}(h:fj A A'){b o:Nat}{v:V}(hr:A.cell b o=some v):A'.cell b o=some v:=by
 unfold AS.cell at hr ⊢
 cases hb:A.blk[b]? with
 |none=>simp[hb]at hr
 |some k=>rw[h.blk b k hb];simpa[hb] using hr
theorem A24{P:Program}{A A':AS}(h:fj A A'){t:TypeId}{x v:V}(hv:aa P t x A=some v):aa P t x A'=some v:=by
 unfold aa at hv ⊢
 split at hv
 . rename_i b o n e1 e2
   cases hr:A.range b o n with
   |none=>simp[hr]at hv
   |some cs=>rw[Az6 h hr];simpa[hr] using hv
 . rename_i b o e1
   exact Bl5 h hv
 . simp at hv
theorem A25{P:Program}{A A':AS}(h:fj A A'){s d:TypeId}{x v:V}(hv:ic P s d x A=some v):ic P s d x A'=some v:=by
 unfold ic at hv ⊢
 split at hv
 . rename_i b o n
   split at hv
   . split at hv
     . split at hv
       . rename_i h1 h2
         have h2':=h.blk _ _ h2
         simp[*]at hv ⊢
       . simp at hv
     . simp at hv
   . simp at hv
 . simp at hv
theorem AJ7{P:Program}{A A':AS}(h:fj A A'){s d:TypeId}{x v:V}(hv:aU P s d x A=some v):aU P s d x A'=some v:=by
 cases x
 case sl b o n sz =>
  simp only[aU]at hv ⊢
  split at hv
  . split at hv
    . split at hv
      . split at hv
        . rename_i cs hr
          have:=Az6 h hr
          simp[*]at hv ⊢
        . simp at hv
      . simp at hv
    . simp at hv
  . simp at hv
 all_goals exact hv
theorem AQ4{P:Program}{A A':AS}(h:fj A A'){t:TypeId}{x k v:V}{ok:Bool}(hv:cL P t x k ok A=some v):cL P t x k ok A'=some v:=by
 cases x
 case map r =>
  simp only[cL]at hv ⊢
  cases hm:A.maps[r]? with
  |none =>
   exfalso
   split at hv
   . simp at hv
   . simp only[hm,Option.map_none]at hv
     simp at hv
  |some mo=>rw[h.maps r mo hm];rw[hm]at hv;exact hv
 all_goals exact hv
theorem Bd4{P:Program}{A A':AS}(h:fj A A'){t:TypeId}{x v:V}(hv:dr P t x A=some v):dr P t x A'=some v:=by
 unfold dr at hv ⊢
 split at hv
 case h_6 =>
  rename_i r hu
  cases hm:A.maps[r]? with
  |none=>simp[hm]at hv
  |some mo=>rw[h.maps r mo hm];simpa[hm] using hv
 all_goals exact hv
theorem AW9{P:Program}{A A':AS}(h:fj A A'){t:TypeId}{x v:V}{lo hi mx:Option V}(hv:aE P t x lo hi mx A=some v):aE P t x lo hi mx A'=some v:=by
 unfold aE at hv ⊢
 split at hv
 case h_4 =>
  split at hv
  . split at hv
    . rename_i e3 e4
      rw[Az6 h e4,e3]
      exact hv
    . simp at hv
  . simp at hv
 all_goals exact hv
def tq(e e':Env)(xs:Array Operand):Prop:=∀x∈xs,e.eval x=e'.eval x
theorem Aj9{e e':Env}:∀{xs:List Operand},(∀x∈xs,e.eval x=e'.eval x)->aD e xs=aD e' xs
 |[],_=>rfl
 |x::xs,h=>by simp only[aD];rw[h x (by simp),Aj9 (fun y hy=>h y (by simp[hy]))]
theorem Al4{e e':Env}:∀{xs:List (Nat×Operand)},(∀x∈xs.map (·.2),e.eval x=e'.eval x)->a5 e xs=a5 e' xs
 |[],_=>rfl
 | (i,x)::xs,h=>by simp only[a5];rw[h x (by simp),Al4 (fun y hy=>h y (by simp at hy ⊢;exact .inr hy))]
theorem Ak0{e e':Env}{x:Option Operand}(h:∀y∈x.toArray,e.eval y=e'.eval y):bR e x=bR e' x:=by
 cases x with
 |none=>rfl
 |some y=>simp only[bR];rw[h y (by simp)]
theorem Bl6{P:Program}{A:AS}{o:Oper}{e e':Env}(h:tq e e' o.op.operands):evQ P o e A=evQ P o e' A:=by
 obtain⟨dst,op,ty,pos,after,guard⟩:=o
 cases op
 case build t ps =>
  simp only[evQ]
  rw[Al4 (e':=e') (fun x hx=>h x (by simpa[Op.operands] using hx))]
 case buildSlice t n ps =>
  simp only[evQ]
  rw[Al4 (e':=e') (fun x hx=>h x (by simpa[Op.operands] using hx))]
 case makeFunc fn first cap =>
  cases fn<;>simp only[evQ]
  rw[Aj9 (e':=e') (fun x hx=>h x (by simp[Op.operands];left;simpa using hx)),Aj9 (e:=e) (e':=e') (fun x hx=>h x (by simp[Op.operands];right;simpa using hx))]
 case makeMap t r =>
  simp only[evQ]
  rw[Ak0 (e':=e') (fun x hx=>h x (by simpa[Op.operands] using hx))]
 case slice t x lo hi mx =>
  simp only[evQ]
  rw[h x (by simp[Op.operands]),Ak0 (x:=lo) (e':=e') (fun x hx=>h x (by simp[Op.operands]at hx ⊢;simp[hx])),
   Ak0 (x:=hi) (e':=e') (fun x hx=>h x (by simp[Op.operands]at hx ⊢;simp[hx])),Ak0 (x:=mx) (e':=e') (fun x hx=>h x (by simp[Op.operands]at hx ⊢;simp[hx]))]
 case pick c a b =>
  simp only[evQ]
  rw[h c (by simp[Op.operands]),h a (by simp[Op.operands]),h b (by simp[Op.operands])]
 case call c =>
  obtain⟨callee,args,argTypes⟩:=c
  cases callee
  case builtin b =>
   have gL:aD e args.toList=aD e' args.toList:=Aj9 (fun x hx=>h x (by simp[Op.operands,Call.operands];simpa using hx))
   cases b
   case len =>
    simp only[evQ]
    split
    . rename_i x t hx ht
      rw [h x (by simp[Op.operands,Call.operands];have:x∈args.toList:=by rw[hx];simp
                  simpa using this)]
    . rfl
   case max=>simp only[evQ];rw[gL]
   case min=>simp only[evQ];rw[gL]
   all_goals rfl
  all_goals rfl
 all_goals first
  |rfl
  | (simp only[evQ];rename_i x;rw[h x (by simp[Op.operands])];done)
  | (simp only[evQ];rename_i x _;rw[h x (by simp[Op.operands])];done)
  | (simp only[evQ];rename_i x y;rw[h x (by simp[Op.operands]),h y (by simp[Op.operands])];done)
  | (simp only[evQ];rename_i x y _;rw[h x (by simp[Op.operands]),h y (by simp[Op.operands])];done)
theorem BM1{P:Program}{A A':AS}{o:Oper}{e:Env}{q:QR}(hq:evQ P o e A=some q)(hn:∀v,q≠.val v):evQ P o e A'=some q:=by
 have no:∀{x:Option V},x.map QR.val=some q->False:=by
  intro x hx
  cases x with
  |none=>simp at hx
  |some v=>simp at hx;exact hn v hx.symm
 obtain⟨dst,op,ty,pos,after,guard⟩:=o
 cases op
 case alloc t=>exact hq
 case box t x=>exact hq
 case buildSlice t n ps=>exact hq
 case makeSlice t l c=>exact hq
 case makeMap t r=>exact hq
 case pick c a b =>
  simp only[evQ]at hq
  split at hq
  . exact(no hq).elim
  . exact(no hq).elim
  . simp at hq
 case slice t x lo hi mx =>
  simp only[evQ]at hq
  split at hq
  . exact(no hq).elim
  . simp at hq
 case convert s d x =>
  simp only[evQ]at hq ⊢
  split at hq
  . exact(no hq).elim
  . rename_i hsd
    rw[if_neg hsd]
    split at hq
    . split at hq
      . split at hq
        . exact hq
        . simp at hq
      . exact(no hq).elim
    . exact(no hq).elim
    . simp at hq
 case makeFunc fn first cap=>cases fn<;>exact hq
 case call c =>
  obtain⟨callee,args,argTypes⟩:=c
  cases callee
  case builtin b =>
   cases b
   case len =>
    simp only[evQ]at hq
    split at hq
    . exact(no hq).elim
    . simp at hq
   all_goals exact hq
  all_goals exact hq
 all_goals first
  |exact hq
  |exact(no hq).elim
def iw(P:Program)(o:Oper):Bool :=
 match o.op with
 |.load .. | .lookup ..=>false
 |.slice t ..=>match P.underlying t with | some (.array _ _)=>false | _=>true
 |.convert s d _=>!(s == d) && (match P.underlying s with | some (.slice _)=>false | _=>true)
 |.call { callee:=.builtin .len,argTypes,.. }=>match argTypes.toList with | [t]=>(match P.underlying t with | some (.map _ _)=>false | _=>true) | _=>true
 | _=>true
theorem Bw1{P:Program}{A A':AS}{o:Oper}{e:Env}(hp:iw P o=true):evQ P o e A=evQ P o e A':=by
 obtain⟨dst,op,ty,pos,after,guard⟩:=o
 cases op
 case load=>simp[iw]at hp
 case lookup=>simp[iw]at hp
 case makeFunc fn first cap=>cases fn<;>rfl
 case slice t x lo hi mx =>
  simp only[iw]at hp
  have key:∀a l h m,aE P t a l h m A=aE P t a l h m A':=by
   intro a l h m
   unfold aE
   split
   case h_4=>rename_i hu;rw[hu]at hp;simp at hp
   all_goals rfl
  simp only[evQ,key]
 case convert s d x =>
  simp only[iw,Bool.and_eq_true,Bool.not_eq_true',beq_eq_false_iff_ne]at hp
  have key:∀a,aU P s d a A=aU P s d a A':=by
   intro a
   unfold aU
   split
   case h_4 =>
    split
    . rename_i hu _;rw[hu]at hp;simp at hp
    . rfl
   all_goals rfl
  simp only[evQ,key,if_neg hp.1]
 case call c =>
  obtain⟨callee,args,argTypes⟩:=c
  cases callee
  case builtin b =>
   cases b
   case len =>
    simp only[evQ]
    split
    . rename_i x t hx ht
      simp only[iw,ht]at hp
      have key:∀a,dr P t a A=dr P t a A':=by
       intro a
       unfold dr
       split
       case h_6=>rename_i hu;rw[hu]at hp;simp at hp
       all_goals rfl
      simp only[key]
    . rfl
   all_goals rfl
  all_goals rfl
 all_goals rfl
theorem AQ5{e:Env}{x:Operand}{g g':V->Option V}(h:∀a v,g a=some v->g' a=some v){q:QR}(hq:(((e.eval x).bind g).map QR.val)=some q):(((e.eval x).bind g').map QR.val)=some q:=by
 obtain⟨a,v,h1,h2,rfl⟩:=Af3 hq
 simp[h1,h a v h2]
theorem Bw2{e:Env}{x y:Operand}{g g':V->V->Option V}(h:∀a b v,g a b=some v->g' a b=some v){q:QR}
 (hq:(((e.eval x).bind fun a=>(e.eval y).bind fun b=>g a b).map QR.val)=some q):(((e.eval x).bind fun a=>(e.eval y).bind fun b=>g' a b).map QR.val)=some q:=by
 obtain⟨a,b,v,h1,h2,h3,rfl⟩:=Ax2 hq
 simp[h1,h2,h a b v h3]
theorem A83{P:Program}{A A':AS}(h:fj A A'){o:Oper}{e:Env}{q:QR}(hq:evQ P o e A=some q):evQ P o e A'=some q:=by
 obtain⟨dst,op,ty,pos,after,guard⟩:=o
 cases op
 case load t x=>exact AQ5 (fun a v hv=>A24 h hv) hq
 case lookup t x k ok=>exact Bw2 (fun a b v hv=>AQ4 h hv) hq
 case slice t x lo hi mx =>
  simp only[evQ]at hq ⊢
  split at hq
  . rename_i a l hh m h1 h2 h3 h4
    cases hv:aE P t a l hh m A with
    |none=>simp[hv]at hq
    |some v=>simp[hv]at hq;subst hq;simp[h1,h2,h3,h4,AW9 h hv]
  . simp at hq
 case convert s d x =>
  simp only[evQ]at hq ⊢
  split at hq
  . rename_i hsd
    rw[if_pos hsd]
    exact AQ5 (fun a v hv=>A25 h hv) hq
  . rename_i hsd
    rw[if_neg hsd]
    split at hq
    . exact hq
    . rename_i a _ hx
      cases hv:aU P s d a A with
      |none=>simp[hv]at hq
      |some v=>simp[hv]at hq;subst hq;simp[AJ7 h hv]
    . simp at hq
 case makeFunc fn first cap=>cases fn<;>exact hq
 case call c =>
  obtain⟨callee,args,argTypes⟩:=c
  cases callee
  case builtin b =>
   cases b
   case len =>
    simp only[evQ]at hq ⊢
    split at hq
    . rename_i x t hx ht
      exact AQ5 (fun a v hv=>Bd4 h hv) hq
    . simp at hq
   all_goals exact hq
  all_goals exact hq
 all_goals exact hq
end Go.Sv
namespace Go.Sv
open Go
def dS(o:Oper):Bool:=match o.op with |.next ..=>true | _=>false
def cJ(m:Machine):Bool :=
 match m.gs[0]? with
 |some g=>match g.frame.todo with
  |.inRegion ops (i::_)::_=>match ops[i]? with
   |some o=>dS o && Region.wanted o (yielded ops g.frame.tmps)
   |none=>false
  | _=>false
 |none=>false
inductive Path(P:Program)(m0:Machine):Nat->Machine->Prop
 |refl:Path P m0 0 m0
 |step {c:Nat} {m m1:Machine} (h:Path P m0 c m) (hs:step P m=.next m1):Path P m0 (c+if cJ m then 1 else 0) m1
theorem Path.steps{P:Program}{m0 m:Machine}{c:Nat}(h:Path P m0 c m):Steps P m0 m:=by
 induction h with
 |refl=>exact .refl _ _
 |step h hs ih=>exact ih.trans (.one hs)
inductive dM(P:Program)(m0:Machine):Nat->Nat->Machine->Prop
 |refl:dM P m0 0 0 m0
 |step {k c:Nat} {m m1:Machine} (h:dM P m0 k c m) (hs:step P m=.next m1):dM P m0 (k+1) (c+if cJ m then 1 else 0) m1
theorem Path.count{P:Program}{m0 m:Machine}{c:Nat}(h:Path P m0 c m):∃k,dM P m0 k c m:=by
 induction h with
 |refl=>exact⟨0,.refl⟩
 |step h hs ih=>obtain⟨k,hk⟩:=ih;exact⟨k+1,.step hk hs⟩
theorem dM.det{P:Program}{m0:Machine}:∀{k c c':Nat} {m m':Machine},dM P m0 k c m->dM P m0 k c' m'->c=c'/\m=m'
 | 0,_,_,_,_,h,h'=>by cases h;cases h';exact⟨rfl,rfl⟩
 |k+1,_,_,_,_,h,h'=>by
  cases h with
  |step h hs =>
   cases h' with
   |step h' hs' =>
    obtain⟨rfl,rfl⟩:=dM.det h h'
    rw[hs]at hs'
    simp at hs'
    exact⟨rfl,hs'⟩
theorem dM.mono{P:Program}{m0:Machine}{k c:Nat}{m:Machine}(h:dM P m0 k c m):∀{j c':Nat} {m':Machine},dM P m0 (k+j) c' m'->c<=c'
 | 0,c',m',h'=>by have:=dM.det h h';omega
 |j+1,c',m',h'=>by
  cases h' with
  |step h' hs'=>have:=dM.mono h h';omega
theorem dM.lt{P:Program}{m0:Machine}{k c:Nat}{m:Machine}(h:dM P m0 k c m)(hn:cJ m=true){j c':Nat}{m':Machine}(h':dM P m0 (k+1+j) c' m'):c<c':=by
 have:∃m1,dM P m0 (k+1) (c+1) m1:=by
  have key:∀(j:Nat) c' m',dM P m0 (k+1+j) c' m'->∃c1 m1,dM P m0 (k+1) c1 m1:=by
   intro j
   induction j with
   |zero=>intro c' m' q;exact⟨c',m',q⟩
   |succ j ih =>
    intro c' m' q
    cases q with
    |step q hs=>exact ih _ _ q
  obtain⟨c1,m1,q⟩:=key j c' m' h'
  cases q with
  |step q hs =>
   obtain⟨rfl,rfl⟩:=dM.det h q
   have:=dM.step h hs
   rw[hn]at this
   exact⟨_,this⟩
 obtain⟨m1,q⟩:=this
 have:=dM.mono q h'
 omega
theorem Path.uniq{P:Program}{m0 m m':Machine}{c:Nat}(h:Path P m0 c m)(hn:cJ m=true)(h':Path P m0 c m')(hn':cJ m'=true):m=m':=by
 obtain⟨k,hk⟩:=h.count
 obtain⟨k',hk'⟩:=h'.count
 rcases Nat.lt_trichotomy k k' with q |q |q
 . obtain⟨j,rfl⟩:∃j,k'=k+1+j:=⟨k'-(k+1),by omega⟩
   have:=hk.lt hn hk'
   omega
 . subst q;exact(hk.det hk').2
 . obtain⟨j,rfl⟩:∃j,k=k'+1+j:=⟨k-(k'+1),by omega⟩
   have:=hk'.lt hn' hk
   omega
open Classical in
noncomputable def kB(P:Program)(m0:Machine)(c n:Nat):Nat :=
 if h:∃m,Path P m0 c m/\cJ m=true then(Classical.choose h).world.tape (Classical.choose h).world.drawn (.mapNext n)else 0
theorem Bw3{P:Program}{m0 m:Machine}{c:Nat}(h:Path P m0 c m)(hn:cJ m=true)(n:Nat):kB P m0 c n=m.world.tape m.world.drawn (.mapNext n):=by
 have hex:∃m,Path P m0 c m/\cJ m=true:=⟨m,h,hn⟩
 have hs:=Classical.choose_spec hex
 have:Classical.choose hex=m:=hs.1.uniq hs.2 h hn
 unfold kB
 rw[dif_pos hex,this]
structure Live(P:Program)(m0:Machine)(A:AS)(m:Machine):Prop where
 orc:A.orc=kB P m0
 path:Path P m0 A.odr m
theorem Live.quiet{P:Program}{m0 m m1:Machine}{A:AS}(h:Live P m0 A m)(hs:step P m=.next m1)(hn:cJ m=false):Live P m0 A m1 :=
 ⟨h.orc,by have:=Path.step h.path hs;rw[hn]at this;simpa using this⟩
theorem Live.of{P:Program}{m0 m:Machine}{A A':AS}(h:Live P m0 A m)(ho:A'.orc=A.orc)(hd:A'.odr=A.odr):Live P m0 A' m:=⟨ho.trans h.orc,by rw[hd];exact h.path⟩
theorem Live.next{P:Program}{m0 m m1:Machine}{A A':AS}(h:Live P m0 A m)(hs:step P m=.next m1)(hn:cJ m=true)(ho:A'.orc=A.orc)(hd:A'.odr=A.odr+1):Live P m0 A' m1 :=
 ⟨ho.trans h.orc,by have:=Path.step h.path hs;rw[hn]at this;rw[hd];simpa using this⟩
theorem Live.ask{P:Program}{m0 m:Machine}{A:AS}(h:Live P m0 A m)(hn:cJ m=true)(n:Nat):A.orc A.odr n=m.world.tape m.world.drawn (.mapNext n):=by
 rw[h.orc];exact Bw3 h.path hn n
theorem Ag4{fr:Frame}{cs:List Frame}{w:World}(h:∀ops l k,fr.todo≠.inRegion ops l::k):cJ (lone fr cs w)=false:=by
 simp only[cJ,lone]
 simp only[List.getElem?_toArray,List.getElem?_cons_zero]
 split
 . rename_i heq;exact absurd heq (h _ _ _)
 . rfl
theorem Ao4{b:Frame}{a:Act}{ops:Array Oper}{i:Nat}{rest:List Nat}{k:List Item}{cs:List Frame}{w:World}{o:Oper}(ho:ops[i]?=some o):
 cJ (lone (b.atR a (.inRegion ops (i::rest)::k)) cs w)=(dS o && Region.wanted o (yielded ops a.tmps)):=by
 simp[cJ,lone,Frame.atR,ho]
theorem AM4{b:Frame}{a:Act}{ops:Array Oper}{k:List Item}{cs:List Frame}{w:World}:cJ (lone (b.atR a (.inRegion ops []::k)) cs w)=false:=by
 simp[cJ,lone,Frame.atR]
section ops
variable {P:Program} {b:Frame} {a:Act} {ops:Array Oper} {i:Nat} {rest:List Nat} {k:List Item} {cs:List Frame} {w w':World} {o:Oper}
theorem Aq1{v:Value}(ho:ops[i]?=some o)(hw:Region.wanted o (yielded ops a.tmps)=true)(hnd:∀c,o.op≠.defer c)(hr:(execOp a.eval o).run P w=.ok (.value v) w'):
 step P (lone (b.atR a (.inRegion ops (i::rest)::k)) cs w)=.next (lone (b.atR (a.put o.dst v) (.inRegion ops rest::k)) cs w'):=by
 have hf:=Frame.finish_atR b a ops i rest k v
 simp only[ho,Option.bind_some]at hf
 rw[<- hf]
 refine step_lone_go ?_
 rw[stepGR_op ho hw,Oper.semAt_eq _ _ _ hnd]
 simp only[stepG.apply,Sem.runT_eq,hr,GStep.bare_after]
 rfl
theorem AX0{v:Value}(ho:ops[i]?=some o)(hw:Region.wanted o (yielded ops a.tmps)=true)(hnd:∀c,o.op≠.defer c)(hr:(execOp a.eval o).run P w=.ok .skip w'):
 step P (lone (b.atR a (.inRegion ops (i::rest)::k)) cs w)=.next (lone (b.atR (a.put o.dst undef) (.inRegion ops rest::k)) cs w'):=by
 have hf:=Frame.finish_atR b a ops i rest k undef
 simp only[ho,Option.bind_some]at hf
 rw[<- hf]
 refine step_lone_go ?_
 rw[stepGR_op ho hw,Oper.semAt_eq _ _ _ hnd]
 simp only[stepG.apply,Sem.runT_eq,hr,GStep.bare_after]
 rfl
theorem AQ6{f:FuncId}{args:Array Value}(ho:ops[i]?=some o)(hw:Region.wanted o (yielded ops a.tmps)=true)(hnd:∀c,o.op≠.defer c)(hr:(execOp a.eval o).run P w=.ok (.enter f args) w'):
 step P (lone (b.atR a (.inRegion ops (i::rest)::k)) cs w)=.next (lone (Frame.enter P f args .normal) (b.atR a (.inRegion ops (i::rest)::k)::cs) w'):=by
 refine step_lone_go ?_
 rw[stepGR_op ho hw,Oper.semAt_eq _ _ _ hnd]
 simp only[stepG.apply,Sem.runT_eq,hr,GStep.bare_after]
 rfl
theorem AQ7{l:Nat}{f:FuncId}{tmps:Array Value}{assign body:Code}(ho:ops[i]?=some o)(hw:Region.wanted o (yielded ops a.tmps)=true)(hnd:∀c,o.op≠.defer c)
 (hr:(execOp a.eval o).run P w=.ok (.round l f tmps assign body) w'):
 step P (lone (b.atR a (.inRegion ops (i::rest)::k)) cs w)=.next (lone (Frame.round l f tmps assign body .normal) (b.atR a (.inRegion ops (i::rest)::k)::cs) w'):=by
 refine step_lone_go ?_
 rw[stepGR_op ho hw,Oper.semAt_eq _ _ _ hnd]
 simp only[stepG.apply,Sem.runT_eq,hr,GStep.bare_after]
 rfl
end ops
end Go.Sv
namespace Go.Sv
open Go
structure gr(A A':AS):Prop where
 orc:A'.orc=A.orc
 odr:A'.odr=A.odr
theorem AH1{A A':AS}{b o:Nat}{vs:List V}(h:A.put b o vs=some A'):gr A A':=by
 obtain⟨_,_,_,_,_,_,_,_,h1,h2,_⟩:=AG2 h
 exact⟨h1,h2⟩
theorem AQ8{P:Program}{t:TypeId}{a x:V}{A A':AS}(h:ag P t a x A=some A'):gr A A':=by
 unfold ag at h
 split at h
 . split at h
   . exact AH1 h
   . simp at h
 . simp at h
theorem AJ8{P:Program}{t tx:TypeId}{s x v:V}{A A':AS}(h:aR P t tx s x A=some (v,A')):gr A A':=by
 rw[Au6]at h
 split at h
 case h_2=>simp at h
 split at h
 case h_2=>simp at h
 split at h
 . simp at h
 split at h
 . simp at h
 split at h
 case isFalse=>simp at h
 split at h
 . split at h
   . simp at h;obtain⟨_,rfl⟩:=h;exact⟨rfl,rfl⟩
   . split at h
     . simp at h;obtain⟨_,rfl⟩:=h;exact⟨rfl,rfl⟩
     . simp at h
 . split at h
   . simp at h
   . split at h
     . simp at h;obtain⟨_,rfl⟩:=h;exact⟨rfl,rfl⟩
     . split at h
       case h_2=>simp at h
       split at h
       case h_2=>simp at h
       split at h
       . simp at h;obtain⟨_,rfl⟩:=h;exact⟨rfl,rfl⟩
       . simp at h
 . simp at h
theorem Ao5{P:Program}{t:TypeId}{m k x:V}{A A':AS}(h:aZ P t m k x A=some A'):gr A A':=by
 unfold aZ at h
 split at h
 . split at h
   . split at h
     . simp at h;subst h;exact⟨rfl,rfl⟩
     . simp at h
   . simp at h
 . simp at h
theorem AC1{P:Program}{t:TypeId}{m k v:V}{A A':AS}(h:dF P t m k A=some (v,A')):gr A A':=by
 unfold dF at h
 split at h
 . split at h
   . split at h
     . split at h
       . simp at h;obtain⟨_,rfl⟩:=h;exact⟨rfl,rfl⟩
       . simp at h;obtain⟨_,rfl⟩:=h;exact⟨rfl,rfl⟩
     . simp at h
   . simp at h
 . simp at h
theorem Ax5{m s x:V}{A A':AS}(h:cN m s x A=some A'):gr A A':=by
 unfold cN at h
 split at h
 . split at h
   . simp only[Option.map_eq_some_iff]at h
     obtain⟨es,_,rfl⟩:=h
     exact⟨rfl,rfl⟩
   . simp at h
 . simp at h
theorem AJ9{P:Program}{t:TypeId}{m k:V}{A A':AS}(h:fz P t m k A=some A'):gr A A':=by
 unfold fz at h
 split at h
 . split at h
   . simp at h;subst h;exact⟨rfl,rfl⟩
   . simp at h
 . split at h
   . split at h
     . simp at h;subst h;exact⟨rfl,rfl⟩
     . simp at h
   . simp at h
 . simp at h
theorem AQ9{P:Program}{t:TypeId}{m:V}{A A':AS}(h:dH P t m A=some A'):gr A A':=by
 unfold dH at h
 split at h
 . simp at h;subst h;exact⟨rfl,rfl⟩
 . split at h
   . simp at h;subst h;exact⟨rfl,rfl⟩
   . simp at h
 . simp at h
theorem AK0{P:Program}{t:TypeId}{m:V}{A A':AS}(h:cZ P t m A=some A'):gr A A':=by
 unfold cZ at h
 split at h
 . simp at h;subst h;exact⟨rfl,rfl⟩
 . split at h
   . split at h
     . simp at h;subst h;exact⟨rfl,rfl⟩
     . split at h
       . exact AH1 h
       . simp at h
   . simp at h
 . simp at h
theorem Bw4{P:Program}{t:TypeId}{m:V}{A A':AS}(h:(dH P t m A).or (cZ P t m A)=some A'):dH P t m A=some A'∨cZ P t m A=some A':=by
 cases q:dH P t m A with
 |none=>rw[q]at h;exact .inr h
 |some B=>rw[q]at h;exact .inl h
theorem AR0{P:Program}{t:TypeId}{m v:V}{A A':AS}(h:fV P t m A=some (v,A')):gr A A':=by
 unfold fV at h
 split at h
 . simp at h;obtain⟨_,rfl⟩:=h;exact⟨rfl,rfl⟩
 . split at h
   . simp at h;obtain⟨_,rfl⟩:=h;exact⟨rfl,rfl⟩
   . simp at h
 . simp at h
theorem AX1{x v:V}{A A':AS}(h:ie x A=some (v,A')):A'.orc=A.orc/\A'.odr=A.odr+1:=by
 unfold ie at h
 split at h
 . split at h
   . split at h
     . simp at h;obtain⟨_,rfl⟩:=h;exact⟨rfl,rfl⟩
     . split at h
       . split at h
         . simp at h
         . simp only[]at h
           split at h
           . simp at h;obtain⟨_,rfl⟩:=h;exact⟨rfl,rfl⟩
           . simp at h;obtain⟨_,rfl⟩:=h;exact⟨rfl,rfl⟩
           . simp at h
       . simp at h
   . simp at h
 . simp at h
theorem AX2{P:Program}{t:TypeId}{d x v:V}{A A':AS}(h:gH P t d x A=some (v,A')):gr A A':=by
 unfold gH at h
 split at h
 . split at h
   . split at h
     . split at h
       . simp only[Option.map_eq_some_iff]at h
         obtain⟨A1,hp,h1⟩:=h
         simp at h1
         obtain⟨_,rfl⟩:=h1
         exact AH1 hp
       . simp at h
     . simp at h
   . simp at h
 . simp at h
theorem A26{P:Program}{base:Nat}{W:World}{ρ:Rho}{A A':AS}{w:World}(h:Inv P base W ρ A w){t t2 ty:TypeId}{d x v:V}{d' x':Value}
 (hd:VR ρ d d') (hx:VR ρ x x') (hv:gH P t d x A=some (v,A')):∃v' w',(Builtin.copy_ #[t,t2] ty #[d',x']).run P w=.ok v' w'/\Adv P base W ρ A w ρ A' w'/\VR ρ v v':=by
 unfold gH at hv
 split at hv
 . rename_i e b o n sz b' o' n' sz' hu
   split at hv
   . rename_i s hs
     split at hv
     . rename_i hsz
       obtain⟨e1,e2⟩:=hsz
       subst e1;subst e2
       split at hv
       . rename_i cs hr
         cases hp:A.put b o cs with
         |none=>simp[hp]at hv
         |some A1 =>
          simp[hp]at hv
          obtain⟨rfl,rfl⟩:=hv
          have rO:∃cs':List Value,VRs ρ cs cs'/\∃cap' a',x'=.slice (some a') n' cap'/\(loadCells a' (min n' n*s)).run P w=.ok cs'.toArray w:=by
           cases hx with
           |sl hb hn hc =>
            obtain⟨cs',h1,h2,h3⟩:=An6 h hb hr
            exact⟨cs',h1,_,_,rfl,Aj0 h2 h3⟩
           |slz o sz a hb =>
            obtain⟨k,_,_,_,hl⟩:=Ag7 hr
            have:cs=[]:=List.length_eq_zero_iff.1 (by simpa using hl)
            subst this
            refine⟨[],.nil ρ,_,_,rfl,?_⟩
            have:min 0 n*s=0:=by simp
            rw[this]
            simpa using run_loadCells_list (P:=P) w a [] (fun j v hj=>by simp at hj)
          obtain⟨cs',h1,cap',a',rfl,h2⟩:=rO
          have rP:Nat.min n' n=min n' n:=rfl
          have hi:goInt ((min n' n:Nat):Int)=.int .i64 (min n' n:Nat):=rfl
          cases hd with
          |sl hb hn hc =>
           obtain⟨w',h3,h4⟩:=AP6 h hb hp h1
           refine⟨.int .i64 (min n' n:Nat),w',?_,h4,by simpa using VR.int (ρ:=ρ) .i64 ((min n' n:Nat):Int)⟩
           simp only[Builtin.copy_,List.getElem?_toArray,List.getElem?_cons_zero,List.getElem?_cons_succ,Sem.run_bind,run_underlying hu,Result.andThen_ok,Builtin.lenOf,Sem.run_pure,Ab8 hs,Builtin.firstCells,rP,h2,h3,hi]
          |slz o sz a hb =>
           obtain⟨w',h3,h4⟩:=AP6 h hb hp h1
           have hcs:cs'=[]:=by
            obtain⟨k,_,_,_,hl⟩:=Ag7 hr
            have e0:=h1.len
            have:min n' 0*s=0:=by simp
            rw[this]at hl
            exact List.length_eq_zero_iff.1 (by omega)
           subst hcs
           have hw:w'=w:=by
            have h9:∀a9:Addr,(storeCells a9 []).run P w=.ok () w:=fun _=>rfl
            rw[h9]at h3
            simp at h3;exact h3.symm
           subst hw
           refine⟨.int .i64 (min n' 0:Nat),w',?_,h4,by simpa using VR.int (ρ:=ρ) .i64 ((min n' 0:Nat):Int)⟩
           have h5:(storeCells a ([]:List Value)).run P w'=.ok () w':=rfl
           simp only[Builtin.copy_,List.getElem?_toArray,List.getElem?_cons_zero,List.getElem?_cons_succ,Sem.run_bind,run_underlying hu,Result.andThen_ok,Builtin.lenOf,Sem.run_pure,Ab8 hs,Builtin.firstCells,rP,h2,hi,h5]
       . simp at hv
     . simp at hv
   . simp at hv
 . simp at hv
theorem AR1{P:Program}{base:Nat}{W:World}{ρ:Rho}{A A':AS}{w:World}(h:Inv P base W ρ A w){t ty:TypeId}{m:V}{m':Value}
 (hm:VR ρ m m') (hv:cZ P t m A=some A'):∃w',(Builtin.clear_ #[t] ty #[m']).run P w=.ok (.tuple #[]) w'/\Adv P base W ρ A w ρ A' w':=by
 unfold cZ at hv
 split at hv
 . rename_i e hu
   simp at hv;subst hv
   cases hm
   exact⟨w,by simp[Builtin.clear_,run_underlying hu],.refl h⟩
 . rename_i e b o n sz hu
   split at hv
   . rename_i s z hs hz
     split at hv
     . rename_i hn
       simp at hv;subst hv;subst hn
       cases hm with
       |sl hb hn hc=>exact⟨w,by simp[Builtin.clear_,run_underlying hu],.refl h⟩
       |slz o sz a hb=>exact⟨w,by simp[Builtin.clear_,run_underlying hu],.refl h⟩
     . rename_i hn
       split at hv
       . rename_i hc
         obtain⟨rfl,hzl,ot⟩:=hc
         obtain⟨s,rfl⟩:∃k,s=k+1:=⟨s-1,by omega⟩
         obtain⟨i,zv,hi,hiz,his,hzr⟩:=Ap8 hs hz
         have hzs:zv.cells.size=s+1:=by have:=(hzr ρ).len;simp at this;omega
         have hZ:=AG7 (hzr ρ) n (s+1) hzl
         have hzv:(zeroValue e).run P w=.ok zv w:=by simp[zeroValue,typeInfo,hi,hiz]
         cases hm with
         |sl hb kJ hc =>
          obtain⟨w',h3,h4⟩:=AP6 h hb hv hZ
          refine⟨w',?_,h4⟩
          cases n with
          |zero=>exact absurd rfl hn
          |succ n =>
           rw[<- hzs]at h3
           simp only[Builtin.clear_,List.getElem?_toArray,List.getElem?_cons_zero,Sem.run_bind,run_underlying hu,Result.andThen_ok,hzv,Sem.run_pure,Builtin.zeroCells]
           rw[h3]
           rfl
         |slz o sz a hb=>exact absurd rfl hn
       . simp at hv
   . simp at hv
 . simp at hv
end Go.Sv
namespace Go.Sv
open Go
def oS(P:Program)(g:FuncId)(args:List V)(A:AS)(v:V)(A':AS):Prop :=
 (∃fn body,P.funcs[g]?=some fn/\fn.body=some body) /\
 ∀(m0:Machine) (base:Nat) (W:World) (ρ:Rho) (w:World) (args':Array Value) (cs:List Frame),Inv P base W ρ A w->VRs ρ args args'.toList ->
  Live P m0 A (lone (Frame.enter P g args' .normal) cs w) ->
  ∃ ρ' v' w' fr,Adv P base W ρ A w ρ' A' w'/\VR ρ' v v'/\Live P m0 A' (lone fr cs w')/\fr.fn=g/\fr.leaving P w' (.returned v')/\cJ (lone fr cs w')=false
def mK(P:Program)(l:Nat)(args:List V)(A:AS)(v:V)(A':AS):Prop :=
 ∀(m0:Machine) (base:Nat) (W:World) (ρ:Rho) (w:World) (args':Array Value) (x:Nat) (fr:Frame) (cs:List Frame),Inv P base W ρ A w->VRs ρ args args'.toList->ρ.lp l=some x ->
  ∃r',w.heap[x]?=some (.loop r')/\args'.size=r'.params.size /\
   (Live P m0 A (lone (Frame.round x r'.fn ((r'.params.zip args').foldl (fun tmps (t,a)=>tmps.setIfInBounds t a) r'.tmps) r'.assign r'.body .normal) (fr::cs) w) ->
    ∃ ρ' v' w',Adv P base W ρ A w ρ' A' w'/\VR ρ' v v'/\Live P m0 A' (lone (fr.finish v') cs w'))
structure dJ(P:Program)(C:Calls):Prop where
 call:∀g args A v A',C.call g args A=some (v,A')->oS P g args A v A'
 yield:∀l args A v A',C.yield l args A=some (v,A')->mK P l args A v A'
 name : ∀ (g : FuncId) fn, P.funcs[g]? = some fn -> fn.body.isSome = true -> (fn.name == "runtime.NumGoroutine") = false
theorem AB4 {P : Program} {g : FuncId} {args : Array Value} {fn : Func} (h : P.funcs[g]? = some fn) (hb : fn.body.isSome = true) (hn : (fn.name == "runtime.NumGoroutine") = false) (w : World) :
 (callFunc g args).run P w=.ok (.enter g args) w:=by
 have hb':fn.body≠none:=by intro q;rw[q]at hb;simp at hb
 have hn' : ¬ fn.name = "runtime.NumGoroutine" := by simpa using hn
 simp[callFunc,program,Sem.run,h,hn',hb']
section
variable {P:Program} {C:Calls} {base:Nat} {W:World} {ρ:Rho} {A A':AS} {w:World} {b:Frame} {a:Act} {ops:Array Oper} {i:Nat} {rest:List Nat} {k:List Item} {cs:List Frame} {o:Oper} {m0:Machine} {e:Env} {v:V}
theorem A27(ho:ops[i]?=some o)(hw:Region.wanted o (yielded ops a.tmps)=true)(hnd:∀c,o.op≠.defer c)(hnn:∀x s,o.op≠.next x s)(hL:Live P m0 A (lone (b.atR a (.inRegion ops (i::rest)::k)) cs w))
 (hk:gr A A') {ρ':Rho} {v':Value} {w':World} (hr:(execOp a.eval o).run P w=.ok (.value v') w') (hA:Adv P base W ρ A w ρ' A' w') (hv:VR ρ' v v'):
 ∃ ρ' v' w',Adv P base W ρ A w ρ' A' w'/\VR ρ' v v'/\Live P m0 A' (lone (b.atR (a.put o.dst v') (.inRegion ops rest::k)) cs w'):=by
 refine⟨ρ',v',w',hA,hv,(hL.quiet (Aq1 ho hw hnd hr) ?_).of hk.orc hk.odr⟩
 rw[Ao4 ho]
 have:dS o=false:=by
  unfold dS
  cases hq:o.op<;>first |rfl |exact absurd hq (hnn _ _)
 rw[this];rfl
theorem Bd5(ho:ops[i]?=some o)(hw:Region.wanted o (yielded ops a.tmps)=true)(hnd:∀c,o.op≠.defer c)(hnn:∀x s,o.op≠.next x s)(hL:Live P m0 A (lone (b.atR a (.inRegion ops (i::rest)::k)) cs w))
 (hk:gr A A') {ρ':Rho} {w':World} (hr:(execOp a.eval o).run P w=.ok .skip w') (hA:Adv P base W ρ A w ρ' A' w'):
 ∃ ρ' v' w',Adv P base W ρ A w ρ' A' w'/\VR ρ' (.tup []) v'/\Live P m0 A' (lone (b.atR (a.put o.dst v') (.inRegion ops rest::k)) cs w'):=by
 refine⟨ρ',undef,w',hA,.dy (.nil _),(hL.quiet (AX0 (v:=undef) ho hw hnd hr) ?_).of hk.orc hk.odr⟩
 rw[Ao4 ho]
 have:dS o=false:=by
  unfold dS
  cases hq:o.op<;>first |rfl |exact absurd hq (hnn _ _)
 rw[this];rfl
theorem AD3{P:Program}{w w1:World}{s:Sem Unit}(h:s.run P w=.ok () w1):(do s;pure .skip:Sem Next).run P w=.ok .skip w1:=by simp[h]
theorem Bl7(hC:dJ P C)(h:Inv P base W ρ A w){c:Call}{f:Operand}{args:List V}(hop:o.op=.call c)(rQ:c.callee=.value f)
 (hf:∀fv,e.eval f=some fv->VR ρ fv (a.eval f)) (eR:VRs ρ args (c.args.map a.eval).toList)
 (hv:ig C e f args A=some (v,A')) (ho:ops[i]?=some o) (hw:Region.wanted o (yielded ops a.tmps)=true)
 (hL:Live P m0 A (lone (b.atR a (.inRegion ops (i::rest)::k)) cs w)):
 ∃ ρ' v' w',Adv P base W ρ A w ρ' A' w'/\VR ρ' v v'/\Live P m0 A' (lone (b.atR (a.put o.dst v') (.inRegion ops rest::k)) cs w'):=by
 have hnd:∀c,o.op≠.defer c:=fun c q=>by rw[hop]at q;simp at q
 have hnn:cJ (lone (b.atR a (.inRegion ops (i::rest)::k)) cs w)=false:=by rw[Ao4 ho];simp[dS,hop]
 have lM:∀v,(b.atR a (.inRegion ops (i::rest)::k)).finish v=b.atR (a.put o.dst v) (.inRegion ops rest::k):=by
  intro v;rw[Frame.finish_atR,ho];rfl
 obtain⟨dst,op,ty,pos,after,guard⟩:=o
 simp only at hop
 subst hop
 unfold ig at hv
 split at hv
 . rename_i g first cap hfe
   obtain⟨first',cap',e1,h1,h2⟩:=(hf _ hfe).l7
   obtain⟨⟨fn,body,hfn,gY⟩,kC⟩:=hC.call _ _ _ _ _ hv
   have gL:VRs ρ (first++args++cap) (first'++c.args.map a.eval++cap').toList:=by
    simp only[Array.toList_append]
    exact(h1.append eR).append h2
   have hr:(execOp a.eval ⟨dst,.call c,ty,pos,after,guard⟩).run P w=.ok (.enter g (first'++c.args.map a.eval++cap')) w:=by
    simp only[execOp,resolve,rQ,e1,Deferred.ofValue,Sem.run_bind,Sem.run_pure,Result.andThen_ok,invoke]
    exact AB4 hfn (by rw[gY];rfl) (hC.name g fn hfn (by rw[gY];rfl)) w
   have hs:=AQ6 (b:=b) (k:=k) (cs:=cs) (rest:=rest) ho hw hnd hr
   obtain⟨ρ',v',w',fr,q1,q2,q3,q4,q5,q6⟩:=kC m0 base W ρ w _ _ h gL (hL.quiet hs hnn)
   refine⟨ρ',v',w',q1,q2,?_⟩
   have hs2:=step_leave_returned (P:=P) (cs:=cs) (c:=b.atR a (.inRegion ops (i::rest)::k)) q5
   rw[lM]at hs2
   exact q3.quiet hs2 q6
 . rename_i l hfe
   have hfv:=hf _ hfe
   have tr:∃x,a.eval f=.func (.yield x) #[] #[]/\ρ.lp l=some x:=by
    generalize a.eval f=z at hfv
    cases hfv with
    |yield hl=>exact⟨_,rfl,hl⟩
   obtain⟨x,e1,hl⟩:=tr
   have hy:=hC.yield _ _ _ _ _ hv m0 base W ρ w (c.args.map a.eval) x (b.atR a (.inRegion ops (i::rest)::k)) cs h eR hl
   obtain⟨r',hx,hsz,hy⟩:=hy
   have hr:(execOp a.eval ⟨dst,.call c,ty,pos,after,guard⟩).run P w =
    .ok (.round x r'.fn ((r'.params.zip (c.args.map a.eval)).foldl (fun tmps (t,a)=>tmps.setIfInBounds t a) r'.tmps) r'.assign r'.body) w:=by
    simp only[execOp,resolve,rQ,e1,Deferred.ofValue,Sem.run_bind,Sem.run_pure,Result.andThen_ok,invoke]
    rw[show(#[]:Array Value)++c.args.map a.eval=c.args.map a.eval by simp]
    exact run_yield hx hsz
   have hs:=AQ7 (b:=b) (k:=k) (cs:=cs) (rest:=rest) ho hw hnd hr
   obtain⟨ρ',v',w',q1,q2,q3⟩:=hy (hL.quiet hs hnn)
   rw[lM]at q3
   exact⟨ρ',v',w',q1,q2,q3⟩
 . simp at hv
theorem Al5{P:Program}{w w1:World}{f:Operand->Value}{dst:Option Tmp}{ty:TypeId}{pos:String}{after:Array Edge}{guard:Option (Nat×Bool)}{bi:Builtin}{args:Array Operand}{ts:Array TypeId}{s:Sem Value}{v:Value}
 (hb:∀cs,builtin bi ts ty cs (args.map f)=(do pure (.value (<- s)))) (h:s.run P w=.ok v w1):(execOp f ⟨dst,.call ⟨.builtin bi,args,ts⟩,ty,pos,after,guard⟩).run P w=.ok (.value v) w1:=by
 simp only[execOp,resolve,Sem.run_bind,Sem.run_pure,Result.andThen_ok,invoke,hb,h]
theorem AH2(hC:dJ P C)(h:Inv P base W ρ A w)(hE:EvR ρ e a.eval o.op.operands)(hv:evE P C o e A=some (v,A'))(ho:ops[i]?=some o)(hw:Region.wanted o (yielded ops a.tmps)=true)
 (hL:Live P m0 A (lone (b.atR a (.inRegion ops (i::rest)::k)) cs w)):
 ∃ ρ' v' w',Adv P base W ρ A w ρ' A' w'/\VR ρ' v v'/\Live P m0 A' (lone (b.atR (a.put o.dst v') (.inRegion ops rest::k)) cs w'):=by
 have hpv:=A27 (base:=base) (W:=W) (ρ:=ρ) (A:=A) (A':=A') (v:=v) (P:=P) (m0:=m0) (k:=k) (cs:=cs) (rest:=rest) (b:=b) (a:=a) (w:=w) ho hw
 have hps:=Bd5 (base:=base) (W:=W) (ρ:=ρ) (A:=A) (A':=A') (P:=P) (m0:=m0) (k:=k) (cs:=cs) (rest:=rest) (b:=b) (a:=a) (w:=w) ho hw
 obtain⟨dst,op,ty,pos,after,guard⟩:=o
 cases op
 case store t p x =>
  simp only[evE]at hv
  split at hv
  . rename_i pv xv h1 h2
    simp only[Option.map_eq_some_iff]at hv
    obtain⟨A1,h3,h4⟩:=hv
    simp at h4;obtain⟨rfl,rfl⟩:=h4
    obtain⟨w',h5,h6⟩:=AV8 h (hE p (by simp[Op.operands]) _ h1) (hE x (by simp[Op.operands]) _ h2) h3
    exact hps (by simp) (by simp) hL (AQ8 h3) (AD3 h5) h6
  . simp at hv
 case mapUpdate t m kk x =>
  simp only[evE]at hv
  split at hv
  . rename_i mv kv xv h1 h2 h2'
    simp only[Option.map_eq_some_iff]at hv
    obtain⟨A1,h3,h4⟩:=hv
    simp at h4;obtain⟨rfl,rfl⟩:=h4
    obtain⟨w',h5,h6⟩:=Aq7 h (hE m (by simp[Op.operands]) _ h1) (hE kk (by simp[Op.operands]) _ h2) (hE x (by simp[Op.operands]) _ h2') h3
    exact hps (by simp) (by simp) hL (Ao5 h3) (AD3 h5) h6
  . simp at hv
 case insert t m kk x =>
  simp only[evE]at hv
  split at hv
  . rename_i mv kv xv h1 h2 h2'
    simp only[Option.map_eq_some_iff]at hv
    obtain⟨A1,h3,h4⟩:=hv
    simp at h4;obtain⟨rfl,rfl⟩:=h4
    obtain⟨w',h5,h6⟩:=Aq7 h (hE m (by simp[Op.operands]) _ h1) (hE kk (by simp[Op.operands]) _ h2) (hE x (by simp[Op.operands]) _ h2') h3
    exact hps (by simp) (by simp) hL (Ao5 h3) (AD3 h5) h6
  . simp at hv
 case mapEntry t m kk =>
  simp only[evE]at hv
  split at hv
  . rename_i mv kv h1 h2
    obtain⟨v',w',h5,h6,h7⟩:=AG4 h (hE m (by simp[Op.operands]) _ h1) (hE kk (by simp[Op.operands]) _ h2) hv
    exact hpv (by simp) (by simp) hL (AC1 hv) (Ah5 Next.value h5) h7 h6
  . simp at hv
 case entryStore t m s x =>
  simp only[evE]at hv
  split at hv
  . rename_i mv kv xv h1 h2 h2'
    simp only[Option.map_eq_some_iff]at hv
    obtain⟨A1,h3,h4⟩:=hv
    simp at h4;obtain⟨rfl,rfl⟩:=h4
    obtain⟨w',h5,h6⟩:=Az5 (t:=t) h (hE m (by simp[Op.operands]) _ h1) (hE s (by simp[Op.operands]) _ h2) (hE x (by simp[Op.operands]) _ h2') h3
    exact hps (by simp) (by simp) hL (Ax5 h3) (AD3 h5) h6
  . simp at hv
 case range t x =>
  simp only[evE]at hv
  split at hv
  . rename_i xv h1
    obtain⟨ρ',v',w',h5,h6,h7⟩:=AW2 h (hE x (by simp[Op.operands]) _ h1) hv
    exact hpv (by simp) (by simp) hL (AR0 hv) (Ah5 Next.value h5) h6 h7
  . simp at hv
 case next x s =>
  cases s
  . simp only[evE]at hv
    split at hv
    . rename_i xv h1
      have hnx:cJ (lone (b.atR a (.inRegion ops (i::rest)::k)) cs w)=true:=by rw[Ao4 ho];simpa[dS] using hw
      obtain⟨v',w',h5,h6,h7⟩:=A21 (ty:=ty) h (hE x (by simp[Op.operands]) _ h1) hv (fun n=>hL.ask hnx n)
      obtain⟨h8,h9⟩:=AX1 hv
      exact⟨ρ,v',w',h6,h7,hL.next (Aq1 ho hw (by simp) (Ah5 Next.value h5)) hnx h8 h9⟩
    . simp at hv
  . simp[evE]at hv
 case entry x =>
  simp only[evE]at hv
  split at hv
  . rename_i xv h1
    simp only[Option.map_eq_some_iff]at hv
    obtain⟨v1,h3,h4⟩:=hv
    simp at h4;obtain⟨rfl,rfl⟩:=h4
    obtain⟨v',h5,h6⟩:=AW3 h (hE x (by simp[Op.operands]) _ h1) h3
    exact hpv (by simp) (by simp) hL ⟨rfl,rfl⟩ (Ah5 Next.value h5) (.refl h) h6
  . simp at hv
 case call c =>
  obtain⟨callee,args,ts⟩:=c
  simp only[evE]at hv
  split at hv
  . simp at hv
  . rename_i avs hav
    have eR:=Ah6 (ρ:=ρ) (f:=a.eval) (fun x hx v hv=>hE x (by simp[Op.operands,Call.operands];right;simpa using hx) v hv) hav
    cases callee
    case value f =>
     exact Bl7 hC h (o:=⟨dst,.call ⟨.value f,args,ts⟩,ty,pos,after,guard⟩) rfl rfl (fun fv hfv=>hE f (by simp[Op.operands,Call.operands]) fv hfv) (by simpa using eR) hv ho hw hL
    case invoke r n=>simp at hv
    case builtin bi =>
     cases bi
     case append =>
      simp only at hv
      split at hv
      . rename_i s x t tx hts
        obtain⟨s',r',e1,h1,h2⟩:=eR.cons_inv
        obtain⟨x',r2,e2,h3,h4⟩:=h2.cons_inv
        have e3:=h4.dI
        subst e3;subst e2
        have ea:args.map a.eval=#[s',x']:=by apply Array.ext';simpa using e1
        have et:ts=#[t,tx]:=by apply Array.ext';simpa using hts
        subst et
        obtain⟨ρ',v',w',h5,h6,h7⟩:=AP8 (ty:=ty) h h1 h3 hv
        exact hpv (by simp) (by simp) hL (AJ8 hv) (Al5 (s:=Builtin.append_ #[t,tx] ty #[s',x']) (fun cs=>by rw[ea];rfl) h5) h6 h7
      . simp at hv
     case copy =>
      simp only at hv
      split at hv
      . rename_i s x t tx hts
        obtain⟨s',r',e1,h1,h2⟩:=eR.cons_inv
        obtain⟨x',r2,e2,h3,h4⟩:=h2.cons_inv
        have e3:=h4.dI
        subst e3;subst e2
        have ea:args.map a.eval=#[s',x']:=by apply Array.ext';simpa using e1
        have et:ts=#[t,tx]:=by apply Array.ext';simpa using hts
        subst et
        obtain⟨v',w',h5,h6,h7⟩:=A26 (t2:=tx) (ty:=ty) h h1 h3 hv
        exact hpv (by simp) (by simp) hL (AX2 hv) (Al5 (s:=Builtin.copy_ #[t,tx] ty #[s',x']) (fun cs=>by rw[ea];rfl) h5) h6 h7
      . simp at hv
     case delete =>
      simp only at hv
      split at hv
      . rename_i s x t tx hts
        simp only[Option.map_eq_some_iff]at hv
        obtain⟨A1,hd,hd'⟩:=hv
        simp at hd';obtain⟨rfl,rfl⟩:=hd'
        obtain⟨s',r',e1,h1,h2⟩:=eR.cons_inv
        obtain⟨x',r2,e2,h3,h4⟩:=h2.cons_inv
        have e3:=h4.dI
        subst e3;subst e2
        have ea:args.map a.eval=#[s',x']:=by apply Array.ext';simpa using e1
        have et:ts=#[t,tx]:=by apply Array.ext';simpa using hts
        subst et
        obtain⟨w',h5,h6⟩:=AQ0 (t2:=tx) (ty:=ty) h h1 h3 hd
        exact hpv (by simp) (by simp) hL (AJ9 hd) (Al5 (s:=Builtin.delete_ #[t,tx] ty #[s',x']) (fun cs=>by rw[ea];rfl) h5) h6 (.dy (.nil _))
      . simp at hv
     case clear =>
      simp only at hv
      split at hv
      . rename_i s t hts
        simp only[Option.map_eq_some_iff]at hv
        obtain⟨A1,hd,hd'⟩:=hv
        simp at hd';obtain⟨rfl,rfl⟩:=hd'
        obtain⟨s',r',e1,h1,h2⟩:=eR.cons_inv
        have e3:=h2.dI
        subst e3
        have ea:args.map a.eval=#[s']:=by apply Array.ext';simpa using e1
        have et:ts=#[t]:=by apply Array.ext';simpa using hts
        subst et
        rcases Bw4 hd with hd |hd
        . obtain⟨w',h5,h6⟩:=AW1 (ty:=ty) h h1 hd
          exact hpv (by simp) (by simp) hL (AQ9 hd) (Al5 (s:=Builtin.clear_ #[t] ty #[s']) (fun cs=>by rw[ea];rfl) h5) h6 (.dy (.nil _))
        . obtain⟨w',h5,h6⟩:=AR1 (ty:=ty) h h1 hd
          exact hpv (by simp) (by simp) hL (AK0 hd) (Al5 (s:=Builtin.clear_ #[t] ty #[s']) (fun cs=>by rw[ea];rfl) h5) h6 (.dy (.nil _))
      . simp at hv
     all_goals simp at hv
 all_goals simp[evE]at hv
end
end Go.Sv
namespace Go.Sv
open Go
theorem AH3{ρ:Rho}{e:Env}{a:Act}{x:Operand}{v:V}(h:∀t,x=.tmp t->VR ρ (e.get t) (a.tmps.getD t undef))(hv:e.eval x=some v):VR ρ v (a.eval x):=by
 cases x with
 |tmp t=>simp[Env.eval]at hv;subst hv;exact h t rfl
 |const c=>simp[Env.eval]at hv;exact AP5 hv
 |global g=>simp[Env.eval]at hv
 |func f=>simp[Env.eval]at hv;subst hv;exact .pj f (.nil _) (.nil _)
theorem ER.evR{ρ:Rho}{e:Env}{a:Act}(h:ER ρ e a.tmps)(xs:Array Operand):EvR ρ e a.eval xs:=fun x _ v hv=>AH3 (fun t _=>h t) hv
theorem AX3{ρ:Rho}{ops:Array Oper}{e:Env}{tmps:Array Value}{o:Oper}{t:Bool}(h:∀j want d,o.guard=some (j,want)->(ops[j]?).bind (·.dst)=some d->VR ρ (e.get d) (tmps.getD d undef))
 (hw:aT ops e o=some t):Region.wanted o (yielded ops tmps)=t:=by
 unfold aT at hw
 unfold Region.wanted
 split at hw
 . simp_all
 . rename_i j want hg
   rw[hg]
   simp only[]
   split at hw
   . simp at hw
   . rename_i d hd
     have hv:=h j want d hg hd
     unfold yielded
     rw[hd]
     simp only[Option.bind_some]
     have bM:tmps.getD d undef=(tmps[d]?).getD undef:=by simp[Array.getD_eq_getD_getElem?]
     split at hw
     . rename_i bb hb
       rw[hb]at hv
       have:=hv.dR
       rw[bM]at this
       cases hq:tmps[d]? with
       |none=>rw[hq]at this;simp[undef]at this
       |some q =>
        rw[hq]at this;simp at this;subst this
        simp at hw;simp[hw]
     . rename_i hb
       rw[hb]at hv
       obtain⟨c',h1,h2⟩:=hv.mG
       have:=h2.dI
       rw[bM]at h1
       simp at hw;subst hw
       cases hq:tmps[d]? with
       |none=>simp
       |some q =>
        rw[hq]at h1;simp at h1;subst h1
        simp
     . simp at hw
theorem As9(e:Env)(o:Oper)(v:V)(t:Nat):(bG e o v).get t=if o.dst=some t then v else e.get t:=by
 unfold bG
 cases o.dst with
 |none=>simp
 |some d =>
  simp only[Env.get]
  by_cases h:d=t<;>simp[h]
theorem AR2(a:Act)(dst:Option Tmp)(v:Value)(t:Nat)(h:∀d,dst=some d->d<a.tmps.size):
 (a.put dst v).tmps.getD t undef=if dst=some t then v else a.tmps.getD t undef:=by
 cases dst with
 |none=>simp[Act.put]
 |some d =>
  have hd:=h d rfl
  simp only[Act.put,Array.getD_eq_getD_getElem?,Array.getElem?_setIfInBounds]
  by_cases hdt:d=t
  . subst hdt;simp[hd]
  . simp[hdt]
theorem Ax6(a:Act)(dst:Option Tmp)(v:Value):(a.put dst v).tmps.size=a.tmps.size:=by cases dst<;>simp[Act.put]
theorem AH4(a:Act)(dst:Option Tmp)(v:Value):(a.put dst v).defers=a.defers:=by cases dst<;>simp[Act.put]
theorem ER.put{ρ ρ':Rho}{e:Env}{a:Act}{o:Oper}{v:V}{v':Value}(h:ER ρ e a.tmps)(hle:ρ.le ρ')(hv:VR ρ' v v')(hd:∀d,o.dst=some d->d<a.tmps.size):ER ρ' (bG e o v) (a.put o.dst v').tmps:=by
 intro t
 rw[As9,AR2 a o.dst v' t hd]
 split
 . exact hv
 . exact(h t).mono hle
section
variable {P:Program} {C:Calls} {base:Nat} {W:World} {ρ:Rho} {A A':AS} {w:World} {b:Frame} {a:Act} {ops:Array Oper} {i:Nat} {rest:List Nat} {k:List Item} {cs:List Frame} {o:Oper} {m0:Machine} {e e':Env} {nt:Nat}
theorem Am4(hv:fF P C nt ops o e A=some (e',A')):(∀d,o.dst=some d->d<nt) /\
 ((aT ops e o=some false/\e'=bG e o (.tup [])/\A'=A) ∨
  (aT ops e o=some true/\quiet o=true/\∃q,evQ P o e A=some q/\e'=bG e o (q.value A)/\A'=q.state A) ∨
  (aT ops e o=some true/\quiet o=false/\∃v,evE P C o e A=some (v,A')/\e'=bG e o v)):=by
 unfold fF at hv
 split at hv
 . rename_i hd
   refine⟨fun d hdd=>?_,?_⟩
   . unfold iL at hd;rw[hdd]at hd;simpa using hd
   . split at hv
     . rename_i hw
       split at hv
       . rename_i hq
         split at hv
         . rename_i q hqq
           simp at hv;obtain⟨rfl,rfl⟩:=hv
           exact .inr (.inl ⟨hw,hq,q,hqq,rfl,rfl⟩)
         . simp at hv
       . rename_i hq
         split at hv
         . rename_i v A1 hqq
           simp at hv;obtain⟨rfl,rfl⟩:=hv
           exact .inr (.inr ⟨hw,by simpa using hq,v,hqq,rfl⟩)
         . simp at hv
     . rename_i hw
       simp at hv;obtain⟨rfl,rfl⟩:=hv
       exact .inl ⟨hw,rfl,rfl⟩
     . simp at hv
 . simp at hv
theorem Bl8(hq:quiet o=true):dS o=false:=by
 unfold quiet at hq
 unfold dS
 cases h:o.op<;>simp_all
theorem A28{q:QR}(hq:evQ P o e A=some q):∀c,o.op≠.defer c:=by
 intro c h
 obtain⟨dst,op,ty,pos,after,guard⟩:=o
 simp only at h;subst h
 simp[evQ]at hq
theorem AH5{v':Value}{w':World}{q:QR}(hq:quiet o=true)(hqq:evQ P o e A=some q)(ho:ops[i]?=some o)(hw:Region.wanted o (yielded ops a.tmps)=true)(hr:(execOp a.eval o).run P w=.ok (.value v') w')
 (hL:Live P m0 A (lone (b.atR a (.inRegion ops (i::rest)::k)) cs w)):Live P m0 A (lone (b.atR (a.put o.dst v') (.inRegion ops rest::k)) cs w'):=
 hL.quiet (Aq1 ho hw (A28 hqq) hr) (by rw[Ao4 ho,Bl8 hq];rfl)
theorem Az7(ho:ops[i]?=some o)(hw:Region.wanted o (yielded ops a.tmps)=false)
 (hL:Live P m0 A (lone (b.atR a (.inRegion ops (i::rest)::k)) cs w)):Live P m0 A (lone (b.atR (a.put o.dst undef) (.inRegion ops rest::k)) cs w):=by
 have:=stepR_op_skip (P:=P) (b:=b) (a:=a) (k:=k) (cs:=cs) (w:=w) (ops:=ops) (i:=i) (rest:=rest) (by simp[ho,hw])
 simp only[ho,Option.bind_some]at this
 exact hL.quiet this (by rw[Ao4 ho,hw];simp)
theorem Bl9(hC:dJ P C)(h:Inv P base W ρ A w)(hE:ER ρ e a.tmps)(hsz:a.tmps.size=nt)(ho:ops[i]?=some o)(hv:fF P C nt ops o e A=some (e',A'))
 (hL:Live P m0 A (lone (b.atR a (.inRegion ops (i::rest)::k)) cs w)):
 ∃ ρ' a' w',Adv P base W ρ A w ρ' A' w'/\ER ρ' e' a'.tmps/\a'.tmps.size=nt/\a'.defers=a.defers/\Live P m0 A' (lone (b.atR a' (.inRegion ops rest::k)) cs w'):=by
 obtain⟨hd,hv1⟩:=Am4 hv
 clear hv
 have hd':∀d,o.dst=some d->d<a.tmps.size:=fun d q=>by rw[hsz];exact hd d q
 have hwd:∀t,aT ops e o=some t->Region.wanted o (yielded ops a.tmps)=t:=fun t ht=>AX3 (ρ:=ρ) (fun j want d _ _=>hE d) ht
 rcases hv1 with⟨hw,rfl,rfl⟩ |⟨hw,hq,q,hqq,rfl,rfl⟩ |⟨hw,hq,v,hv,rfl⟩
 . exact⟨ρ,_,w,.refl h,hE.put (.refl ρ) (.dy (.nil _)) hd',by rw[Ax6,hsz],AH4 _ _ _,Az7 ho (hwd _ hw) hL⟩
 . obtain⟨ρ',v',w',h1,h2,h3⟩:=Bl4 h a.eval e o q (hE.evR _) hqq
   refine⟨ρ',_,w',h2,hE.put h2.le h3 hd',by rw[Ax6,hsz],AH4 _ _ _,?_⟩
   have hg:=q.grow A
   exact(AH5 hq hqq ho (hwd _ hw) h1 hL).of hg.orc hg.odr
 . obtain⟨ρ',v',w',h1,h2,h3⟩:=AH2 hC h (hE.evR _) hv ho (hwd _ hw) hL
   exact⟨ρ',_,w',h1,hE.put h1.le h2 hd',by rw[Ax6,hsz],AH4 _ _ _,h3⟩
theorem AX4(hC:dJ P C):∀(os:List Oper) (l:List Nat) {ρ:Rho} {A:AS} {w:World} {a:Act} {e:Env},l.length=os.length->(∀(j:Nat) i o,l[j]?=some i->os[j]?=some o->ops[i]?=some o) ->
 Inv P base W ρ A w->ER ρ e a.tmps->a.tmps.size=nt->jw P C nt ops os e A=some (e',A')->Live P m0 A (lone (b.atR a (.inRegion ops l::k)) cs w) ->
 ∃ ρ' a' w',Adv P base W ρ A w ρ' A' w'/\ER ρ' e' a'.tmps/\a'.tmps.size=nt/\a'.defers=a.defers/\Live P m0 A' (lone (b.atR a' (.inRegion ops []::k)) cs w')
 |[],l,ρ,A,w,a,e,hl,_,h,hE,hsz,hv,hL=>by
  have:l=[]:=List.length_eq_zero_iff.1 (by simpa using hl)
  subst this
  simp[jw]at hv;obtain⟨rfl,rfl⟩:=hv
  exact⟨ρ,a,w,.refl h,hE,hsz,rfl,hL⟩
 |o::os,l,ρ,A,w,a,e,hl,hi,h,hE,hsz,hv,hL=>by
  cases l with
  |nil=>simp at hl
  |cons i l =>
   unfold jw at hv
   split at hv
   . rename_i e1 A1 hv1
     obtain⟨ρ1,a1,w1,h1,h2,h3,h4,h5⟩:=Bl9 hC h hE hsz (hi 0 i o rfl rfl) hv1 hL
     obtain⟨ρ2,a2,w2,q1,q2,q3,q4,q5⟩:=AX4 hC os l (by simpa using hl) (fun j i o q1 q2=>hi (j+1) i o (by simpa using q1) (by simpa using q2)) h1.inv h2 h3 hv h5
     exact⟨ρ2,a2,w2,h1.trans q1,q2,q3,q4.trans h4,q5⟩
   . simp at hv
theorem Bd6(hC:dJ P C){id:Nat}(h:Inv P base W ρ A w)(hE:ER ρ e a.tmps)(hsz:a.tmps.size=nt)(hv:jw P C nt ops ops.toList e A=some (e',A'))
 (hL:Live P m0 A (lone (b.atR a (.code (.region id ops false)::k)) cs w)):
 ∃ ρ' a' w',Adv P base W ρ A w ρ' A' w'/\ER ρ' e' a'.tmps/\a'.tmps.size=nt/\a'.defers=a.defers/\Live P m0 A' (lone (b.atR a' k) cs w'):=by
 have hL1:=hL.quiet stepR_region (Ag4 (by intro _ _ _ q;simp[Frame.atR]at q))
 obtain⟨ρ2,a2,w2,q1,q2,q3,q4,q5⟩:=AX4 hC ops.toList (List.range ops.size) (by simp) (fun j i o q1 q2=>by
  obtain⟨_,hq⟩:=LG.1 q1
  simp at hq;subst hq
  simpa using q2) h hE hsz hv hL1
 exact⟨ρ2,a2,w2,q1,q2,q3,q4,q5.quiet stepR_region_end AM4⟩
end
end Go.Sv
namespace Go.Sv
open Go
mutual
theorem V.beq_eq:∀(a b:V),V.beq a b=true->a=b
 |.undef,b,h=>by cases b<;>simp[V.beq]at h;rfl
 |.bool a,b,h=>by cases b<;>simp[V.beq]at h;rw[h]
 |.int j a,b,h=>by cases b<;>simp[V.beq]at h;rw[h.1,h.2]
 |.str a,b,h=>by cases b<;>simp[V.beq]at h;rw[h]
 |.eg,b,h=>by cases b<;>simp[V.beq]at h;rfl
 |.ptr a c,b,h=>by cases b<;>simp[V.beq]at h;rw[h.1,h.2]
 |.ah,b,h=>by cases b<;>simp[V.beq]at h;rfl
 |.sl a c d e,b,h=>by cases b<;>simp[V.beq]at h;obtain⟨⟨⟨h1,h2⟩,h3⟩,h4⟩:=h;rw[h1,h2,h3,h4]
 |.gm,b,h=>by cases b<;>simp[V.beq]at h;rfl
 |.map a,b,h=>by cases b<;>simp[V.beq]at h;rw[h]
 |.iP,b,h=>by cases b<;>simp[V.beq]at h;rfl
 |.fn f a c,b,h=>by
  cases b<;>simp[V.beq]at h
  obtain⟨⟨h1,h2⟩,h3⟩:=h
  rw[h1,AH6 _ _ h2,AH6 _ _ h3]
 |.yield a,b,h=>by cases b<;>simp[V.beq]at h;rw[h]
 |.iter a,b,h=>by cases b<;>simp[V.beq]at h;rw[h]
 |.agg a,b,h=>by cases b<;>simp[V.beq]at h;rw[AH6 _ _ h]
 |.tup a,b,h=>by cases b<;>simp[V.beq]at h;rw[AH6 _ _ h]
theorem AH6:∀(a b:List V),jP a b=true->a=b
 |[],b,h=>by cases b<;>simp[jP]at h;rfl
 |x::a,b,h=>by
  cases b with
  |nil=>simp[jP]at h
  |cons y b =>
   simp[jP]at h
   rw[V.beq_eq x y h.1,AH6 a b h.2]
end
def fW(acc:Array Nat)(o:Oper):Array Nat :=
 acc.push (o.after.toList.foldl (fun s e=>if Region.binds .any e then s ||| 2^e.on ||| acc.getD e.on 0 else s) 0)
def bef(ops:List Oper):Array Nat:=ops.foldl fW #[]
def na(B:Array Nat)(i j:Nat):Bool:=(B.getD j 0).testBit i
theorem A84(acc:Array Nat)(i:Nat):∀(l:List Edge) (s:Nat),(l.foldl (fun s e=>if Region.binds .any e then s ||| 2^e.on ||| acc.getD e.on 0 else s) s).testBit i=true ->
 s.testBit i=true∨∃e∈l,Region.binds .any e=true/\(i=e.on∨(acc.getD e.on 0).testBit i=true)
 |[],s,h=>.inl h
 |e::l,s,h=>by
  rw[List.foldl_cons]at h
  rcases A84 acc i l _ h with h |⟨e',h1,h2⟩
  . split at h
    . rename_i hb
      simp only[Nat.testBit_or,Bool.or_eq_true]at h
      rcases h with(h |h) |h
      . exact .inl h
      . right
        refine⟨e,by simp,hb,.inl ?_⟩
        rw[Nat.testBit_two_pow]at h
        simpa using (by simpa using h:e.on=i).symm
      . exact .inr ⟨e,by simp,hb,.inr h⟩
    . exact .inl h
  . exact .inr ⟨e',by simp[h1],h2⟩
theorem A85(os:List Oper):(bef os).size=os.length/\∀(j i:Nat),((bef os).getD j 0).testBit i=true ->
 ∃o,os[j]?=some o/\∃e∈o.after.toList,Region.binds .any e=true/\(i=e.on∨(e.on<j/\((bef os).getD e.on 0).testBit i=true)):=by
 have key:∀(l:List Oper),(bef l.reverse).size=l.reverse.length/\∀(j i:Nat),((bef l.reverse).getD j 0).testBit i=true ->
  ∃o,l.reverse[j]?=some o/\∃e∈o.after.toList,Region.binds .any e=true/\(i=e.on∨(e.on<j/\((bef l.reverse).getD e.on 0).testBit i=true)):=by
  intro l
  induction l with
  |nil=>exact⟨rfl,fun j i h=>by simp[bef]at h⟩
  |cons o l ih =>
   obtain⟨h1,h2⟩:=ih
   have hb:bef (o::l).reverse=fW (bef l.reverse) o:=by simp[bef,List.foldl_append]
   rw[hb]
   have hsz:(fW (bef l.reverse) o).size=l.reverse.length+1:=by simp[fW,h1]
   refine⟨by rw[hsz];simp,fun j i h=>?_⟩
   have hold:∀j',j'<l.reverse.length->(fW (bef l.reverse) o).getD j' 0=(bef l.reverse).getD j' 0:=by
    intro j' hj
    simp only[fW,Array.getD_eq_getD_getElem?]
    rw[Array.getElem?_push_lt (by omega)]
    rw[Array.getElem?_eq_getElem (by omega)]
   rcases Nat.lt_trichotomy j l.reverse.length with hj |hj |hj
   . rw[hold j hj]at h
     obtain⟨o',q1,e,q2,q3,q4⟩:=h2 j i h
     refine⟨o',by rw[List.reverse_cons,List.getElem?_append_left hj];exact q1,e,q2,q3,?_⟩
     rcases q4 with q4 |⟨q4,q5⟩
     . exact .inl q4
     . exact .inr ⟨q4,by rw[hold _ (by omega)];exact q5⟩
   . have bM:(fW (bef l.reverse) o).getD j 0=o.after.toList.foldl (fun s e=>if Region.binds .any e then s ||| 2^e.on ||| (bef l.reverse).getD e.on 0 else s) 0:=by
      rw[hj,<- h1]
      simp[fW]
     rw[bM]at h
     rcases A84 _ i _ _ h with h |⟨e,q1,q2,q3⟩
     . simp at h
     . refine⟨o,by rw[List.reverse_cons,hj];simp,e,q1,q2,?_⟩
       rcases q3 with q3 |q3
       . exact .inl q3
       . right
         have hlt:e.on<l.reverse.length:=by
          rcases Nat.lt_or_ge e.on l.reverse.length with q |q
          . exact q
          . rw[Array.getD_eq_getD_getElem?,Array.getElem?_eq_none (by omega)]at q3
            simp at q3
         exact⟨by omega,by rw[hold _ hlt];exact q3⟩
   . exfalso
     rw[Array.getD_eq_getD_getElem?,Array.getElem?_eq_none (by omega)]at h
     simp at h
 have:=key os.reverse
 simpa using this
def kM(ops:Array Oper)(D:Nat->Prop):Prop:=∀j o,D j->ops[j]?=some o->∀e∈o.after.toList,Region.binds .any e=true->D e.on
theorem Ar5{ops:Array Oper}{D:Nat->Prop}(hc:kM ops D):∀(j:Nat) {i:Nat} {o:Oper},ops[j]?=some o->(∀e∈o.after.toList,Region.binds .any e=true->D e.on)->na (bef ops.toList) i j=true->D i:=by
 intro j
 induction j using Nat.strongRecOn with
 |ind j ih =>
  intro i o ho hd hm
  obtain⟨o',h1,e,h2,h3,h4⟩:=(A85 ops.toList).2 j i hm
  have:o'=o:=by
   have h1':ops[j]?=some o':=by simpa using h1
   rw[ho]at h1';exact(Option.some.inj h1').symm
  subst this
  rcases h4 with rfl |⟨h4,h5⟩
  . exact hd e h2 h3
  . obtain⟨o2,q1,_⟩:=(A85 ops.toList).2 e.on i h5
    have q1':ops[e.on]?=some o2:=by simpa using q1
    exact ih e.on h4 q1' (fun e' he' hb'=>hc e.on o2 (hd e h2 h3) q1' e' he' hb') h5
def writes(o:Oper)(l:List Tmp):Bool:=match o.dst with |some d=>l.contains d |none=>false
def mf(P:Program)(ops:Array Oper)(B:Array Nat)(i:Nat)(o:Oper)(j:Nat)(o':Oper)(rc':List Nat):Bool :=
 let m:=na B i j
 (match o.dst with |some d=>o'.dst != some d |none=>true) &&
 (!(writes o (o'.looksAt ops)) || m) && (!(writes o' (o.looksAt ops)) || m) &&
 (if quiet o' then quiet o || m else m || (quiet o && (iw P o || rc'.contains i)))
def lz(ops:Array Oper)(o:Oper):fS->Bool
 |[]=>true
 | (j,rc)::rest=>(match ops[j]? with
  |some o'=>!(writes o' (o.looksAt ops)) || (((j,rc)::rest).all (·.2.isEmpty))
  |none=>false) && lz ops o rest
def jY(P:Program)(ops:Array Oper)(B:Array Nat):fS->Bool
 |[]=>true
 | (i,_)::rest=>(match ops[i]? with
  |some o=>!(writes o (o.looksAt ops)) && rest.all (fun x=>match ops[x.1]? with | some o'=>mf P ops B i o x.1 o' x.2 | none=>false) && lz ops o rest
  |none=>false) && jY P ops B rest
def kN:List Nat->Bool
 |[]=>true
 |x::l=>!l.contains x && kN l
def oT(ops:Array Oper):Bool:=(List.range ops.size).all fun j=>match ops[j]? with |some o=>o.after.toList.all fun e=>!Region.binds .any e || decide (e.on<j) |none=>true
def kO(P:Program)(ops:Array Oper)(ak:fS):Bool :=
 ak.length == ops.size && kN (ak.map (·.1)) && (ak.all fun x=>decide (x.1<ops.size)) && oT ops && jY P ops (bef ops.toList) ak
theorem AH7:∀{l:List Nat},kN l=true->l.Nodup
 |[],_=>.nil
 |x::l,h=>by
  simp only[kN,Bool.and_eq_true,Bool.not_eq_true']at h
  exact List.nodup_cons.2 ⟨by simpa using h.1,AH7 h.2⟩
structure qh(P:Program)(ops:Array Oper)(B:Array Nat)(i:Nat)(o:Oper)(j:Nat)(o':Oper)(rc':List Nat):Prop where
 dst:∀d,o.dst=some d->o'.dst≠some d
 wr:∀d,o.dst=some d->d∈o'.looksAt ops->na B i j=true
 rw_:∀d,o'.dst=some d->d∈o.looksAt ops->na B i j=true
 qe:quiet o'=false->na B i j=true∨(quiet o=true/\(iw P o=true∨i∈rc'))
 eq:quiet o'=true->quiet o=false->na B i j=true
theorem A29{P:Program}{ops:Array Oper}{B:Array Nat}{i:Nat}{o:Oper}{j:Nat}{o':Oper}{rc':List Nat}(h:mf P ops B i o j o' rc'=true):qh P ops B i o j o' rc':=by
 simp only[mf,Bool.and_eq_true]at h
 obtain⟨⟨⟨h1,h2⟩,h3⟩,h4⟩:=h
 refine⟨fun d hd=>?_,fun d hd hm=>?_,fun d hd hm=>?_,fun hq=>?_,fun hq hq'=>?_⟩
 . rw[hd]at h1;simpa using h1
 . simp only[writes,hd]at h2;simpa[hm] using h2
 . simp only[writes,hd]at h3;simpa[hm] using h3
 . rw[hq]at h4;simp at h4
   rcases h4 with h4 |h4
   . exact .inl h4
   . exact .inr h4
 . rw[hq,hq']at h4;simpa using h4
theorem Ar6{P:Program}{ops:Array Oper}{B:Array Nat}:∀{ak:fS} {k:Nat} {x:Nat×List Nat},jY P ops B ak=true->ak[k]?=some x ->
 ∃o,ops[x.1]?=some o/\(∀d,o.dst=some d->d ∉ o.looksAt ops)/\(∀(l:Nat) y,k<l->ak[l]?=some y->∃o',ops[y.1]?=some o'/\qh P ops B x.1 o y.1 o' y.2)/\lz ops o (ak.drop (k+1))=true
 |[],k,x,_,hx=>by simp at hx
 | (i,rc)::rest,k,x,h,hx=>by
  simp only[jY,Bool.and_eq_true]at h
  obtain⟨h1,h2⟩:=h
  cases k with
  |zero =>
   simp at hx;subst hx
   split at h1
   . rename_i o ho
     simp only[Bool.and_eq_true]at h1
     obtain⟨⟨h3,h4⟩,h5⟩:=h1
     refine⟨o,ho,fun d hd hm=>?_,fun l y hl hy=>?_,by simpa using h5⟩
     . simp only[writes,hd]at h3
       simp[hm]at h3
     . obtain⟨l',rfl⟩:∃l',l=l'+1:=⟨l-1,by omega⟩
       rw[List.getElem?_cons_succ]at hy
       have jZ:=List.mem_of_getElem? hy
       have:=List.all_eq_true.1 h4 y jZ
       split at this
       . rename_i o' ho'
         exact⟨o',ho',A29 this⟩
       . simp at this
   . simp at h1
  |succ k =>
   rw[List.getElem?_cons_succ]at hx
   obtain⟨o,q1,q2,q3,q4⟩:=Ar6 h2 hx
   refine⟨o,q1,q2,fun l y hl hy=>?_,by simpa using q4⟩
   obtain⟨l',rfl⟩:∃l',l=l'+1:=⟨l-1,by omega⟩
   rw[List.getElem?_cons_succ]at hy
   exact q3 l' y (by omega) hy
theorem A86{ops:Array Oper}{o:Oper}:∀{pl:fS} {s:Nat} {y:Nat×List Nat} {o':Oper} {d:Tmp},lz ops o pl=true->pl[s]?=some y->ops[y.1]?=some o'->o'.dst=some d->d∈o.looksAt ops ->
 ∀(l:Nat) z,s<=l->pl[l]?=some z->z.2=[]
 |[],s,y,o',d,_,hy,_,_,_=>by simp at hy
 | (j,rc)::rest,s,y,o',d,h,hy,ho,hd,hm=>by
  simp only[lz,Bool.and_eq_true]at h
  obtain⟨h1,h2⟩:=h
  cases s with
  |zero =>
   simp at hy;subst hy
   simp only[ho,writes,hd]at h1
   have h3:((j,rc)::rest).all (fun x=>x.2.isEmpty)=true:=by
    have hc:(o.looksAt ops).contains d=true:=by simpa using hm
    rw[hc]at h1
    simpa using h1
   intro l z _ hz
   have:=List.all_eq_true.1 h3 z (List.mem_of_getElem? hz)
   simpa using this
  |succ s =>
   rw[List.getElem?_cons_succ]at hy
   intro l z hl hz
   obtain⟨l',rfl⟩:∃l',l=l'+1:=⟨l-1,by omega⟩
   rw[List.getElem?_cons_succ]at hz
   exact A86 h2 hy ho hd hm l' z (by omega) hz
structure Trace(P:Program)(C:Calls)(nt:Nat)(ops:Array Oper)(ak:fS)(e:Env)(A:AS)(e':Env)(A':AS)(S:Nat->Env×AS):Prop where
 start:S 0=(e,A)
 stop:S ak.length=(e',A')
 at_:∀(k:Nat) x,ak[k]?=some x->∃o,ops[x.1]?=some o/\fF P C nt ops o (S k).1 (S k).2=some (S (k+1))/\recheck P ops (S (k+1)).1 (S (k+1)).2 x.2=true
theorem A87{P:Program}{C:Calls}{nt:Nat}{ops:Array Oper}:∀{ak:fS} {e:Env} {A:AS} {e':Env} {A':AS},ij P C nt ops ak e A=some (e',A')->∃S,Trace P C nt ops ak e A e' A' S
 |[],e,A,e',A',h=>by
  simp[ij]at h
  obtain⟨rfl,rfl⟩:=h
  exact⟨fun _=>(e,A),rfl,rfl,fun k x hx=>by simp at hx⟩
 | (i,rc)::ak,e,A,e',A',h=>by
  unfold ij at h
  split at h
  . simp at h
  . rename_i o ho
    split at h
    . rename_i e1 A1 h1
      split at h
      . rename_i hrc
        obtain⟨S,h2,h3,h4⟩:=A87 h
        refine⟨fun k=>match k with | 0=>(e,A) |k+1=>S k,rfl,h3,fun k x hx=>?_⟩
        cases k with
        |zero =>
         simp at hx;subst hx
         exact⟨o,ho,by simp only[h2];exact h1,by simp only[h2];exact hrc⟩
        |succ k =>
         rw[List.getElem?_cons_succ]at hx
         exact h4 k x hx
      . simp at h
    . simp at h
theorem AH8{P:Program}{ops:Array Oper}{e:Env}{A:AS}:∀{l:List Nat} {q:Nat},recheck P ops e A l=true->q∈l->∃o,ops[q]?=some o /\
 (aT ops e o=some false∨(aT ops e o=some true/\∃v d,evQ P o e A=some (.val v)/\o.dst=some d/\v=e.get d))
 |[],q,_,hm=>by simp at hm
 |x::l,q,h,hm=>by
  simp only[recheck,Bool.and_eq_true]at h
  obtain⟨h1,h2⟩:=h
  rcases List.mem_cons.1 hm with rfl |hm
  . split at h1
    . rename_i o ho
      refine⟨o,ho,?_⟩
      split at h1
      . rename_i hw
        split at h1
        . rename_i v d hv hd
          exact .inr ⟨hw,v,d,hv,hd,V.beq_eq _ _ h1⟩
        . simp at h1
      . rename_i hw;exact .inl hw
      . simp at h1
    . simp at h1
  . exact AH8 h2 hm
theorem Ai5{P:Program}{C:Calls}{nt:Nat}{ops:Array Oper}{ak:fS}{e:Env}{A:AS}{e':Env}{A':AS}{S:Nat->Env×AS}(T:Trace P C nt ops ak e A e' A' S){t:Nat}{j:Nat}:
 ∀(n:Nat),j+n<=ak.length->(∀(s:Nat) x o,j<=s->s<j+n->ak[s]?=some x->ops[x.1]?=some o->o.dst≠some t)->(S (j+n)).1.get t=(S j).1.get t
 | 0,_,_=>rfl
 |n+1,hl,hn=>by
  have ih:=Ai5 T n (by omega) (fun s x o h1 h2 h3 h4=>hn s x o h1 (by omega) h3 h4)
  have hx:j+n<ak.length:=by omega
  obtain⟨o,h1,h2,_⟩:=T.at_ (j+n) _ (LH hx)
  have hne:=hn (j+n) _ o (by omega) (by omega) (LH hx) h1
  obtain⟨_,h3⟩:=Am4 h2
  have:(S (j+n+1)).1.get t=(S (j+n)).1.get t:=by
   rcases h3 with⟨_,h3,_⟩ |⟨_,_,q,_,h3,_⟩ |⟨_,_,v,_,h3⟩<;>rw[h3,As9,if_neg hne]
  rw[<- ih];exact this
end Go.Sv
namespace Go.Sv
open Go
theorem pig:∀(n:Nat) (l:List Nat),l.Nodup->(∀x∈l,x<n)->l.length<=n
 | 0,l,_,h=>by
  cases l with
  |nil=>simp
  |cons x l=>have:=h x (by simp);omega
 |n+1,l,hn,h=>by
  by_cases hm:n∈l
  . have h1:=pig n (l.erase n) (hn.erase n) (fun x hx=>by
     have h2:=(hn.mem_erase_iff.1 hx)
     have:=h x h2.2
     omega)
    rw[List.length_erase_of_mem hm]at h1
    omega
  . have:=pig n l hn (fun x hx=>by
     have h2:=h x hx
     have:x≠n:=fun e=>hm (e ▸ hx)
     omega)
    omega
theorem Bm0{n:Nat}{l:List Nat}(hn:l.Nodup)(h:∀x∈l,x<n)(hl:l.length=n){i:Nat}(hi:i<n):i∈l:=by
 apply Classical.byContradiction
 intro hm
 have:=pig n (i::l) (List.nodup_cons.2 ⟨hm,hn⟩) (fun x hx=>by
  rcases List.mem_cons.1 hx with rfl |hx
  . exact hi
  . exact h x hx)
 simp at this
 omega
theorem QR.gX.grow{q:QR}{A0 A A':AS}{ρ:Rho}(h:q.gX A0 A ρ)(hg:fj A A'):q.gX A0 A' ρ:=by
 cases q with
 |val v=>trivial
 |cu cells=>exact⟨h.1,hg.blk _ _ h.2⟩
 |aB cells n sz=>exact⟨h.1,hg.blk _ _ h.2⟩
 |cq=>exact⟨h.1,hg.maps _ _ h.2⟩
theorem Adv.state{P:Program}{base:Nat}{W:World}{ρ0 ρ:Rho}{A0 A:AS}{w0 w:World}(h:Adv P base W ρ0 A0 w0 ρ A w)(q:QR):Adv P base W ρ0 A0 w0 ρ (q.state A) w:=by
 have hg:=q.grow A
 refine⟨h.le,h.inv.state q,h.fu,⟨Nat.le_trans h.fa.ln (Ax3 hg),Nat.le_trans h.fa.gS (Ax4 hg),fun b hb hn=>?_,fun r hr hn=>?_⟩,h.new⟩
 . rw[<- h.fa.blk b hb hn]
   have hb':b<A.blk.length:=Nat.lt_of_lt_of_le hb h.fa.ln
   rw[hg.blk b _ (LH hb'),LH hb']
 . rw[<- h.fa.maps r hr hn]
   have hb':r<A.maps.length:=Nat.lt_of_lt_of_le hr h.fa.gS
   rw[hg.maps r _ (LH hb'),LH hb']
theorem Bw5{P:Program}{base:Nat}{W:World}{ρ0 ρ ρ':Rho}{A0 A As:AS}{w0 w w1:World}{q:QR}(h:Adv P base W ρ0 A0 w0 ρ A w)(hw:QW P base W ρ A w w1)(hI:Inv P base W ρ' A w1)
 (hg:qg ρ ρ' q As w.heap.size) (hb:A0.blk.length<=As.blk.length) (hm:A0.maps.length<=As.maps.length):Adv P base W ρ0 A0 w0 ρ' A w1:=by
 refine⟨h.le.trans hg.le,hI,⟨Nat.le_trans h.fu.size hw.fu.size,fun i hi hn=>?_⟩,h.fa,⟨fun i x d e1 e2=>?_,fun i x e1 e2=>?_,fun x hx hh=>?_⟩⟩
 . have h1:¬ ρ.has i:=fun q=>hn (h.new.has i hi q)
   rw[hw.fu.eN i (Nat.lt_of_lt_of_le hi h.fu.size) h1,h.fu.eN i hi hn]
 . cases e3:ρ.b i with
   |none=>have:=(hg.b i _ e1 e3).1;omega
   |some y=>obtain⟨x',d'⟩:=y;exact h.new.b i x' d' e3 e2
 . cases e3:ρ.m i with
   |none=>have:=(hg.m i _ e1 e3).1;omega
   |some y=>exact h.new.m i y e3 e2
 . exact h.new.has x hx (hg.has x (Nat.lt_of_lt_of_le hx h.fu.size) hh)
section
variable {P:Program} {C:Calls} {base:Nat} {W:World} {nt:Nat} {ops:Array Oper} {ak:fS} {e e':Env} {A A':AS} {S:Nat->Env×AS} {m0:Machine} {b:Frame} {cs:List Frame} {k:List Item}
structure gu(P:Program)(base:Nat)(W:World)(nt:Nat)(ops:Array Oper)(ak:fS)(S:Nat->Env×AS)(ρ0:Rho)(A0:AS)(w0:World)(ds:List Deferred)(D:Nat->Prop)(c:Nat)(ρ:Rho)(w:World)(a:Act):Prop where
 start:(S 0).2=A0
 closed:kM ops D
 cle:c<=ak.length
 before:∀(s:Nat) x,ak[s]?=some x->D x.1->s<c
 mh:∀(s:Nat) x o,ak[s]?=some x->ops[x.1]?=some o->quiet o=false->s<c->D x.1
 next:∀x o,ak[c]?=some x->ops[x.1]?=some o->quiet o=false
 mono:∀s s',s<=s'->s'<=c->(S s).2.blk.length<=(S s').2.blk.length/\(S s).2.maps.length<=(S s').2.maps.length
 adv:Adv P base W ρ0 A0 w0 ρ (S c).2 w
 wr:∀(s:Nat) x o d,ak[s]?=some x->ops[x.1]?=some o->o.dst=some d->D x.1->VR ρ ((S (s+1)).1.get d) (a.tmps.getD d undef)
 un:∀t,(∀(s:Nat) x o,ak[s]?=some x->ops[x.1]?=some o->D x.1->o.dst≠some t)->VR ρ ((S 0).1.get t) (a.tmps.getD t undef)
 mi:∀(s:Nat) x o q,ak[s]?=some x->ops[x.1]?=some o->s<c->¬D x.1->quiet o=true->aT ops (S s).1 o=some true->evQ P o (S s).1 (S s).2=some q->q.gX (S s).2 (S c).2 ρ
 size:a.tmps.size=nt
 defs:a.defers=ds
theorem Al6(T:Trace P C nt ops ak e A e' A' S){s:Nat}{x:Nat×List Nat}{o:Oper}(hx:ak[s]?=some x)(ho:ops[x.1]?=some o)(hq:quiet o=true):
 (aT ops (S s).1 o=some false/\S (s+1)=(bG (S s).1 o (.tup []),(S s).2)) ∨
 (aT ops (S s).1 o=some true/\∃q,evQ P o (S s).1 (S s).2=some q/\S (s+1)=(bG (S s).1 o (q.value (S s).2),q.state (S s).2)):=by
 obtain⟨o',h1,h2,_⟩:=T.at_ s x hx
 rw[ho]at h1;cases h1
 obtain⟨_,h3⟩:=Am4 (e':=(S (s+1)).1) (A':=(S (s+1)).2) h2
 rcases h3 with⟨h3,h4,h5⟩ |⟨h3,_,q,h4,h5,h6⟩ |⟨_,h3,_⟩
 . exact .inl ⟨h3,Prod.ext h4 h5⟩
 . exact .inr ⟨h3,q,h4,Prod.ext h5 h6⟩
 . rw[hq]at h3;simp at h3
theorem A30(T:Trace P C nt ops ak e A e' A' S){ρ0 ρ:Rho}{A0:AS}{w0 w:World}{m:Machine}:∀(n c0:Nat),ak.length-c0=n->c0<=ak.length->Adv P base W ρ0 A0 w0 ρ (S c0).2 w->Live P m0 (S c0).2 m ->
 ∃c,c0<=c/\c<=ak.length/\(∀(s:Nat) x o,c0<=s->s<c->ak[s]?=some x->ops[x.1]?=some o->quiet o=true)/\(∀x o,ak[c]?=some x->ops[x.1]?=some o->quiet o=false) /\
  Adv P base W ρ0 A0 w0 ρ (S c).2 w/\Live P m0 (S c).2 m/\fj (S c0).2 (S c).2/\(∀s,c0<=s->s<c->fj (S s).2 (S (s+1)).2) /\
  (∀(s:Nat) x o q,c0<=s->s<c->ak[s]?=some x->ops[x.1]?=some o->quiet o=true->aT ops (S s).1 o=some true->evQ P o (S s).1 (S s).2=some q->q.gX (S s).2 (S c).2 ρ)
 | 0,c0,hn,hc,hA,hL=>by
  have:c0=ak.length:=by omega
  subst this
  exact⟨ak.length,Nat.le_refl _,Nat.le_refl _,fun s x o h1 h2=>by omega,fun x o h=>by simp at h,hA,hL,.refl _,fun s h1 h2=>by omega,fun s x o q h1 h2=>by omega⟩
 |n+1,c0,hn,hc,hA,hL=>by
  have hlt:c0<ak.length:=by omega
  have hx:=LH hlt
  obtain⟨o,ho,_,_⟩:=T.at_ c0 _ hx
  by_cases hq:quiet o=true
  . have dA:fj (S c0).2 (S (c0+1)).2/\Adv P base W ρ0 A0 w0 ρ (S (c0+1)).2 w/\(∀q,aT ops (S c0).1 o=some true->evQ P o (S c0).1 (S c0).2=some q->q.gX (S c0).2 (S (c0+1)).2 ρ):=by
     rcases Al6 T hx ho hq with⟨h1,h2⟩ |⟨h1,q,h2,h3⟩
     . rw[h2];exact⟨.refl _,hA,fun q hw=>by rw[h1]at hw;simp at hw⟩
     . rw[h3]
       refine⟨q.grow _,hA.state q,fun q' hw hq'=>?_⟩
       rw[h2]at hq'
       cases hq'
       exact q.kA hA.inv
    obtain⟨g1,g2,g3⟩:=dA
    obtain⟨c,h1,h2,h3,h4,h5,h6,h7,h8,h9⟩:=A30 T n (c0+1) (by omega) (by omega) g2 (hL.of g1.orc g1.odr)
    refine⟨c,by omega,h2,fun s x o' q1 q2 q3 q4=>?_,h4,h5,h6,g1.trans h7,fun s q1 q2=>?_,fun s x o' q q1 q2 q3 q4 q5 q6 q7=>?_⟩
    . rcases Nat.eq_or_lt_of_le q1 with rfl |q1
      . rw[hx]at q3;cases q3
        rw[ho]at q4;cases q4
        exact hq
      . exact h3 s x o' q1 q2 q3 q4
    . rcases Nat.eq_or_lt_of_le q1 with rfl |q1
      . exact g1
      . exact h8 s q1 q2
    . rcases Nat.eq_or_lt_of_le q1 with rfl |q1
      . rw[hx]at q3;cases q3
        rw[ho]at q4;cases q4
        exact(g3 q q6 q7).grow h7
      . exact h9 s x o' q q1 q2 q3 q4 q5 q6 q7
  . refine⟨c0,Nat.le_refl _,hc,fun s x o h1 h2=>by omega,fun x o' h1 h2=>?_,hA,hL,.refl _,fun s h1 h2=>by omega,fun s x o q h1 h2=>by omega⟩
    rw[hx]at h1;cases h1
    rw[ho]at h2;cases h2
    simpa using hq
theorem Az8{S:Nat->Env×AS}{c0 c:Nat}(h:∀s,c0<=s->s<c->fj (S s).2 (S (s+1)).2):∀n s,c0<=s->s+n<=c->fj (S s).2 (S (s+n)).2
 | 0,s,_,_=>.refl _
 |n+1,s,h1,h2=>(Az8 h n s h1 (by omega)).trans (h (s+n) (by omega) (by omega))
structure eE(P:Program)(ops:Array Oper)(ak:fS):Prop where
 len:ak.length=ops.size
 nodup:(ak.map (·.1)).Nodup
 lt:∀x∈ak,x.1<ops.size
 rR:∀(j:Nat) o,ops[j]?=some o->∀e∈o.after.toList,Region.binds .any e=true->e.on<j
 go:jY P ops (bef ops.toList) ak=true
theorem A31(h:kO P ops ak=true):eE P ops ak:=by
 simp only[kO,Bool.and_eq_true,beq_iff_eq]at h
 obtain⟨⟨⟨⟨h1,h2⟩,h3⟩,h4⟩,h5⟩:=h
 refine⟨h1,AH7 h2,fun x hx=>by simpa using List.all_eq_true.1 h3 x hx,fun j o ho e he hb=>?_,h5⟩
 have hj:j<ops.size:=(Array.getElem?_eq_some_iff.1 ho).1
 have:=List.all_eq_true.1 h4 j (by simpa using hj)
 rw[ho]at this
 have:=List.all_eq_true.1 this e he
 rw[hb]at this
 simpa using this
theorem eE.pos(h:eE P ops ak){i:Nat}(hi:i<ops.size):∃(p:Nat) (x:Nat×List Nat),ak[p]?=some x/\x.1=i:=by
 have hm:i∈ak.map (·.1):=Bm0 h.nodup (fun x hx=>by
  obtain⟨y,hy,rfl⟩:=List.mem_map.1 hx
  exact h.lt y hy) (by simp[h.len]) hi
 obtain⟨x,hx,hx2⟩:=List.mem_map.1 hm
 obtain⟨p,hp⟩:=List.mem_iff_getElem?.1 hx
 exact⟨p,x,hp,hx2⟩
theorem eE.uniq(h:eE P ops ak){p q:Nat}{x y:Nat×List Nat}(hp:ak[p]?=some x)(hq:ak[q]?=some y)(he:x.1=y.1):p=q:=by
 obtain⟨hp1,hp2⟩:=LG.1 hp
 obtain⟨hq1,hq2⟩:=LG.1 hq
 have key:=List.pairwise_iff_getElem.1 h.nodup
 rcases Nat.lt_trichotomy p q with hlt |hlt |hlt
 . have h1:=key p q (by simpa using hp1) (by simpa using hq1) hlt
   simp[hp2,hq2,he]at h1
 . exact hlt
 . have h1:=key q p (by simpa using hq1) (by simpa using hp1) hlt
   simp[hp2,hq2,he]at h1
theorem eE.pair(h:eE P ops ak){p q:Nat}{x y:Nat×List Nat}{o o':Oper}(hpq:p<q)(hp:ak[p]?=some x)(hq:ak[q]?=some y)(ho:ops[x.1]?=some o)(ho':ops[y.1]?=some o'):
 qh P ops (bef ops.toList) x.1 o y.1 o' y.2:=by
 obtain⟨o1,h1,_,h2,_⟩:=Ar6 h.go hp
 rw[ho]at h1;cases h1
 obtain⟨o2,h3,h4⟩:=h2 q y hpq hq
 rw[ho']at h3;cases h3
 exact h4
theorem eE.dst(h:eE P ops ak){p q:Nat}{x y:Nat×List Nat}{o o':Oper}(hpq:p≠q)(hp:ak[p]?=some x)(hq:ak[q]?=some y)(ho:ops[x.1]?=some o)(ho':ops[y.1]?=some o'){d:Tmp}(hd:o.dst=some d):o'.dst≠some d:=by
 rcases Nat.lt_or_gt_of_ne hpq with hlt |hlt
 . exact(h.pair hlt hp hq ho ho').dst d hd
 . intro hd'
   exact(h.pair hlt hq hp ho' ho).dst d hd' hd
variable {ρ0 ρ:Rho} {A0:AS} {w0 w:World} {ds:List Deferred} {D:Nat->Prop} {c:Nat} {a:Act}
theorem gu.rS(hP:eE P ops ak)(T:Trace P C nt ops ak e A e' A' S)(h:gu P base W nt ops ak S ρ0 A0 w0 ds D c ρ w a){p:Nat}{x:Nat×List Nat}{o:Oper}(hx:ak[p]?=some x)(ho:ops[x.1]?=some o)
 (hnd:¬D x.1) (hr:∀e∈o.after.toList,Region.binds .any e=true->D e.on) {t:Tmp} (ht:t∈o.looksAt ops):VR ρ ((S p).1.get t) (a.tmps.getD t undef):=by
 have jb:p<ak.length:=(LG.1 hx).1
 by_cases hex:∃(s:Nat) (y:Nat×List Nat) (o':Oper),ak[s]?=some y/\ops[y.1]?=some o'/\o'.dst=some t
 . obtain⟨s,y,o',hy,ho',hd⟩:=hex
   have rT:s≠p:=by
    intro hsp
    subst hsp
    rw[hx]at hy;cases hy
    rw[ho]at ho';cases ho'
    obtain⟨o1,h1,h2,_⟩:=Ar6 hP.go hx
    rw[ho]at h1;cases h1
    exact h2 t hd ht
   rcases Nat.lt_or_gt_of_ne rT with hlt |hlt
   ·
    have hm:=(hP.pair hlt hy hx ho' ho).wr t hd ht
    have hD:D y.1:=Ar5 h.closed x.1 ho hr hm
    have h1:=h.wr s y o' t hy ho' hd hD
    have h2:=Ai5 T (t:=t) (j:=s+1) (p-(s+1)) (by omega) (fun s' x' o2 q1 q2 q3 q4=>hP.dst (by omega) hy q3 ho' q4 hd)
    rw[show s+1+(p-(s+1))=p by omega]at h2
    rw[h2];exact h1
   ·
    have hm:=(hP.pair hlt hx hy ho ho').rw_ t hd ht
    have hun:=h.un t (fun s' x' o2 q3 q4 q5 hd2=>by
     have hss:s'=s:=Classical.byContradiction fun hne=>hP.dst hne q3 hy q4 ho' hd2 hd
     subst hss
     rw[hy]at q3;cases q3
     exact hnd (Ar5 h.closed y.1 ho' (fun e he hb=>h.closed y.1 o' q5 ho' e he hb) hm))
    have h2:=Ai5 T (t:=t) (j:=0) p (by omega) (fun s' x' o2 q1 q2 q3 q4=>hP.dst (by omega) hy q3 ho' q4 hd)
    rw[Nat.zero_add]at h2
    rw[h2];exact hun
 . have hun:=h.un t (fun s' x' o2 q3 q4 q5 hd2=>hex ⟨s',x',o2,q3,q4,hd2⟩)
   have h2:=Ai5 T (t:=t) (j:=0) p (by omega) (fun s' x' o2 q1 q2 q3 q4 hd2=>hex ⟨s',x',o2,q3,q4,hd2⟩)
   rw[Nat.zero_add]at h2
   rw[h2];exact hun
theorem gu.chain(hP:eE P ops ak)(T:Trace P C nt ops ak e A e' A' S)(h:gu P base W nt ops ak S ρ0 A0 w0 ds D c ρ w a){p:Nat}{x:Nat×List Nat}{o:Oper}{q:QR}(hx:ak[p]?=some x)(ho:ops[x.1]?=some o)
 (hnd:¬D x.1) (hq:quiet o=true) (hw:aT ops (S p).1 o=some true) (hqq:evQ P o (S p).1 (S p).2=some q):∀n,p+1+n<=c->evQ P o (S p).1 (S (p+1+n)).2=some q
 | 0,_=>by
  rcases Al6 T hx ho hq with⟨h1,_⟩ |⟨_,q',h2,h3⟩
  . rw[hw]at h1;simp at h1
  . rw[hqq]at h2;cases h2
    rw[Nat.add_zero,h3]
    exact A83 (q.grow _) hqq
 |n+1,hn=>by
  have ih:=gu.chain hP T h hx ho hnd hq hw hqq n (by omega)
  have hlen:p+1+n<ak.length:=by have:=h.cle;omega
  have hy:=LH hlen
  generalize ak[p+1+n]=y at hy
  obtain⟨o',ho',hev,hrc⟩:=T.at_ (p+1+n) y hy
  by_cases hq':quiet o'=true
  . rcases Al6 T hy ho' hq' with⟨_,h3⟩ |⟨_,q',_,h3⟩
    . rw[show p+1+(n+1)=p+1+n+1 by omega,h3];exact ih
    . rw[show p+1+(n+1)=p+1+n+1 by omega,h3];exact A83 (q'.grow _) ih
  . have hq'':quiet o'=false:=by simpa using hq'
    have rU:=hP.pair (show p<p+1+n by omega) hx hy ho ho'
    rcases rU.qe hq'' with hm |⟨_,hp |jZ⟩
    . have hDy:D y.1:=h.mh _ y o' hy ho' hq'' (by omega)
      exact absurd (Ar5 h.closed y.1 ho' (fun e he hb=>h.closed y.1 o' hDy ho' e he hb) hm) hnd
    . rw[show p+1+(n+1)=p+1+n+1 by omega,<- Bw1 (A:=(S (p+1+n)).2) hp];exact ih
    ·
     have eQ:∀t∈o.looksAt ops,(S (p+1+n+1)).1.get t=(S p).1.get t:=by
      intro t ht
      have:=Ai5 T (t:=t) (j:=p) (n+2) (by omega) (fun s' x' o2 q1 q2 q3 q4 hd2=>by
       rcases Nat.eq_or_lt_of_le q1 with rfl |q1
       . rw[hx]at q3;cases q3
         rw[ho]at q4;cases q4
         obtain⟨o1,h1,h2,_⟩:=Ar6 hP.go hx
         rw[ho]at h1;cases h1
         exact h2 t hd2 ht
       . obtain⟨o1,h1,_,_,h2⟩:=Ar6 hP.go hx
         rw[ho]at h1;cases h1
         have hs':(ak.drop (p+1))[s'-(p+1)]?=some x':=by rw[List.getElem?_drop];rw[show p+1+(s'-(p+1))=s' by omega];exact q3
         have:=A86 h2 hs' q4 hd2 ht n y (by omega) (by rw[List.getElem?_drop];exact hy)
         rw[this]at jZ;simp at jZ)
      rw[show p+(n+2)=p+1+n+1 by omega]at this
      exact this
     obtain⟨o1,h1,h2⟩:=AH8 hrc jZ
     rw[ho]at h1;cases h1
     have qi:aT ops (S (p+1+n+1)).1 o=aT ops (S p).1 o:=by
      unfold aT
      cases hg:o.guard with
      |none=>rfl
      |some gw =>
       obtain⟨j,want⟩:=gw
       simp only[]
       cases hd:(ops[j]?).bind (·.dst)with
       |none=>rfl
       |some d =>
        simp only[]
        rw[eQ d (by simp[Oper.looksAt,hg,hd])]
     rw[qi,hw]at h2
     rcases h2 with h2 |⟨_,v,d,h3,h4,h5⟩
     . simp at h2
     . have rV:evQ P o (S (p+1+n+1)).1 (S (p+1+n+1)).2=evQ P o (S p).1 (S (p+1+n+1)).2:=Bl6 (fun z hz=>by
        cases z with
        |tmp t=>simp only[Env.eval];rw[eQ t (by simp only[Oper.looksAt,List.mem_append,List.mem_filterMap];left;exact⟨_,by simpa using hz,rfl⟩)]
        |const c=>rfl
        |global g=>rfl
        |func f=>rfl)
       rw[rV]at h3
       rw[show p+1+(n+1)=p+1+n+1 by omega]
       by_cases hval:∃r,q=.val r
       . obtain⟨r,rfl⟩:=hval
         rw[h3]
         have lQ:(S (p+1)).1.get d=r:=by
          rcases Al6 T hx ho hq with⟨h1,_⟩ |⟨_,q',h6,h7⟩
          . rw[hw]at h1;simp at h1
          . rw[hqq]at h6;cases h6
            rw[h7];simp only[As9,h4,if_true];rfl
         have ej:=Ai5 T (t:=d) (j:=p+1) (n+1) (by omega) (fun s' x' o2 q1 q2 q3 q4=>hP.dst (by omega) hx q3 ho q4 h4)
         rw[show p+1+(n+1)=p+1+n+1 by omega]at ej
         rw[h5,ej,lQ]
       . exact BM1 ih (fun v hv=>hval ⟨v,hv⟩)
end
end Go.Sv
namespace Go.Sv
open Go
section
variable {P:Program} {C:Calls} {base:Nat} {W:World} {nt:Nat} {ops:Array Oper} {ak:fS} {e e':Env} {A A':AS} {S:Nat->Env×AS} {m0:Machine} {b:Frame} {cs:List Frame} {k:List Item}
variable {ρ0 ρ:Rho} {A0:AS} {w0 w:World} {ds:List Deferred} {D:Nat->Prop} {c:Nat} {a:Act}
theorem gu.put(hP:eE P ops ak)(h:gu P base W nt ops ak S ρ0 A0 w0 ds D c ρ w a){p:Nat}{x:Nat×List Nat}{o:Oper}(hx:ak[p]?=some x)(ho:ops[x.1]?=some o)
 {ρ':Rho} (hle:ρ.le ρ') {v:V} {v':Value} (hv:VR ρ' v v') (hd:∀d,o.dst=some d->d<nt) (hS:(S (p+1)).1=bG (S p).1 o v):
 (∀(s:Nat) y o' d,ak[s]?=some y->ops[y.1]?=some o'->o'.dst=some d->(D y.1∨y.1=x.1)->VR ρ' ((S (s+1)).1.get d) ((a.put o.dst v').tmps.getD d undef)) /\
 (∀t,(∀(s:Nat) y o',ak[s]?=some y->ops[y.1]?=some o'->(D y.1∨y.1=x.1)->o'.dst≠some t)->VR ρ' ((S 0).1.get t) ((a.put o.dst v').tmps.getD t undef)):=by
 have hd':∀d,o.dst=some d->d<a.tmps.size:=fun d q=>by rw[h.size];exact hd d q
 refine⟨fun s y o' d hy ho' hdd hD=>?_,fun t ht=>?_⟩
 . rw[AR2 a o.dst v' d hd']
   by_cases hsp:s=p
   . subst hsp
     rw[hx]at hy;cases hy
     rw[ho]at ho';cases ho'
     rw[hS,As9,if_pos hdd,if_pos hdd]
     exact hv
   . rw[if_neg (hP.dst hsp hy hx ho' ho hdd)]
     rcases hD with hD |hD
     . exact(h.wr s y o' d hy ho' hdd hD).mono hle
     . exact absurd (hP.uniq hy hx hD) hsp
 . rw[AR2 a o.dst v' t hd',if_neg (ht p x o hx ho (.inr rfl))]
   exact(h.un t (fun s y o' q1 q2 q3=>ht s y o' q1 q2 (.inl q3))).mono hle
theorem A32(h:kM ops D){i:Nat}{o:Oper}(ho:ops[i]?=some o)(hr:∀e∈o.after.toList,Region.binds .any e=true->D e.on):kM ops (fun j=>D j∨j=i):=by
 intro j o' hj ho' e he hb
 rcases hj with hj |rfl
 . exact .inl (h j o' hj ho' e he hb)
 . rw[ho]at ho';cases ho'
   exact .inl (hr e he hb)
theorem A33{q q':QR}{As Ap Ac:AS}{ρ':Rho}{n:Nat}(ht:q'.gX As Ac ρ)(hg:qg ρ ρ' q Ap n)
 (hb:q.jy=true->q'.jy=true->As.blk.length≠Ap.blk.length)
 (hm:q.jX=true->q'.jX=true->As.maps.length≠Ap.maps.length):q'.gX As Ac ρ':=by
 have nb:∀i,ρ.b i=none->i≠Ap.blk.length∨¬q.jy=true->ρ'.b i=none:=by
  intro i h1 h2
  cases h3:ρ'.b i with
  |none=>rfl
  |some y =>
   obtain⟨h4,h5⟩:=hg.b i y h3 h1
   rcases h2 with h2 |h2
   . exact absurd h4 h2
   . exact absurd h5 h2
 have nm:∀i,ρ.m i=none->i≠Ap.maps.length∨¬q.jX=true->ρ'.m i=none:=by
  intro i h1 h2
  cases h3:ρ'.m i with
  |none=>rfl
  |some y =>
   obtain⟨h4,h5⟩:=hg.m i y h3 h1
   rcases h2 with h2 |h2
   . exact absurd h4 h2
   . exact absurd h5 h2
 cases q' with
 |val v=>trivial
 |cu cells =>
  refine⟨nb _ ht.1 ?_,ht.2⟩
  by_cases hq:q.jy=true
  . exact .inl (hb hq rfl)
  . exact .inr hq
 |aB cells n sz =>
  refine⟨nb _ ht.1 ?_,ht.2⟩
  by_cases hq:q.jy=true
  . exact .inl (hb hq rfl)
  . exact .inr hq
 |cq =>
  refine⟨nm _ ht.1 ?_,ht.2⟩
  by_cases hq:q.jX=true
  . exact .inl (hm hq rfl)
  . exact .inr hq
theorem AM5{q:QR}{A:AS}(h:q.jy=true):(q.state A).blk.length=A.blk.length+1:=by
 cases q<;>simp_all[QR.state,AS.push,QR.jy]
theorem AM6{q:QR}{A:AS}(h:q.jX=true):(q.state A).maps.length=A.maps.length+1:=by
 cases q<;>simp_all[QR.state,AS.bQ,QR.jX]
theorem Bm1(hC:dJ P C)(hP:eE P ops ak)(T:Trace P C nt ops ak e A e' A' S)(h:gu P base W nt ops ak S ρ0 A0 w0 ds D c ρ w a){i:Nat}{rest:List Nat}{o:Oper}(ho:ops[i]?=some o)
 (hnd:¬D i) (hr:∀e∈o.after.toList,Region.binds .any e=true->D e.on) (hL:Live P m0 (S c).2 (lone (b.atR a (.inRegion ops (i::rest)::k)) cs w)):
 ∃c' ρ' w' a',gu P base W nt ops ak S ρ0 A0 w0 ds (fun j=>D j∨j=i) c' ρ' w' a'/\Live P m0 (S c').2 (lone (b.atR a' (.inRegion ops rest::k)) cs w'):=by
 obtain⟨p,x,hx,rfl⟩:=hP.pos (i:=i) (Array.getElem?_eq_some_iff.1 ho).1
 have og:∀t∈o.looksAt ops,VR ρ ((S p).1.get t) (a.tmps.getD t undef):=fun t ht=>h.rS hP T hx ho hnd hr ht
 have hev:EvR ρ (S p).1 a.eval o.op.operands:=fun z hz v hv=>AH3 (fun t ht=>og t (by
  subst ht
  simp only[Oper.looksAt,List.mem_append,List.mem_filterMap];left;exact⟨_,by simpa using hz,rfl⟩)) hv
 have hwd:∀t,aT ops (S p).1 o=some t->Region.wanted o (yielded ops a.tmps)=t:=fun t ht=>AX3 (ρ:=ρ) (fun j want d hg hd=>og d (by simp[Oper.looksAt,hg,hd])) ht
 obtain⟨o1,h1,h2,hrc⟩:=T.at_ p x hx
 rw[ho]at h1;cases h1
 obtain⟨hd,h3⟩:=Am4 (e':=(S (p+1)).1) (A':=(S (p+1)).2) h2
 have mL:=A32 h.closed ho hr
 by_cases hq:quiet o=true
 ·
  have hpc:p<c:=by
   rcases Nat.lt_trichotomy p c with hlt |heq |hgt
   . exact hlt
   . subst heq
     have:=h.next x o hx ho
     rw[hq]at this;simp at this
   . exfalso
     have jb:p<ak.length:=(LG.1 hx).1
     have hy:=LH (show c<ak.length by omega)
     generalize ak[c]=y at hy
     obtain⟨oc,hoc,_,_⟩:=T.at_ c y hy
     have hm:=(hP.pair hgt hy hx hoc ho).eq hq (h.next y oc hy hoc)
     have:=h.before c y hy (Ar5 h.closed x.1 ho hr hm)
     omega
  have A58:∀(ρ':Rho) (w':World) (v:V) (v':Value),ρ.le ρ'->Adv P base W ρ0 A0 w0 ρ' (S c).2 w'->VR ρ' v v'->(S (p+1)).1=bG (S p).1 o v ->
   (∀(s:Nat) y o' q,ak[s]?=some y->ops[y.1]?=some o'->s<c->¬(D y.1∨y.1=x.1)->quiet o'=true->aT ops (S s).1 o'=some true->evQ P o' (S s).1 (S s).2=some q->q.gX (S s).2 (S c).2 ρ') ->
   gu P base W nt ops ak S ρ0 A0 w0 ds (fun j=>D j∨j=x.1) c ρ' w' (a.put o.dst v'):=by
   intro ρ' w' v v' hle hA hv hS rW
   obtain⟨h6,h7⟩:=h.put hP hx ho hle hv hd hS
   exact { start:=h.start,closed:=mL,cle:=h.cle,before:=fun s y hy hD=>by
            rcases hD with hD |hD
            . exact h.before s y hy hD
            . rw[hP.uniq hy hx hD];exact hpc
           mh:=fun s y o' hy ho' hq' hs=>.inl (h.mh s y o' hy ho' hq' hs),next:=h.next,mono:=h.mono,adv:=hA,wr:=h6,un:=h7,mi:=rW,size:=by rw[Ax6,h.size],defs:=by rw[AH4,h.defs] }
  rcases h3 with⟨hw,hS,hS2⟩ |⟨hw,_,q,hqq,hS,hS2⟩ |⟨_,hq',_⟩
  . refine⟨c,ρ,w,a.put o.dst undef,A58 ρ w (.tup []) undef (.refl ρ) h.adv (.dy (.nil _)) hS (fun s y o' q hy ho' hs hD hq' hw' hqq=>h.mi s y o' q hy ho' hs (fun hD'=>hD (.inl hD')) hq' hw' hqq),?_⟩
    exact Az7 ho (hwd _ hw) hL
  ·
   have mj:=h.chain hP T hx ho hnd hq hw hqq (c-(p+1)) (by omega)
   rw[show p+1+(c-(p+1))=c by omega]at mj
   obtain⟨v',w1,r1,r2,r3⟩:=AW8 h.adv.inv a.eval (S p).1 o q hev mj
   have qj:=h.mi p x o q hx ho hpc hnd hq hw hqq
   obtain⟨ρ',r4,r5,r6⟩:=Cw3 (A0:=(S p).2) r2.inv h.adv.inv.size (fun z hz=>h.adv.inv.ik hz) r3 qj
   have ql:=h.mono 0 p (by omega) (by omega)
   rw[h.start]at ql
   have hA1:=Bw5 (As:=(S p).2) h.adv r2 r4 r6 ql.1 ql.2
   refine⟨c,ρ',w1,a.put o.dst v',A58 ρ' w1 (q.value (S p).2) v' r6.le hA1 r5 hS ?_,AH5 hq mj ho (hwd _ hw) r1 hL⟩
   intro s y o' q' hy ho' hs hD hq' hw' oh
   have hne:s≠p:=fun e=>hD (.inr (by subst e;rw[hx]at hy;cases hy;rfl))
   have ht:=h.mi s y o' q' hy ho' hs (fun hD'=>hD (.inl hD')) hq' hw' oh
   have hSs:(S (s+1)).2=q'.state (S s).2:=by
    rcases Al6 T hy ho' hq' with⟨e1,_⟩ |⟨_,q2,e2,e3⟩
    . rw[hw']at e1;simp at e1
    . rw[oh]at e2;cases e2;rw[e3]
   refine A33 ht r6 (fun f1 f2=>?_) (fun f1 f2=>?_)
   . rcases Nat.lt_or_gt_of_ne hne with hlt |hlt
     . have h8:=(h.mono (s+1) p (by omega) (by omega)).1
       rw[hSs,AM5 f2]at h8
       omega
     . have h8:=(h.mono (p+1) s (by omega) (by omega)).1
       rw[hS2,AM5 f1]at h8
       omega
   . rcases Nat.lt_or_gt_of_ne hne with hlt |hlt
     . have h8:=(h.mono (s+1) p (by omega) (by omega)).2
       rw[hSs,AM6 f2]at h8
       omega
     . have h8:=(h.mono (p+1) s (by omega) (by omega)).2
       rw[hS2,AM6 f1]at h8
       omega
  . rw[hq]at hq';simp at hq'
 ·
  have hq0:quiet o=false:=by simpa using hq
  have jb:p<ak.length:=(LG.1 hx).1
  have hpc:p=c:=by
   rcases Nat.lt_trichotomy p c with hlt |heq |hgt
   . exact absurd (h.mh p x o hx ho hq0 hlt) hnd
   . exact heq
   . exfalso
     have hy:=LH (show c<ak.length by omega)
     generalize ak[c]=y at hy
     obtain⟨oc,hoc,_,_⟩:=T.at_ c y hy
     rcases(hP.pair hgt hy hx hoc ho).qe hq0 with hm |⟨hm,_⟩
     . have:=h.before c y hy (Ar5 h.closed x.1 ho hr hm)
       omega
     . rw[h.next y oc hy hoc]at hm;simp at hm
  subst hpc
  have dA:∃ ρ' w' v v',Adv P base W ρ (S p).2 w ρ' (S (p+1)).2 w'/\VR ρ' v v'/\(S (p+1)).1=bG (S p).1 o v/\Live P m0 (S (p+1)).2 (lone (b.atR (a.put o.dst v') (.inRegion ops rest::k)) cs w'):=by
   rcases h3 with⟨hw,hS,hS2⟩ |⟨_,hq',_⟩ |⟨hw,_,v,hv,hS⟩
   . rw[hS2]
     exact⟨ρ,w,.tup [],undef,.refl h.adv.inv,.dy (.nil _),hS,Az7 ho (hwd _ hw) hL⟩
   . rw[hq0]at hq';simp at hq'
   . obtain⟨ρ',v',w',r1,r2,r3⟩:=AH2 hC h.adv.inv hev hv ho (hwd _ hw) hL
     exact⟨ρ',w',v,v',r1,r2,hS,r3⟩
  obtain⟨ρ',w',v,v',r1,r2,hS,r3⟩:=dA
  obtain⟨h6,h7⟩:=h.put hP hx ho r1.le r2 hd hS
  obtain⟨c',q1,q2,q3,q4,q5,q6,q7,q8,q9⟩:=A30 T (ak.length-(p+1)) (p+1) rfl (by omega) (h.adv.trans r1) r3
  refine⟨c',ρ',w',a.put o.dst v',?_,q6⟩
  have lE:∀s s',p+1<=s->s<=s'->s'<=c'->(S s).2.blk.length<=(S s').2.blk.length/\(S s).2.maps.length<=(S s').2.maps.length:=by
   intro s s' e1 e2 e3
   have:=Az8 q8 (s'-s) s e1 (by omega)
   rw[show s+(s'-s)=s' by omega]at this
   exact⟨Ax3 this,Ax4 this⟩
  exact { start:=h.start,closed:=mL,cle:=q2,
          before:=fun s y hy hD=>by
           rcases hD with hD |hD
           . have:=h.before s y hy hD;omega
           . rw[hP.uniq hy hx hD];omega
          mh:=fun s y o' hy ho' hq' hs=>by
           rcases Nat.lt_trichotomy s p with hlt |heq |hgt
           . exact .inl (h.mh s y o' hy ho' hq' hlt)
           . subst heq
             rw[hx]at hy;cases hy
             exact .inr rfl
           . have:=q3 s y o' (by omega) hs hy ho'
             rw[hq']at this;simp at this
          next:=q4
          mono:=fun s s' e1 e2=>by
           by_cases hs':s'<=p
           . exact h.mono s s' e1 hs'
           . by_cases hs:s<=p
             . have h8:=h.mono s p hs (Nat.le_refl _)
               have h9:=lE (p+1) s' (by omega) (by omega) e2
               have h10:=r1.fa.ln
               have h11:=r1.fa.gS
               exact⟨by omega,by omega⟩
             . exact lE s s' (by omega) e1 e2
          adv:=q5,wr:=h6,un:=h7
          mi:=fun s y o' q' hy ho' hs hD hq' hw' oh=>by
           rcases Nat.lt_trichotomy s p with hlt |heq |hgt
           . have ht:=h.mi s y o' q' hy ho' hlt (fun hD'=>hD (.inl hD')) hq' hw' oh
             have ht1:q'.gX (S s).2 (S (p+1)).2 ρ':=by
              have nb:∀i,i<(S p).2.blk.length->ρ.b i=none->ρ'.b i=none:=by
               intro i e1 e2
               cases e3:ρ'.b i with
               |none=>rfl
               |some y=>obtain⟨y1,y2⟩:=y;have:=r1.new.b i y1 y2 e3 e2;omega
              have nm:∀i,i<(S p).2.maps.length->ρ.m i=none->ρ'.m i=none:=by
               intro i e1 e2
               cases e3:ρ'.m i with
               |none=>rfl
               |some y=>have:=r1.new.m i y e3 e2;omega
              cases q' with
              |val v=>trivial
              |cu cells =>
               have hl:=(LG.1 ht.2).1
               exact⟨nb _ hl ht.1,by rw[r1.fa.blk _ hl ht.1];exact ht.2⟩
              |aB cells n sz =>
               have hl:=(LG.1 ht.2).1
               exact⟨nb _ hl ht.1,by rw[r1.fa.blk _ hl ht.1];exact ht.2⟩
              |cq =>
               have hl:=(LG.1 ht.2).1
               exact⟨nm _ hl ht.1,by rw[r1.fa.maps _ hl ht.1];exact ht.2⟩
             exact ht1.grow q7
           . subst heq
             rw[hx]at hy;cases hy
             exact absurd (.inr rfl) hD
           . exact q9 s y o' q' (by omega) hs hy ho' hq' hw' oh
          size:=by rw[Ax6,h.size],defs:=by rw[AH4,h.defs] }
theorem Bd7(hC:dJ P C)(hP:eE P ops ak)(T:Trace P C nt ops ak e A e' A' S):∀(fuel t:Nat) (listed:Array Bool) (dl:List Nat) {c:Nat} {ρ:Rho} {w:World} {a:Act},
 dl.Nodup->(∀i∈dl,i<ops.size)->dl.length+fuel=ops.size->listed.size=ops.size->(∀i,i<ops.size->(listed.getD i true=true↔i∈dl)) ->
 gu P base W nt ops ak S ρ0 A0 w0 ds (·∈dl) c ρ w a->Live P m0 (S c).2 (lone (b.atR a (.inRegion ops (Region.linearise.go .any ops fuel t listed [])::k)) cs w) ->
 ∃ ρ' w' a',Adv P base W ρ0 A0 w0 ρ' A' w'/\ER ρ' e' a'.tmps/\a'.tmps.size=nt/\a'.defers=ds/\Live P m0 A' (lone (b.atR a' (.inRegion ops []::k)) cs w'):=by
 have fin:∀(dl:List Nat) {c:Nat} {ρ:Rho} {w:World} {a:Act},(∀i,i<ops.size->i∈dl)->gu P base W nt ops ak S ρ0 A0 w0 ds (·∈dl) c ρ w a->Live P m0 (S c).2 (lone (b.atR a (.inRegion ops []::k)) cs w) ->
  ∃ ρ' w' a',Adv P base W ρ0 A0 w0 ρ' A' w'/\ER ρ' e' a'.tmps/\a'.tmps.size=nt/\a'.defers=ds/\Live P m0 A' (lone (b.atR a' (.inRegion ops []::k)) cs w'):=by
  intro dl c ρ w a gL h hL
  have hc:c=ak.length:=by
   rcases Nat.lt_or_ge c ak.length with hlt |hge
   . have hy:=LH hlt
     have:=h.before c _ hy (gL _ (hP.lt _ (List.mem_of_getElem? hy)))
     omega
   . have:=h.cle;omega
  subst hc
  have hA:=h.adv
  rw[T.stop]at hA hL
  refine⟨ρ,w,a,hA,fun t=>?_,h.size,h.defs,hL⟩
  have he':e'=(S ak.length).1:=by rw[T.stop]
  rw[he']
  by_cases hex:∃(s:Nat) (y:Nat×List Nat) (o':Oper),ak[s]?=some y/\ops[y.1]?=some o'/\o'.dst=some t
  . obtain⟨s,y,o',hy,ho',hd⟩:=hex
    have hlt:=(LG.1 hy).1
    have h1:=h.wr s y o' t hy ho' hd (gL _ (hP.lt _ (List.mem_of_getElem? hy)))
    have h2:=Ai5 T (t:=t) (j:=s+1) (ak.length-(s+1)) (by omega) (fun s' x' o2 q1 q2 q3 q4=>hP.dst (by omega) hy q3 ho' q4 hd)
    rw[show s+1+(ak.length-(s+1))=ak.length by omega]at h2
    rw[h2];exact h1
  . have hun:=h.un t (fun s' x' o2 q3 q4 q5 hd2=>hex ⟨s',x',o2,q3,q4,hd2⟩)
    have h2:=Ai5 T (t:=t) (j:=0) ak.length (by omega) (fun s' x' o2 q1 q2 q3 q4 hd2=>hex ⟨s',x',o2,q3,q4,hd2⟩)
    rw[Nat.zero_add]at h2
    rw[h2];exact hun
 intro fuel
 induction fuel with
 |zero =>
  intro t listed dl c ρ w a hn hlt hlen hsz hli h hL
  exact fin dl (fun i hi=>Bm0 hn hlt (by omega) hi) h (by simpa[Region.linearise.go] using hL)
 |succ fuel ih =>
  intro t listed dl c ρ w a hn hlt hlen hsz hli h hL
  simp only[Region.linearise.go]at hL
  change Live P m0 (S c).2 (lone (b.atR a (.inRegion ops (match (Region.ready .any ops listed)[t%(Region.ready .any ops listed).length]? with
   |some i=>Region.linearise.go .any ops fuel (t/(Region.ready .any ops listed).length) (listed.setIfInBounds i true) [i]
   |none=>[].reverse)::k)) cs w)at hL
  cases hi:(Region.ready .any ops listed)[t%(Region.ready .any ops listed).length]? with
  |none =>
   have pU:Region.ready .any ops listed=[]:=by
    cases hr:Region.ready .any ops listed with
    |nil=>rfl
    |cons x xs =>
     rw[hr]at hi
     have hlt:t%(x::xs).length<(x::xs).length:=Nat.mod_lt _ (by simp)
     rw[LH hlt]at hi
     simp at hi
   rw[hi]at hL
   refine fin dl (fun i=>?_) h (by simpa using hL)
   induction i using Nat.strongRecOn with
   |ind i ihi =>
    intro hi'
    apply Classical.byContradiction
    intro hnm
    have ho:=Array.getElem?_eq_getElem hi'
    generalize ops[i]=o at ho
    have jZ:i∈Region.ready .any ops listed:=by
     simp only[Region.ready,List.mem_filter,List.mem_range,Bool.and_eq_true,Bool.not_eq_true']
     refine⟨hi',?_,?_⟩
     . have h3:¬listed.getD i true=true:=fun q=>hnm ((hli i hi').1 q)
       simpa using h3
     . simp only[ho,Option.map_some,Option.getD_some]
       rw[Array.all_eq_true_iff_forall_mem]
       intro ed hed
       by_cases hb:Region.binds .any ed=true
       . have rX:=hP.rR i o ho ed (by simpa using hed) hb
         have h3:=ihi ed.on rX (by omega)
         have h4:=(hli ed.on (by omega)).2 h3
         have h5:listed.getD ed.on false=true:=by
          simp only[Array.getD_eq_getD_getElem?]at h4 ⊢
          rw[Array.getElem?_eq_getElem (by omega)]at h4 ⊢
          simpa using h4
         simp[h5]
       . have hb':Region.binds .any ed=false:=by simpa using hb
         simp[hb']
    rw[pU]at jZ
    simp at jZ
  |some i =>
   rw[hi]at hL
   simp only[]at hL
   rw[linearise_go_acc,List.reverse_singleton,List.singleton_append]at hL
   have jZ:=List.mem_of_getElem? hi
   simp only[Region.ready,List.mem_filter,List.mem_range,Bool.and_eq_true,Bool.not_eq_true']at jZ
   obtain⟨hi',hnl,hr⟩:=jZ
   have ho:=Array.getElem?_eq_getElem hi'
   generalize ops[i]=o at ho
   have hnd:i ∉ dl:=fun hm=>by have:=(hli i hi').2 hm;rw[hnl]at this;simp at this
   have hr':∀ed∈o.after.toList,Region.binds .any ed=true->ed.on∈dl:=by
    intro ed hed hb
    simp only[ho,Option.map_some,Option.getD_some]at hr
    rw[Array.all_eq_true_iff_forall_mem]at hr
    have h3:=hr ed (by simpa using hed)
    rw[hb]at h3
    simp only[Bool.not_true,Bool.false_or]at h3
    have rX:=hP.rR i o ho ed hed hb
    refine(hli ed.on (by omega)).1 ?_
    simp only[Array.getD_eq_getD_getElem?]at h3 ⊢
    rw[Array.getElem?_eq_getElem (by omega)]at h3 ⊢
    simpa using h3
   obtain⟨c',ρ',w',a',r1,r2⟩:=Bm1 hC hP T h ho hnd hr' hL
   have tt:(fun j=>j∈dl∨j=i)=(·∈i::dl):=by
    funext j
    simp only[List.mem_cons]
    exact propext ⟨fun h=>h.symm,fun h=>h.symm⟩
   rw[tt]at r1
   refine ih _ _ (i::dl) (List.nodup_cons.2 ⟨hnd,hn⟩) (fun z hz=>by
    rcases List.mem_cons.1 hz with rfl |hz
    . exact hi'
    . exact hlt z hz) (by simp;omega) (by simp[hsz]) (fun z hz=>?_) r1 r2
   simp only[List.mem_cons]
   by_cases hzi:z=i
   . subst hzi
     simp[Array.getD_eq_getD_getElem?,Array.getElem?_setIfInBounds,hsz,hz]
   . have h4:=hli z hz
     simp only[Array.getD_eq_getD_getElem?]at h4 ⊢
     rw[Array.getElem?_setIfInBounds_ne (Ne.symm hzi),h4]
     constructor
     . exact .inr
     . rintro(h5 |h5)
       . exact absurd h5 hzi
       . exact h5
theorem A34(hC:dJ P C){ρ:Rho}{id:Nat}(hm:P.follows .mixedOrders=true)(hp:kO P ops ak=true)(h:Inv P base W ρ A w)(hE:ER ρ e a.tmps)(hsz:a.tmps.size=nt)(hv:ij P C nt ops ak e A=some (e',A'))
 (hL:Live P m0 A (lone (b.atR a (.code (.region id ops true)::k)) cs w)):
 ∃ ρ' a' w',Adv P base W ρ A w ρ' A' w'/\ER ρ' e' a'.tmps/\a'.tmps.size=nt/\a'.defers=a.defers/\Live P m0 A' (lone (b.atR a' k) cs w'):=by
 have hP:=A31 hp
 obtain⟨S,T⟩:=A87 hv
 have hL1:=hL.quiet stepR_region_draw (Ag4 (by intro _ _ _ q;simp[Frame.atR]at q))
 simp only[Region.schedule,hm,Bool.true_or,if_true,Region.linearise]at hL1
 have hI1:Inv P base W ρ A { w with drawn:=w.drawn+1 }:=h.drew
 have hS0:(S 0)=(e,A):=T.start
 have hA0:Adv P base W ρ A w ρ (S 0).2 { w with drawn:=w.drawn+1 }:=by
  rw[hS0]
  exact⟨.refl ρ,hI1,.drew ρ w,.refl _ _,.refl _ _ _⟩
 obtain⟨c,q1,q2,q3,q4,q5,q6,q7,q8,q9⟩:=A30 T ak.length 0 (by omega) (by omega) hA0 (hL1.of (by rw[hS0]) (by rw[hS0]))
 have hD:gu P base W nt ops ak S ρ A w a.defers (·∈([]:List Nat)) c ρ { w with drawn:=w.drawn+1 } a :=
  { start:=by rw[hS0],closed:=fun j o hj=>by simp at hj,cle:=q2,before:=fun s x _ hD=>by simp at hD
    mh:=fun s x o hx ho hq hs=>by have:=q3 s x o (by omega) hs hx ho;rw[hq]at this;simp at this
    next:=q4
    mono:=fun s s' e1 e2=>by
     have:=Az8 q8 (s'-s) s (by omega) (by omega)
     rw[show s+(s'-s)=s' by omega]at this
     exact⟨Ax3 this,Ax4 this⟩
    adv:=q5,wr:=fun s x o d _ _ _ hD=>by simp at hD
    un:=fun t _=>by rw[hS0];exact hE t
    mi:=fun s x o q hx ho hs _ hq hw hqq=>q9 s x o q (by omega) hs hx ho hq hw hqq
    size:=hsz,defs:=rfl }
 obtain⟨ρ',w',a',r1,r2,r3,r4,r5⟩:=Bd7 hC hP T ops.size _ (Array.replicate ops.size false) [] .nil (by simp) (by simp) (by simp) (fun i hi=>by
  simp[Array.getD_eq_getD_getElem?,hi]) hD q6
 exact⟨ρ',a',w',r1,r2,r3,r4,r5.quiet stepR_region_end AM4⟩
end
end Go.Sv
namespace Go.Sv
open Go
theorem AB5{P:Program}{base:Nat}{W:World}{ρ:Rho}{A:AS}{w:World}(h:Inv P base W ρ A w){r:ez}{r':Loop}(hr:LR ρ P r r'):
 Adv P base W ρ A w (ρ.fI A.loops.length w.heap.size) (A.aS r) (w.alloc (.loop r')):=by
 have hn:=h.qd (Nat.le_refl A.loops.length)
 have hle:=Rho.oa (x:=w.heap.size) hn
 have ha:=h.alloc (.loop r')
 refine⟨hle,?_,.alloc ρ w _,⟨Nat.le_refl _,Nat.le_refl _,fun _ _ _=>rfl,fun _ _ _=>rfl⟩,⟨fun i x d hi hn'=>?_,fun i x hi hn'=>?_,fun x hx hh=>?_⟩⟩
 . refine { os:=ha.os,tape:=ha.tape,output:=ha.output,size:=ha.size,old:=ha.old,blk:=?_,inj:=h.inj,fam:=h.fam,own:=h.own,map:=?_,dX:=h.dX,it:=?_,dY:=h.dY,lp:=?_,dZ:=?_ }
   . intro b x d hx
     obtain⟨k,e1,e2,e3⟩:=ha.blk b x d hx
     exact⟨k,e1,e2.mono hle hx,e3⟩
   . intro i y hy
     obtain⟨e0,mo,es',e1,e2,e3⟩:=ha.map i y hy
     exact⟨e0,mo,es',e1,e2,e3.mono hle⟩
   . intro i y hy
     obtain⟨e0,mo,es',e1,e2,e3⟩:=ha.it i y hy
     exact⟨e0,mo,es',e1,e2,e3⟩
   . intro i y hy
     simp only[Rho.fI]at hy
     split at hy
     . rename_i e;subst e
       simp at hy;subst hy
       exact⟨h.size,r,r',by simp[AS.aS],Ae5 _ _,hr.mono hle⟩
     . obtain⟨e0,io1,mo1,e1,e2,e3⟩:=ha.lp i y hy
       refine⟨e0,io1,mo1,?_,e2,e3.mono hle⟩
       have:=(LG.1 e1).1
       simp[AS.aS,List.getElem?_append_left this,e1]
   . intro r1 r2 x h1 h2
     simp only[Rho.fI]at h1 h2
     have hlt:∀r y,ρ.lp r=some y->y<w.heap.size:=fun r y q=>h.ik (.inr (.inr (.inr ⟨r,q⟩)))
     split at h1<;>split at h2
     . omega
     . simp at h1;subst h1;have:=hlt _ _ h2;omega
     . simp at h2;subst h2;have:=hlt _ _ h1;omega
     . exact h.dZ r1 r2 x h1 h2
 . rw[show(ρ.fI A.loops.length w.heap.size).b i=ρ.b i from rfl,hn']at hi;simp at hi
 . rw[show(ρ.fI A.loops.length w.heap.size).m i=ρ.m i from rfl,hn']at hi;simp at hi
 . rcases Rho.kz hh with hh |rfl
   . exact hh
   . omega
theorem Inv.jc{P:Program}{base:Nat}{W:World}{ρ:Rho}{A:AS}{w:World}(h:Inv P base W ρ A w){l x:Nat}{r:ez}{r':Loop}
 (hx:ρ.lp l=some x) (hr:LR ρ P r r'):Adv P base W ρ A w ρ (A.ay l r) (w.putObj x (.loop r')):=by
 obtain⟨hb,r0,r0',h1,h2,h3⟩:=h.lp l x hx
 have hlt:=Ak4 h2
 have bM:=As8 (.loop r') hlt
 have hrl:=(LG.1 h1).1
 refine⟨.refl ρ,?_,⟨by simp,fun i hi hn=>?_⟩,⟨Nat.le_refl _,Nat.le_refl _,fun _ _ _=>rfl,fun _ _ _=>rfl⟩,.refl _ _ _⟩
 . refine { os:=h.os,tape:=h.tape,output:=h.output,size:=by simpa using h.size,old:=?_,blk:=?_,inj:=h.inj,fam:=h.fam,own:=h.own,map:=?_,dX:=h.dX,it:=?_,dY:=h.dY,lp:=?_,dZ:=h.dZ }
   . intro i hi
     rw[bM,if_neg (by omega)];exact h.old i hi
   . intro b y d hy
     obtain⟨k,e1,e2,e3⟩:=h.blk b y d hy
     refine⟨k,e1,e2.world ?_,e3⟩
     rw[bM,if_neg]
     rintro rfl
     obtain⟨c,el,fr,e4,_⟩:=e2.row
     rw[h2]at e4;simp at e4
   . intro i y hy
     obtain⟨e0,io,mo',e1,e2,e3⟩:=h.map i y hy
     refine⟨e0,io,mo',e1,?_,e3⟩
     rw[bM,if_neg];exact e2
     rintro rfl;rw[h2]at e2;simp at e2
   . intro i y hy
     obtain⟨e0,io,mo',e1,e2,e3⟩:=h.it i y hy
     refine⟨e0,io,mo',e1,?_,e3⟩
     rw[bM,if_neg];exact e2
     rintro rfl;rw[h2]at e2;simp at e2
   . intro r2 y hy
     by_cases hrr:r2=l
     . subst hrr
       rw[hx]at hy;cases hy
       exact⟨hb,r,r',by simp[AS.ay,hrl],by rw[bM,if_pos rfl],hr⟩
     . obtain⟨e0,mo',es',e1,e2,e3⟩:=h.lp r2 y hy
       refine⟨e0,mo',es',by simp[AS.ay,List.getElem?_set,Ne.symm hrr,e1],?_,e3⟩
       rw[bM,if_neg (fun(e:y=x)=>hrr (h.dZ r2 l x (e ▸ hy) hx))];exact e2
 . rw[bM,if_neg (fun(e:i=x)=>hn (by rw[e];exact .inr (.inr (.inr ⟨l,hx⟩))))]
structure Marks(ρ:Rho)(w:World)(n0:Nat)(ds:List Deferred):Prop where
 each:∀d∈ds,∃r,d={ target:=.collected r,args:=#[] }/\n0<=r/\w.heap[r]?=some (.deferred (some []))/\¬ ρ.has r
 apart:ds.Pairwise (·≠·)
theorem Marks.nil(ρ:Rho)(w:World)(n0:Nat):Marks ρ w n0 []:=⟨by simp,.nil⟩
theorem Marks.adv{P:Program}{base:Nat}{W:World}{ρ ρ':Rho}{A A':AS}{w w':World}{n0:Nat}{ds:List Deferred}(h:Marks ρ w n0 ds)(hA:Adv P base W ρ A w ρ' A' w'):Marks ρ' w' n0 ds :=
 ⟨fun d hd=>by
  obtain⟨r,h1,h2,h3,h4⟩:=h.each d hd
  have hlt:=Ak4 h3
  exact⟨r,h1,h2,by rw[hA.fu.eN r hlt h4];exact h3,fun q=>h4 (hA.new.has r hlt q)⟩,h.apart⟩
def RO(ρ:Rho)(b:Frame):Prop:=b.roundOf=none∨∃l x,b.roundOf=some x/\ρ.lp l=some x
theorem RO.mono{ρ ρ':Rho}{b:Frame}(h:RO ρ b)(hle:ρ.le ρ'):RO ρ' b:=by
 rcases h with h |⟨l,x,h1,h2⟩
 . exact .inl h
 . exact .inr ⟨l,x,h1,hle.lp _ _ h2⟩
theorem AC2{P:Program}{w:World}{l:Nat}{r:Loop}(fn:FuncId)(tmps:Array Value)(ps:Array Tmp)(assign body:Code)(h:w.heap[l]?=some (.loop r)):
 (Instr.enterLoop fn tmps ps assign body (some l)).run P w =
  .ok (w.heap.size,[]) (w.alloc (.loop { state:=.ready,pending:=none,fn,tmps,params:=ps,assign,body,defers:=r.defers })):=by
 unfold Instr.enterLoop
 simp only[Sem.run_bind,run_getLoop h,run_newObj_alloc,Result.andThen,Sem.run_pure]
theorem Bd8{P:Program}{base:Nat}{W:World}{ρ:Rho}{A:AS}{w:World}(h:Inv P base W ρ A w){b:Frame}{a:Act}{n0:Nat}(hro:RO ρ b)(hM:Marks ρ w n0 a.defers)(hn0:n0<=w.heap.size)(ps:Array Tmp)(assign body:Code)
 {e:Env} (hE:ER ρ e a.tmps) {fn:Func} {cbody:Code} (hf:P.funcs[b.fn]?=some fn) (hsz:a.tmps.size=fn.ntmps) (hb:fn.body=some cbody) (hs1:Sub assign cbody) (hs2:Sub body cbody):
 ∃x mark w1,(Instr.enterLoop b.fn a.tmps ps assign body b.roundOf).run P w=.ok (x,mark) w1 /\
  Adv P base W ρ A w (ρ.fI A.loops.length x) (A.aS { state:=.ready,pending:=none,fn:=b.fn,env:=e,params:=ps.toList,assign:=assign,body:=body }) w1 /\
  Marks (ρ.fI A.loops.length x) w1 n0 (mark++a.defers):=by
 have hLR:∀d,LR ρ P { state:=.ready,pending:=none,fn:=b.fn,env:=e,params:=ps.toList,assign:=assign,body:=body }
  { state:=.ready,pending:=none,fn:=b.fn,tmps:=a.tmps,params:=ps,assign:=assign,body:=body,defers:=d }:=fun d =>
  ⟨rfl,rfl,rfl,rfl,rfl,rfl,hE,fn,hf,hsz,cbody,hb,hs1,hs2⟩
 rcases hro with hro |⟨l,x,hro,hl⟩
 . have hI:=h.alloc (.deferred (some []))
   have hA0:Adv P base W ρ A w ρ A (w.alloc (.deferred (some []))):=⟨.refl ρ,hI,.alloc ρ w _,.refl _ _,.refl _ _ _⟩
   have hA1:=AB5 hI (hLR w.heap.size)
   have kx:(w.alloc (.deferred (some []))).heap.size=w.heap.size+1:=by simp
   rw[kx]at hA1
   have hA:=hA0.trans hA1
   refine⟨w.heap.size+1,_,_,by rw[hro];exact run_enterLoop_outer _ _ _ _ _,hA,?_⟩
   have hM':=hM.adv hA
   refine⟨fun d hd=>?_,?_⟩
   . rcases List.mem_append.1 hd with hd |hd
     . simp at hd;subst hd
       refine⟨w.heap.size,rfl,hn0,?_,fun q=>?_⟩
       . rw[At5 _ _ (by simp)]
         exact Ae5 _ _
       . rcases Rho.kz q with q |q
         . have:=h.ik q;omega
         . omega
     . exact hM'.each d hd
   . simp only[List.singleton_append,List.pairwise_cons]
     refine⟨fun d hd q=>?_,hM'.apart⟩
     obtain⟨r,h1,_,h3,_⟩:=hM.each d hd
     rw[<- q]at h1
     simp at h1
     have:=Ak4 h3
     omega
 . obtain⟨_,r,r',_,h2,_⟩:=h.lp l x hl
   have hA:=AB5 h (hLR r'.defers)
   exact⟨w.heap.size,[],_,by rw[hro];exact AC2 _ _ _ _ _ h2,hA,hM.adv hA⟩
end Go.Sv
