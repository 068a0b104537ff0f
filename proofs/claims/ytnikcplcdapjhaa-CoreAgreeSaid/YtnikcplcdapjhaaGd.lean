/- Cores of agreement: timers that are over. -/
import Derived.Test.YtnikcplcdapjhaaGc
import Derived.Test.YtnikcplcdapjhaaSv4
import Derived.Test.YtnikcplcdapjhaaRows
import Derived.Test.YtnikcplcdapjhaaSvBase
set_option linter.unusedSimpArgs false
set_option linter.unusedVariables false
open Nat renaming reduceLT → Q0, reduceBEq → Q1, reduceEqDiff → Q2, reduceAdd → Q3
open Int renaming reduceEq → Q4, reduceLT → Q5, reduceLE → Q6, reduceGT → Q7, reduceGE → Q8
namespace Go.Sv
open Go
abbrev dueP (now:Int) (x:DueP):Prop:=x.1<=now
def overL (now:Int) (l:List DueP):List DueP:=l.filter fun x=>decide (dueP now x)
def leftL (now:Int) (l:List DueP):List DueP:=l.filter fun x=>!decide (dueP now x)
theorem A41 {now:Int} {x:DueP} (h:dueP now x):[x].filter (fun x=>!decide (dueP now x))=[]:=List.filter_eq_nil_iff.2 fun y hy=>by rw [List.mem_singleton.1 hy,decide_eq_true h];decide
theorem BC0 {now:Int} {x:DueP} (h:¬ dueP now x):[x].filter (fun x=>!decide (dueP now x))=[x]:=List.filter_eq_self.2 fun y hy=>by rw [List.mem_singleton.1 hy,decide_eq_false h];rfl
theorem AN1 {now:Int} {x:DueP} (h:dueP now x):[x].filter (fun x=>decide (dueP now x))=[x]:=List.filter_eq_self.2 fun y hy=>by rw [List.mem_singleton.1 hy,decide_eq_true h]
theorem Be8 {now:Int} {x:DueP} (h:¬ dueP now x):[x].filter (fun x=>decide (dueP now x))=[]:=List.filter_eq_nil_iff.2 fun y hy=>by rw [List.mem_singleton.1 hy,decide_eq_false h];decide
end Go.Sv
namespace Go.Sv.Try
open Go Go.Proofs
structure TkE (A:AS) (cb tb ob:Nat) (cs:List V) (l:List DueP) (fv:Option Nat):Prop where
 rc:A.blk[cb]?=some ⟨cs,.var⟩
 rt:A.blk[tb]?=some ⟨[.ptr cb 1],.var⟩
 ro:∃ ov,A.blk[ob]?=some ⟨[ov],.var⟩/\Lst eDue Hp.emp A ov l fv
 ne:ob≠cb/\ob≠tb
def TkS (A:AS) (ob:Nat) (fv:Option Nat):Loc->Prop:=fun z=>z=.row ob∨inFamO A fv z
def tkFn (tb ob:Nat):V:=.fn 55 [] [.ptr tb 0,.ptr ob 0]
section
variable {A B C:AS} {cb tb ob rp mb mg:Nat} {n me hh now:Int} {tv dv:V} {over:Bool} {l P:List DueP} {fv fo fv':Option Nat} {S:Loc->Prop}
theorem TkE.fr {cs:List V} (h:TkE A cb tb ob cs l fv) (hf:Fr S A B) (h1:¬ S (.row cb)/\¬ S (.row tb)/\¬ S (.row ob)) (h2:Off fv A S):TkE B cb tb ob cs l fv:=by
 obtain ⟨ov,y1,y2⟩:=h.ro
 exact ⟨hf.row _ _ h.rc h1.1,hf.row _ _ h.rt h1.2.1,⟨ov,hf.row _ _ y1 h1.2.2,y2.fr hf h2⟩,h.ne⟩
theorem TkE.fr0 {cs:List V} (h:TkE A cb tb ob cs l fv) (hf:Fr S0 A B):TkE B cb tb ob cs l fv:=h.fr hf ⟨fun q=>q,fun q=>q,fun q=>q⟩ .s0
theorem TkE.fam {cs:List V} (h:TkE A cb tb ob cs l fv) (hf:Fr (inFamO A fo) A B) (hd:∀ f,fv=some f->fo≠some f):TkE B cb tb ob cs l fv:=by
 obtain ⟨ov,y1,y2⟩:=h.ro
 refine h.fr hf ⟨Aa8 h.rc,Aa8 h.rt,Aa8 y1⟩ ?_
 cases fo with
 | none=>exact fun _ q=>q.elim
 | some f=>exact Off.fam fun q=>hd f q rfl
theorem TkS.off (h:∀ f,fv=some f->fo≠some f) {cs:List V} (hE:TkE A cb tb ob cs l fv):Off fo A (TkS A ob fv):=by
 obtain ⟨ov,y1,y2⟩:=hE.ro
 refine Off.or (S:=(·=.row ob)) (T:=inFamO A fv) (Off.box y1) ?_
 cases fv with
 | none=>exact fun _ q=>q.elim
 | some g=>exact Off.fam fun q=>h g rfl q
theorem Cc6 (b:Nat):evFieldAddr Try.prog 130 (.ptr b 0) 0=some (.ptr b 0)/\evFieldAddr Try.prog 130 (.ptr b 0) 1=some (.ptr b 1)/\evFieldAddr Try.prog 130 (.ptr b 0) 2=some (.ptr b 2):=⟨by kernel_rfl,by kernel_rfl,by kernel_rfl⟩
theorem BS3 {b:Nat} {k:BK} {x:DueP} (h:A.blk[b]?=some ⟨dueC x,k⟩):evLoad Try.prog 3 (.ptr b 0) A=some (.int .i64 x.1)/\evLoad Try.prog 3 (.ptr b 1) A=some (.int .i64 x.2.1)/\evLoad Try.prog 3 (.ptr b 2) A=some (.int .i64 x.2.2)/\evLoad Try.prog 130 (.ptr b 0) A=some (.agg (dueC x)) :=
 ⟨by rw [Ab3 ag3 h];rfl,by rw [Ab3 ag3 h];rfl,by rw [Ab3 ag3 h];rfl,At.load h (At.all _) By0 AX6 rfl⟩
theorem B64:(zeroT Try.prog 130).bind V.cells=some (dueC (0,0,0)):=B08
theorem BS4 {x:DueP}:∃ A',evStore Try.prog 130 (.ptr A.blk.length 0) (.agg (dueC x)) (A.push ⟨dueC (0,0,0),.var⟩)=some A'/\Fr S0 A A'/\A'.blk[A.blk.length]?=some ⟨dueC x,.var⟩:=by
 obtain ⟨A2,s1,s2,s3,s4⟩:=Ai4 (P:=Try.prog) A (z:=dueC (0,0,0)) (t:=130) (x:=.agg (dueC x)) (cs:=dueC x) rfl AX6 rfl rfl
 exact ⟨A2,s1,s2,s3⟩
theorem Be9 {m:Hp} {w:V} {x:DueP} (h:eDue.W m w x):w=.agg (dueC x):=by
 unfold Enc.W at h
 rw [if_pos (by rfl)]at h
 obtain ⟨cs,rfl,h⟩:=h
 rw [show cs=dueC x from h]
set_option maxRecDepth 10000 in
set_option maxHeartbeats 8000000 in
theorem AJ3 (hw:WF A) (h:TkE A cb tb ob (coC rp n me hh now tv dv mb mg over) l fv) (x:DueP) (hl:l.length<=1000) :
 ∃ w A',EvF Try.prog HH 55 [.agg (dueC x),.ptr tb 0,.ptr ob 0] A w A'/\w=.bool (decide (dueP now x))/\Fr (TkS A ob fv) A A'/\∃ fv',Gr A fv fv'/\TkE A' cb tb ob (coC rp n me hh now tv dv mb mg over) (l++overL now [x]) fv':=by
 refine Aa4 rfl Try.func55 (by unfold Try.f55;rfl) Try.ntmps55 (by unfold Try.f55;rfl) (by simp) ?_
 obtain ⟨A1,e1,f1,r1,n1⟩:=Aa9 A (dueC x)
 obtain ⟨b3,hb3⟩:∃ b,b=A.blk.length:=⟨_,rfl⟩
 rw [<- hb3]at r1 n1
 have h1:=h.fr0 f1
 have w1:=f1.wf hw
 have fd:=Cc6 b3
 have ldd:=BS3 r1
 have ft:=B12 cb
 have lt:=Ab0 (P:=Try.prog) Bm8 h1.rt
 have lc:=Aq0 h1.rc
 obtain ⟨ov,y1,y2⟩:=h1.ro
 have lo:=Ab0 (P:=Try.prog) Ca3 y1
 by_cases q:dueP now x
 rotate_left
 . have e : l ++ overL now [x] = l := by unfold overL; rw [Be8 q, List.append_nil]
   rw [e]
   simp only [RT,Q0,Q1,Q2,Q3,Q4,Q5,Q6,Q7,Q8,<- hb3,<- e1]
   rw [Bm4,Aa2 (by rfl)]
   simp only [RT,Q0,Q1,Q2,Q3,Q4,Q5,Q6,Q7,Q8,fd,ldd,lt,ft,lc,decide_eq_false q]
   rw [Bm5,Aa2 (by rfl)]
   simp only [RT,Q0,Q1,Q2,Q3,Q4,Q5,Q6,Q7,Q8,fd,ldd,lt,ft,lc,decide_eq_false q]
   exact ⟨f1.mono fun _ q=>q.elim,fv,.rfl',h1⟩
 have e:l++overL now [x]=l++[x]:=by unfold overL;rw [AN1 q]
 rw [e]
 obtain ⟨v',B,fv',p1,p2,p3,p4⟩:=y2.push (P:=Try.prog) (t:=73) (tx:=73) (n:=3) rfl Ce0 Try.underlying73 w1 (y:=x) (cs':=dueC x) rfl (by omega) (by omega)
 have rob:=p3.row _ _ y1 (Aa8 y1)
 obtain ⟨C,s1,s2,s3,s4⟩:=Ai0 (P:=Try.prog) (t:=73) (x:=v') rob p2.cells1 Cd6 p2.one
 have rcC:=s2.row _ _ (p3.row _ _ h1.rc (Aa8 h1.rc)) (fun z=>h.ne.1 (by injection z with z;exact z.symm))
 have rtC:=s2.row _ _ (p3.row _ _ h1.rt (Aa8 h1.rt)) (fun z=>h.ne.2 (by injection z with z;exact z.symm))
 have hob:ob < A.blk.length:=by obtain ⟨_,y,_⟩:=h.ro;exact Ac3 y
 have r3:=s2.row _ _ (p3.row _ _ r1 (Aa8 r1)) (fun z=>by injection z with z;omega)
 have lddC:=BS3 r3
 have ltC:=Ab0 (P:=Try.prog) Bm8 rtC
 have lcC:=Aq0 rcC
 simp only [RT,Q0,Q1,Q2,Q3,Q4,Q5,Q6,Q7,Q8,<- hb3,<- e1]
 rw [Bm4,Aa2 (by rfl)]
 simp only [RT,Q0,Q1,Q2,Q3,Q4,Q5,Q6,Q7,Q8,fd,ldd,lt,ft,lc,decide_eq_true q,lo,Bz0 x,p1,s1]
 rw [Bm5,Aa2 (by rfl)]
 simp only [RT,Q0,Q1,Q2,Q3,Q4,Q5,Q6,Q7,Q8,fd,lddC,ltC,ft,lcC,decide_eq_true q]
 have fB:Fr (fun z=>z=.row ob∨inFamO A1 fv z) A1 B:=p3.mono fun z q=>.inr q
 refine ⟨(f1.mono (S':=TkS A ob fv) fun _ q=>q.elim).trans (fB.trans s2 fun z q=>.inl (.inl q)) fun z q=>?_,fv',p4.from f1.len,rcC,rtC,⟨v',s3,p2.fr s2 (.box rob)⟩,h.ne⟩
 rcases q with q | q
 . exact .inl (.inl q)
 . exact (Ad5 f1 q).imp .inr id
theorem TkS.back (hw:WF A) (hf:Fr (TkS A ob fv) A B) (g:Gr A fv fv') {z:Loc} (q:TkS B ob fv' z):TkS A ob fv z∨z.newTo A:=by
 rcases q with q | q
 . exact .inl (.inl q)
 . rcases g with rfl | ⟨rfl, f, rfl, hl⟩
   . exact (Ad5 hf q).imp .inr id
   . right
     cases z with
     | row b =>
      obtain ⟨k,base,z1,z2⟩:=q
      show A.blk.length<=b
      apply Nat.not_lt.1;intro w
      obtain ⟨cs,k1,k2⟩:=hf.kind b _ (List.getElem?_eq_getElem w)
      rw [z1]at k1;cases k1
      have:=hw b _ f base (List.getElem?_eq_getElem w) z2
      omega
     | fam g=>rw [show g=f from q];exact hl
     | map r=>exact q.elim
     | loop r=>exact q.elim
     | it r=>exact q.elim
set_option maxRecDepth 10000 in
set_option maxHeartbeats 8000000 in
theorem AZ2 {lv:V} (hw:WF A) (h:TkE A cb tb ob (coC rp n me hh now tv dv mb mg over) [] none) (hL:Lst eDue Hp.emp A lv P fo) (hP:P.length<=1000) :
 ∃ w A',EvF Try.prog HH 66 [lv,tkFn tb ob] A w A'/\∃ fv',Gr A none fv'/\Fr (TkS A ob none) A A'/\((w=.int .i64 (-1)/\(∀ x∈P,¬ dueP now x)/\TkE A' cb tb ob (coC rp n me hh now tv dv mb mg over) [] fv')∨∃ (i:Nat) (x:DueP),w=.int .i64 i/\P[i]?=some x/\dueP now x/\(∀ x∈P.take i,¬ dueP now x)/\TkE A' cb tb ob (coC rp n me hh now tv dv mb mg over) [x] fv'):=by
 refine Aa4 rfl Try.func66 (by unfold Try.f66;rfl) Try.ntmps66 (by unfold Try.f66;rfl) (by simp) ?_
 have hlen:=fun B=>hL.len (P:=Try.prog) Try.underlying73 B
 simp only [RT,Q0,Q1,Q2,Q3,Q4,Q5,Q6,Q7,Q8,hlen]
 refine Aa6 (fun z e B=>∃ (i:Nat) (fv':Option Nat),z=P.length - i/\i<=P.length/\e.get 8=.int .i64 i/\e.get 7=.int .i64 P.length/\e.get 0=lv/\e.get 1=tkFn tb ob/\Gr A none fv'/\Fr (TkS A ob none) A B/\TkE B cb tb ob (coC rp n me hh now tv dv mb mg over) [] fv'/\∀ x∈P.take i,¬ dueP now x)
  (fun z e B=>∃ fv',Gr A none fv'/\Fr (TkS A ob none) A B/\((Is z (.exit 0)/\(∀ x∈P,¬ dueP now x)/\TkE B cb tb ob (coC rp n me hh now tv dv mb mg over) [] fv')∨(Is z .ret/\∃ (i:Nat) (x:DueP),e.get 4=.int .i64 i/\P[i]?=some x/\dueP now x/\(∀ x∈P.take i,¬ dueP now x)/\TkE B cb tb ob (coC rp n me hh now tv dv mb mg over) [x] fv')))
  ⟨_,0,none,rfl,by omega,rfl,rfl,rfl,rfl,.rfl',.refl _ _,h,by simp⟩ ?_ ?_
 rotate_left
 . rintro z e B hz ⟨fv', hg, hf, ⟨rfl, hn, hE⟩ | ⟨rfl, i, x, h4, hx, hp, hn, hE⟩⟩
   . simp only [RT, Q0, Q1, Q2, Q3, Q4, Q5, Q6, Q7, Q8]
     exact ⟨fv',hg,hf,.inl ⟨hn,hE⟩⟩
   . simp only [RT, Q0, Q1, Q2, Q3, Q4, Q5, Q6, Q7, Q8, h4]
     exact ⟨fv',hg,hf,.inr ⟨i,x,rfl,hx,hp,hn,hE⟩⟩
 rintro z e B ⟨i,fv',rfl,hi,h8,h7,h0,h1,hg,hf,hE,hn⟩
 simp only [RT,Q0,Q1,Q2,Q3,Q4,Q5,Q6,Q7,Q8,h8,h7]
 refine Aa7 (fun q1=>?_) (fun q1=>?_)
 rotate_left
 . have : i = P.length := by omega
   subst this
   rw [List.take_length]at hn
   simp only [RT,Q0,Q1,Q2,Q3,Q4,Q5,Q6,Q7,Q8]
   exact ⟨fv',hg,hf,.inl ⟨rfl,hn,hE⟩⟩
 obtain ⟨x,hx⟩:=Ag4 (l:=P) (i:=i) (by omega)
 have hfo:∀ f,fv'=some f->fo≠some f:=fun f q w=>by
  rcases hg.or q with z | z
  . cases z
  . have:=hL.famLt f w;omega
 have hLB:=hL.fr hf (TkS.off (fun f q=>by cases q) h)
 obtain ⟨bb,o,c,g3,g4,g5⟩:=hLB.at (P:=Try.prog) (k:=.i64) (Hp.on_emp B) Try.underlying73 AX6 By0 hx
 rw [Be9 g5]at g4
 obtain ⟨_,C,k1,rfl,f1,fv2,hg2,hE2⟩:=AJ3 (hf.wf hw) hE x (by simp)
 have hwi:IntKind.i64.wrap ((i:Int)+1)=((i+1:Nat):Int):=by rw [Ae4 (by omega)]
 have hfC:=hf.trans f1 fun z q=>TkS.back hw hf hg q
 have hgC:=hg.trans hg2 hf.len
 simp only [RT,Q0,Q1,Q2,Q3,Q4,Q5,Q6,Q7,Q8,h8,h1,tkFn,h0,g3,g4]
 refine Aa0 k1 ?_
 by_cases c1:dueP now x
 . simp only [RT, Q0, Q1, Q2, Q3, Q4, Q5, Q6, Q7, Q8, decide_eq_true c1, h8]
   have e:[]++overL now [x]=[x]:=by unfold overL;rw [AN1 c1];rfl
   rw [e]at hE2
   refine ⟨fv2,hgC,hfC,.inr ⟨rfl,i,x,rfl,hx,c1,hn,hE2⟩⟩
 . have hn' : ∀ y ∈ P.take (i + 1), ¬ dueP now y := fun y hy => by
    rw [Ac4 hx]at hy
    rcases List.mem_append.1 hy with hy | hy
    . exact hn y hy
    . rw [List.mem_singleton.1 hy];exact c1
   have e:[]++overL now [x]=[]:=by unfold overL;rw [Be8 c1];rfl
   rw [e]at hE2
   simp only [RT,Q0,Q1,Q2,Q3,Q4,Q5,Q6,Q7,Q8,decide_eq_false c1,h8,hwi]
   refine ⟨P.length - (i+1),by omega,i+1,fv2,rfl,by omega,?_⟩
   and_intros <;> first | rfl | assumption
set_option maxRecDepth 10000 in
set_option maxHeartbeats 32000000 in
theorem AS3 {lv:V} (hw:WF A) (h:TkE A cb tb ob (coC rp n me hh now tv dv mb mg over) [] none) (hL:Lst eDue Hp.emp A lv P fo) (hP:P.length<=1000) :
 ∃ w A',EvF Try.prog HH 54 [lv,tkFn tb ob] A w A'/\∃ fv',Gr A none fv'/\Fr (fun z=>z=.row ob∨inFamO A fo z) A A'/\Lst eDue Hp.emp A' w (leftL now P) fo/\TkE A' cb tb ob (coC rp n me hh now tv dv mb mg over) (overL now P) fv':=by
 refine Aa4 rfl Try.func54 (by unfold Try.f54;rfl) Try.ntmps54 (by unfold Try.f54;rfl) (by simp) ?_
 obtain ⟨_,A1,k1,fv1,g1,f1,hidx⟩:=AZ2 hw h hL hP
 have f1':Fr (fun z=>z=.row ob∨inFamO A fo z) A A1:=f1.mono fun z q=>q.elim .inl fun q=>q.elim
 have hL1:=hL.fr f1 (TkS.off (fun f q=>by cases q) h)
 simp only [RT,Q0,Q1,Q2,Q3,Q4,Q5,Q6,Q7,Q8]
 refine Aa0 k1 ?_
 rcases hidx with ⟨rfl,hno,hE1⟩ | ⟨i,x0,rfl,hx0,hp0,hno,hE1⟩
 . have e : leftL now P = P := List.filter_eq_self.2 fun x hx => by rw [decide_eq_false (hno x hx)]; rfl
   have e2:overL now P=[]:=List.filter_eq_nil_iff.2 fun x hx=>by rw [decide_eq_false (hno x hx)];decide
   simp only [RT,Q0,Q1,Q2,Q3,Q4,Q5,Q6,Q7,Q8]
   rw [e,e2]
   exact ⟨fv1,g1,f1',hL1,hE1⟩
 have hi0:=(List.getElem?_eq_some_iff.1 hx0).1
 have wi:IntKind.i64.wrap ((i:Int)+1)=((i+1:Nat):Int):=by rw [Ae4 (by omega)]
 have hne:¬ ((i:Int) = -1):=by omega
 simp only [RT,Q0,Q1,Q2,Q3,Q4,Q5,Q6,Q7,Q8,decide_eq_false hne,wi]
 have hrest0:(P.take (i+1)).filter (fun x=>!decide (dueP now x))=P.take i:=by
  rw [Ac4 hx0,List.filter_append,List.filter_eq_self.2 (fun x hx=>by rw [decide_eq_false (hno x hx)];rfl),A41 hp0,List.append_nil]
 have hover0:overL now (P.take (i+1))=[x0]:=by
  unfold overL
  rw [Ac4 hx0,List.filter_append,List.filter_eq_nil_iff.2 (fun x hx=>by rw [decide_eq_false (hno x hx)];decide),AN1 hp0];rfl
 rw [<- hover0]at hE1
 refine Aa6 (fun z e B=>∃ (j k:Nat) (cur:List DueP) (fv':Option Nat),z=P.length - j/\j<=P.length/\k < j/\cur.length=P.length/\cur.take k=(P.take j).filter (fun x=>!decide (dueP now x))/\cur.drop j=P.drop j/\e.get 6=.int .i64 j/\e.get 5=.int .i64 k/\e.get 0=lv/\e.get 1=tkFn tb ob/\Gr A none fv'/\Fr (fun z=>z=.row ob∨inFamO A fo z) A B/\Lst eDue Hp.emp B lv cur fo/\TkE B cb tb ob (coC rp n me hh now tv dv mb mg over) (overL now (P.take j)) fv')
  (fun z e B=>Is z (.exit 0)/\∃ (k:Nat) (cur:List DueP) (fv':Option Nat),k<=cur.length/\cur.take k=leftL now P/\e.get 5=.int .i64 k/\e.get 0=lv/\Gr A none fv'/\Fr (fun z=>z=.row ob∨inFamO A fo z) A B/\Lst eDue Hp.emp B lv cur fo/\TkE B cb tb ob (coC rp n me hh now tv dv mb mg over) (overL now P) fv')
  ⟨_,i+1,i,P,fv1,rfl,by omega,by omega,rfl,hrest0.symm,rfl,rfl,rfl,rfl,rfl,g1,f1',hL1,hE1⟩ ?_ ?_
 . rintro z e B ⟨j, k, cur, fv', rfl, hj, hkj, hcl, htk, hdr, h6, h5, h0, h1, hg, hf, hLB, hE⟩
   have hlen:=fun X=>hLB.len (P:=Try.prog) Try.underlying73 X
   rw [hcl]at hlen
   simp only [RT,Q0,Q1,Q2,Q3,Q4,Q5,Q6,Q7,Q8,h6,h0,hlen]
   refine Aa7 (fun q1=>?_) (fun q1=>?_)
   rotate_left
   . have : j = P.length := by omega
     subst this
     rw [List.take_length]at htk hE
     simp only [RT,Q0,Q1,Q2,Q3,Q4,Q5,Q6,Q7,Q8]
     refine ⟨rfl,k,cur,fv',by omega,htk,?_⟩
     and_intros <;> first | rfl | assumption
   have wB:=hf.wf hw
   obtain ⟨x,hx⟩:=Ag4 (l:=P) (i:=j) (by omega)
   have hcx:cur[j]?=some x:=by
    have:=congrArg (fun l=>l[0]?) hdr
    simp only [List.getElem?_drop]at this
    rw [Nat.add_zero]at this
    rw [this,hx]
   have hdr':cur.drop (j+1)=P.drop (j+1):=by rw [<- List.drop_drop,<- List.drop_drop,hdr]
   obtain ⟨bb,o,c,g3,g4,g5⟩:=hLB.at (P:=Try.prog) (k:=.i64) (Hp.on_emp B) Try.underlying73 AX6 By0 hcx
   rw [Be9 g5]at g4
   have hfo:∀ f,fv'=some f->fo≠some f:=fun f q w=>by
    rcases hg.or q with z | z
    . cases z
    . have:=hL.famLt f w;omega
   obtain ⟨C,s1,s2,s3⟩:=BS4 (A:=B) (x:=x)
   have hEC:=hE.fr0 s2
   have hLC:=hLB.fr0 s2
   have ldw:=(BS3 s3).2.2.2
   have wC:=s2.wf wB
   obtain ⟨_,D,k2,rfl,f2,fv2,hg2,hE2⟩:=AJ3 wC hEC x (by have:(overL now (P.take j)).length<=(P.take j).length:=List.length_filter_le _ _;rw [List.length_take]at this;omega)
   have hob:ob < B.blk.length:=by obtain ⟨_,y,_⟩:=hE.ro;exact Ac3 y
   have sD:=f2.row _ _ s3 (by
    rintro (q | q)
    . injection q with q;omega
    . exact Aa8 s3 q)
   have ldw2:=(BS3 sD).2.2.2
   have hfC:Fr (fun z=>z=.row ob∨inFamO A fo z) A C:=hf.then0 s2
   have hfD:Fr (fun z=>z=.row ob∨inFamO A fo z) A D:=hfC.trans f2 fun z q=>by
    rcases q with q | q
    . exact .inl (.inl q)
    . right
      cases hfv:fv' with
      | none=>rw [hfv]at q;exact q.elim
      | some f =>
       have hlf:A.blk.length<=f:=by
        rcases hg.or hfv with y | y
        . cases y
        . exact y
       rw [hfv]at q
       cases z with
       | row b =>
        obtain ⟨k,base,z1,z2⟩:=q
        show A.blk.length<=b
        apply Nat.not_lt.1;intro w
        obtain ⟨cs,y1,y2⟩:=hfC.kind b _ (List.getElem?_eq_getElem w)
        rw [z1]at y1;cases y1
        have:=hw b _ f base (List.getElem?_eq_getElem w) z2
        omega
       | fam g=>rw [show g=f from q];exact hlf
       | map r=>exact q.elim
       | loop r=>exact q.elim
       | it r=>exact q.elim
   have wD:=hfD.wf hw
   have hgD:=hg.trans (hg2.from s2.len) hf.len
   have hLD:=hLC.fr f2 (TkS.off hfo hEC)
   have wj:IntKind.i64.wrap ((j:Int)+1)=((j+1:Nat):Int):=by rw [Ae4 (by omega)]
   have wk:IntKind.i64.wrap ((k:Int)+1)=((k+1:Nat):Int):=by rw [Ae4 (by omega)]
   have eo:overL now (P.take (j+1))=overL now (P.take j)++overL now [x]:=by unfold overL;rw [Ac4 hx,List.filter_append]
   rw [<- eo]at hE2
   simp only [RT,Q0,Q1,Q2,Q3,Q4,Q5,Q6,Q7,Q8,h0,h6,g3,g4,B64,s1,h1,tkFn,ldw]
   refine Aa0 k2 ?_
   by_cases c1:dueP now x
   . have htk' : cur.take k = (P.take (j + 1)).filter (fun x => !decide (dueP now x)) := by rw [Ac4 hx, List.filter_append, <- htk, A41 c1, List.append_nil]
     simp only [RT,Q0,Q1,Q2,Q3,Q4,Q5,Q6,Q7,Q8,decide_eq_true c1,h6,wj]
     refine ⟨P.length - (j+1),by omega,j+1,k,cur,fv2,rfl,by omega,by omega,hcl,htk',hdr',?_⟩
     and_intros <;> first | rfl | assumption
   . obtain ⟨b5, o5, E, t1, t2, t3, t4⟩ := hLD.set (P := Try.prog) (k := .i64) Try.underlying73 AX6 (i := k) (by omega) (x := x) (xv := .agg (dueC x)) (c := dueC x) rfl rfl
     have htk':(cur.set k x).take (k+1)=(P.take (j+1)).filter (fun x=>!decide (dueP now x)):=by
      rw [Ac4 hx,List.filter_append,<- htk,List.take_set]
      have:(cur.take (k+1)).set k x=cur.take k++[x]:=by
       obtain ⟨y,hy⟩:=Ag4 (l:=cur) (i:=k) (by omega)
       rw [Ac4 hy,List.set_append_right _ _ (by rw [List.length_take];omega)]
       rw [List.length_take,show k - min k cur.length=0 by omega];rfl
      rw [this,BC0 c1]
     have hdr2:(cur.set k x).drop (j+1)=P.drop (j+1):=by rw [List.drop_set_of_lt (by omega),hdr']
     have hcl':(cur.set k x).length=P.length:=by rw [List.length_set,hcl]
     have fE:Fr (fun z=>z=.row ob∨inFamO A fo z) A E:=hfD.trans t4 fun z q=>(Ad5 hfD q).imp .inr id
     have hfo2:∀ f,fv2=some f->fo≠some f:=fun f q w=>by
      rcases hgD.or q with z | z
      . cases z
      . have:=hL.famLt f w;omega
     have hE3:=hE2.fam t4 hfo2
     simp only [RT,Q0,Q1,Q2,Q3,Q4,Q5,Q6,Q7,Q8,decide_eq_false c1,h0,h5,ldw2,t1,t2,wk,h6,wj]
     refine ⟨P.length - (j+1),by omega,j+1,k+1,cur.set k x,fv2,rfl,by omega,by omega,hcl',htk',hdr2,?_⟩
     and_intros <;> first | rfl | assumption
 . rintro z e B hz ⟨rfl, k, cur, fv', hk, htk, h5, h0, hg, hf, hLB, hE⟩
   obtain ⟨w,u,C,t1,t2,t3,t4,t5⟩:=hLB.clearEnd (P:=Try.prog) (k:=.i64) (k':=.i64) Try.underlying73 AX6 (by decide) B64 rfl rfl (by kernel_rfl) (n:=k) hk B
   rw [htk]at t4
   have hfo2:∀ f,fv'=some f->fo≠some f:=fun f q w=>by
    rcases hg.or q with z | z
    . cases z
    . have:=hL.famLt f w;omega
   have hE3:=hE.fam t5 hfo2
   simp only [RT,Q0,Q1,Q2,Q3,Q4,Q5,Q6,Q7,Q8,h0,h5,t1,BI3,t2,t3 C]
   exact ⟨fv',hg,hf.trans t5 fun z q=>(Ad5 hf q).imp .inr id,t4,hE3⟩
end
end Go.Sv.Try
namespace Go.Sv
open Go
def nrf (A:AS):Loc->Prop
 | .row b=>A.blk.length<=b
 | .fam f=>A.blk.length<=f
 | .map r=>A.maps.length<=r
 | _=>False
theorem nrf.new {A:AS} {x:Loc} (h:nrf A x):x.newTo A:=by cases x <;> first | exact h | exact h.elim
theorem TM.backN {Bx X Mp Bx' X' Mp':Nat->Prop} {A B:AS} {S:Loc->Prop} (hw:WF A) (hf:Fr S A B) (h1:∀ b,Bx' b->Bx b∨A.blk.length<=b) (h2:∀ f,X' f->X f∨A.blk.length<=f) (h3:∀ r,Mp' r->Mp r∨A.maps.length<=r) {x:Loc} (h:TM Bx' X' Mp' B x):TM Bx X Mp A x∨nrf A x:=by
 rcases TM.back hw hf h1 h2 h3 h with q | q
 . exact .inl q
 . cases x <;> first | exact .inr q | exact h.elim
theorem A91 {A B:AS} {S:Loc->Prop} {fo:Option Nat} (hw:WF A) (hf:Fr S A B) (hfo:∀ f,fo=some f->A.blk.length<=f) {x:Loc} (q:inFamO B fo x):nrf A x:=by
 cases h:fo with
 | none=>rw [h]at q;exact q.elim
 | some f =>
  rw [h]at q
  have hlf:=hfo f h
  cases x with
  | row b =>
   obtain ⟨k,base,z1,z2⟩:=q
   show A.blk.length<=b
   apply Nat.not_lt.1;intro w
   obtain ⟨cs,y1,y2⟩:=hf.kind b _ (List.getElem?_eq_getElem w)
   rw [z1]at y1;cases y1
   have:=hw b _ f base (List.getElem?_eq_getElem w) z2
   omega
  | fam g=>rw [show g=f from q];exact hlf
  | map r=>exact q.elim
  | loop r=>exact q.elim
  | it r=>exact q.elim
end Go.Sv
namespace Go.Sv.Try
open Go Go.Proofs
section
variable {X Y:Nat->Prop} {A B C:AS} {K:CoK} {c c1 c2:Co} {fk ft fk1 ft1 fk2 ft2 fo fo2:Option Nat} {S:Loc->Prop}
theorem Cg1:(zeroT Try.prog 73).bind V.cells=some [.snil]:=Cj3
set_option maxRecDepth 10000 in
set_option maxHeartbeats 8000000 in
theorem AH5 (hw:WF A) (h:IsCo X A K fk ft c) (hn:c.now < 1000000) :
 ∃ w A',EvF Try.prog HH 36 [.ptr K.cb 1] A w A'/\∃ ob ov fv,w=.fn 56 [] [.ptr ob 0]/\CStep X A K fk ft A' fk ft none { c with now:=c.now+1,tim:=leftL (c.now+1) c.tim }/\A.blk.length<=ob/\A'.blk[ob]?=some ⟨[ov],.var⟩/\Lst eDue Hp.emp A' ov (overL (c.now+1) c.tim) fv/\∀ f,fv=some f->A.blk.length<=f:=by
 refine Aa4 rfl Try.func36 (by unfold Try.f36;rfl) Try.ntmps36 (by unfold Try.f36;rfl) (by simp) ?_
 obtain ⟨A1,e1,f1,r1,n1⟩:=Aa9 A [.ptr K.cb 1]
 obtain ⟨tb,htb⟩:∃ b,b=A.blk.length:=⟨_,rfl⟩
 rw [<- htb]at r1 n1
 obtain ⟨tv,dv,bl,x1,x2,x3,x4,x5,x6⟩:=h.cm.ex
 have hcb:=h.lt.1
 have x1':=f1.row0 x1
 have ld1:=Aq0 x1'
 have wn:IntKind.i64.wrap (c.now+1)=c.now+1:=Ae1 (by have:=h.lim.now;omega) (by have:=h.lim.now;omega)
 obtain ⟨A2,s1,s2,s3⟩:=B48 x1' (c.now+1)
 have r2:=s2.row _ _ r1 (fun q=>by injection q with q;omega)
 obtain ⟨A3,e3,f3,r3,n3⟩:=Aa9 A2 [.snil]
 obtain ⟨ob,hob⟩:∃ b,b=A2.blk.length:=⟨_,rfl⟩
 rw [<- hob]at r3 n3
 have hl2:=s2.len
 have w3:=f3.wf (s2.wf (f1.wf hw))
 have x3':=f3.row0 s3
 have r23:=f3.row0 r2
 have l3:Lst eDue Hp.emp A3 tv c.tim ft:=((x2.fr0 f1).fr s2 (.box x1')).fr0 f3
 have hE:TkE A3 K.cb tb ob _ [] none:=⟨x3',r23,⟨.snil,r3,.nil⟩,by omega,by omega⟩
 obtain ⟨w4,A4,k4,fv,g4,f4,l4,hE4⟩:=AS3 w3 hE l3 (by have:=h.lim.tim;omega)
 obtain ⟨A5,t1,t2,t3⟩:=B47 hE4.rc l4.one
 obtain ⟨ov,y1,y2⟩:=hE4.ro
 have ld3:=Aq0 x3'
 have lt1:=Ab0 (P:=Try.prog) Bm8 r1
 have lt3:=Ab0 (P:=Try.prog) Bm8 r23
 have lt4:=Ab0 (P:=Try.prog) Bm8 hE4.rt
 have ft1:=B12 K.cb
 have k4:EvF Try.prog HH 54 [tv,.fn 55 [] [.ptr tb 0,.ptr ob 0]] A3 w4 A4:=k4
 simp only [RT,Q0,Q1,Q2,Q3,Q4,Q5,Q6,Q7,Q8,<- htb,<- e1,lt1,ft1,ld1,wn,s1,Cg1]
 simp only [RT,Q0,Q1,Q2,Q3,Q4,Q5,Q6,Q7,Q8,<- hob,<- e3,BL0,Aa1,lt3,ft1,ld3]
 refine Aa0 k4 ?_
 simp only [RT,Q0,Q1,Q2,Q3,Q4,Q5,Q6,Q7,Q8,Aa1]
 refine ⟨Aa3 (ha:=rfl) rfl lt4 rfl Aa1,?_⟩
 simp only [RT,Q0,Q1,Q2,Q3,Q4,Q5,Q6,Q7,Q8,ft1,t1,Aa1]
 have hlt:∀ f,ft=some f->f < A.blk.length:=x2.famLt
 have fA3:Fr (fun z=>z=.row K.cb∨inFamO A ft z) A A3:=((f1.mono (S':=fun z=>z=.row K.cb∨inFamO A ft z) fun _ q=>q.elim).trans s2 fun z q=>.inl (.inl q)).then0 f3
 have fA4:Fr (fun z=>z=.row K.cb∨inFamO A ft z) A A4:=fA3.trans f4 fun z q=>by
  rcases q with rfl | q
  . exact .inr (by show A.blk.length<=ob;have:=f1.len;omega)
  . exact (Ad5 fA3 q).imp .inr id
 have fA5:Fr (fun z=>z=.row K.cb∨inFamO A ft z) A A5:=fA4.trans t2 fun z q=>.inl (.inl q)
 have oblt:ob≠K.cb:=by have:=f1.len;omega
 refine ⟨ob,ov,fv,rfl,h.cstep (c1:={ c with now:=c.now+1,tim:=leftL (c.now+1) c.tim }) hw fA5 (fun x q=>?_) .rfl' rfl (fun Y hle=>⟨⟨w4,dv,bl,t3,l4.fr t2 (.box hE4.rc),x3.fr fA5 (fun q=>?_),x4,fun p q=>⟨(x5 p q).1.mono hle,(x5 p q).2⟩,x6.mono hle⟩,h.cm.gv.fr fA5 (fun q=>?_),h.cm.mm⟩) ⟨⟨by have:=h.lim.now;show 0<=c.now+1;omega,by show c.now+1<=1000000;omega⟩,Nat.le_trans (List.length_filter_le _ _) h.lim.tim,h.lim.bat,h.lim.done⟩ (fun f q=>Nat.lt_of_lt_of_le (hlt f q) fA5.len),by have:=f1.len;omega,t2.row _ _ y1 (fun q=>oblt (by injection q)),y2.fr t2 (.box hE4.rc),fun f q=>?_⟩
 . rcases q with rfl | q
   . exact .inl ⟨_,x1,rfl⟩
   . exact TM.ts (TS.famO (fun f q=>q) q)
 . rcases q with q | q
   . cases q
   . cases ft <;> exact q.elim
 . rcases q with q | q
   . cases q
   . cases ft <;> exact q.elim
 . rcases g4.or q with z | z
   . cases z
   . have:=fA3.len;omega
def argD (_:AS) (args:List V) (x:DueP):Prop:=args=[.int .i64 x.2.1,.int .i64 x.2.2]
set_option maxRecDepth 10000 in
set_option maxHeartbeats 8000000 in
theorem A92 {ob:Nat} {ov:V} {L:List DueP} {fv:Option Nat} (h1:A.blk[ob]?=some ⟨[ov],.var⟩) (hL:Lst eDue Hp.emp A ov L fv) (hS:Off fv A S) (hn:L.length<=1000) :
 Goes Try.prog HH 56 [] [.ptr ob 0] A S argD L:=by
 intro lo J D hJ hD hstep hJ0
 refine Aa4 rfl Try.func56 (by unfold Try.f56;rfl) Try.ntmps56 (by unfold Try.f56;rfl) (by simp) ?_
 have hlen:=fun B=>hL.len (P:=Try.prog) Try.underlying73 B
 simp only [RT,Q0,Q1,Q2,Q3,Q4,Q5,Q6,Q7,Q8,Ab0 Ca3 h1,hlen]
 refine Aa6 (fun z e B=>∃ i:Nat,z=L.length - i/\i<=L.length/\e.get 7=.int .i64 i/\e.get 0=.yield lo/\e.get 5=ov/\e.get 6=.int .i64 L.length/\Fr S A B/\J i B)
  (fun z e B=>Fr S A B/\((Is z (.exit 0)/\J L.length B)∨(Is z .ret/\∃ i,i < L.length/\D i B)))
  ⟨_,0,rfl,by omega,rfl,rfl,rfl,rfl,.refl _ _,hJ0⟩ ?_ ?_
 rotate_left
 . rintro z e B hz ⟨q1, ⟨rfl, q2⟩ | ⟨rfl, q2⟩⟩
   . simp only [RT, Q0, Q1, Q2, Q3, Q4, Q5, Q6, Q7, Q8]
     exact ⟨q1,.inl q2⟩
   . simp only [RT, Q0, Q1, Q2, Q3, Q4, Q5, Q6, Q7, Q8]
     exact ⟨q1,.inr q2⟩
 rintro z e B ⟨i,rfl,hi,h7,h0,h5,h6,hf,hj⟩
 simp only [RT,Q0,Q1,Q2,Q3,Q4,Q5,Q6,Q7,Q8,h7,h6]
 refine Aa7 (fun q1=>?_) (fun q1=>?_)
 rotate_left
 . have : i = L.length := by omega
   subst this
   simp only [RT,Q0,Q1,Q2,Q3,Q4,Q5,Q6,Q7,Q8]
   exact ⟨hf,.inl ⟨rfl,hj⟩⟩
 obtain ⟨x,hx⟩:=Ag4 (l:=L) (i:=i) (by omega)
 have hLB:=hL.fr hf hS
 obtain ⟨bb,o,c,g3,g4,g5⟩:=hLB.at (P:=Try.prog) (k:=.i64) (Hp.on_emp B) Try.underlying73 AX6 By0 hx
 rw [Be9 g5]at g4
 obtain ⟨B1,s1,s2,s3⟩:=BS4 (A:=B) (x:=x)
 have fa:=Cc6 B.blk.length
 have ld:=BS3 s3
 have hwi:IntKind.i64.wrap ((i:Int)+1)=((i+1:Nat):Int):=by rw [Ae4 (by omega)]
 have hfB:=hf.then0 s2
 obtain ⟨y,E,y1,y2,y3,y4⟩:=hstep i x B1 _ hx (hJ _ _ _ hj s2) hfB rfl
 have hfE:=hfB.thn y2
 simp only [RT,Q0,Q1,Q2,Q3,Q4,Q5,Q6,Q7,Q8,h5,h7,g3,g4,B64,s1,fa,ld,h0]
 refine ⟨_,E,y1,?_⟩
 cases y with
 | true =>
  have y3:=y3 rfl
  simp only [RT,Q0,Q1,Q2,Q3,Q4,Q5,Q6,Q7,Q8,h7,hwi]
  refine ⟨L.length - (i+1),by omega,i+1,rfl,by omega,?_⟩
  and_intros <;> first | rfl | assumption
 | false =>
  simp only [RT,Q0,Q1,Q2,Q3,Q4,Q5,Q6,Q7,Q8]
  exact ⟨hfE,.inr ⟨rfl,i,by omega,y4 rfl⟩⟩
theorem IsCo.loop {l:Nat} (hw:WF A) (h:IsCo X A K fk ft c) (hf:Fr (·=.loop l) A B):IsCo X B K fk ft c:=by
 have hle:(qHp X A).le (qHp X B):=Al7 hf (fun b k q=>by cases q) hw fun f q=>.inl q
 exact { h with rd:=h.rd.fr hf (fun q=>by cases q) (fun q=>by cases q) (fun j hj=>⟨fun q=>(by cases q),fun q=>(by cases q)⟩) (fun b q=>by cases q) (fun b q=>by cases q),cm:=h.cm.fr hf (fun q=>by cases q) (fun q=>by cases q) (fun q=>by cases q) (fun b q=>by cases q) hle,xlt:=fun f q=>Nat.lt_of_lt_of_le (h.xlt f q) hf.len }
theorem CStep.loop {l:Nat} (hw:WF A) (h:CStep X A K fk ft B fk1 ft1 fo c) (hf:Fr (·=.loop l) B C) (hl:A.loops.length<=l):CStep X A K fk ft C fk1 ft1 fo c :=
 { h with fr:=h.fr.trans hf fun x q=>.inr (by subst q;exact hl),co:=h.co.loop (h.wf hw) hf,le:=Hp.le_trans h.le (Al7 hf (fun b k q=>by cases q) (h.wf hw) fun f q=>.inl q) }
end
end Go.Sv.Try
namespace Go.Sv
open Go
def Co.tick1 (s:Co×List Act) (x:DueP):Co×List Act:=({ s.1 with rd:=(s.1.rd.Timeout x.2.1 x.2.2).1 },s.2++(s.1.rd.Timeout x.2.1 x.2.2).2)
def Co.tick0 (c:Co):Co:={ c with now:=c.now+1,tim:=leftL (c.now+1) c.tim }
def Co.tickI (c:Co) (i:Nat):Co×List Act:=((overL (c.now+1) c.tim).take i).foldl Co.tick1 (c.tick0,[])
def Co.tickS (c:Co):Co×List Act:=(overL (c.now+1) c.tim).foldl Co.tick1 (c.tick0,[])
def valMsg (c:Co):M:=⟨5,c.rd.me,c.rd.height,0,0,0,zero32,(lookL c.bat c.rd.best).getD [],[],[]⟩
def o1 (c:Co) (l:List M):List M:=if (c.offer c.rd.now).2=true then l++[(c.offer c.rd.now).1] else l
def o2 (c:Co) (l:List M):List M:=if c.rd.valid > 0/\lookL c.bat c.rd.best≠none then l++[valMsg c] else l
def o3 (c:Co) (l:List M):List M:=if 0 < (stIds c.rd).length then l++[stMsg c.rd] else l
def again (c:Co) (l:List M):List M:=o3 c (o2 c (o1 c l))
def Co.tickA (c:Co):Co×List M:=c.tickS.1.act c.tickS.2
def Co.Tick (c:Co):Co×List M:=(c.tickA.1,again c.tickA.1 c.tickA.2)
end Go.Sv
namespace Go.Sv.Try
open Go Go.Proofs
section
variable {r:Rd}
theorem Rng.Timeout (h:Rng r) (R K:Int):Rng (r.Timeout R K).1/\(r.Timeout R K).2.length<=r.acts.length+2001/\(r.Timeout R K).1.acts=[]:=by
 unfold Rd.Timeout
 have key:∀ r':Rd,Rng r'->r'.acts.length<=r.acts.length+1->Rng r'.settle.1/\r'.settle.2.length<=r.acts.length+2001/\r'.settle.1.acts=[]:=fun r' h' hl=>by
  have:=h'.setLen
  exact ⟨h'.settle,by omega,rfl⟩
 split
 . split
   . have k:=h.vote (k:=0) (by omega) n32;exact key _ k.1 k.2
   split
   . have k:=h.vote (k:=1) (by omega) n32;exact key _ k.1 k.2
   split
   . rename_i q _ _ _
     have k:=h.begin (R:=R+1) (by have:=h.now;omega);exact key _ k.1 k.2
   . exact key _ h (by omega)
 . exact key _ h (by omega)
end
section
variable {X Y:Nat->Prop} {A B C:AS} {K:CoK} {c c1 c2:Co} {fk ft fk1 ft1 fk2 ft2 fo fo2:Option Nat} {S:Loc->Prop}
theorem BS5 (a b:Int) (i j k l:Nat):evBuild Try.prog 28 [(0,.int .i64 5),(1,.int .i64 a),(2,.int .i64 b),(7,.sl i j k l)]=some (.agg (mc ⟨5,a,b,0,0,0,zero32,[],[],[]⟩ (.sl i j k l) .snil .snil)):=by kernel_rfl
theorem Cg2:(zeroT Try.prog 79).bind V.cells=some [.snil]:=Cj4
theorem Cg3 (b o n z:Nat):evBin Try.prog .neq 24 (.sl b o n z) .snil=some (.bool true):=by kernel_rfl
theorem Cg4:evBin Try.prog .neq 24 .snil .snil=some (.bool false):=by kernel_rfl
def tkT (K:CoK) (fk ft:Option Nat) (b:Nat) (A:AS):Loc->Prop:=fun z=>LCo K fk ft A z∨z=.row b∨nrf A z
structure TkI (X:Nat->Prop) (A A3:AS) (K:CoK) (fk ft:Option Nat) (b1 b3:Nat) (s:Co×List Act) (B:AS):Prop where
 ex:∃ fk' fo w,CStep X A K fk ft B fk' ft fo s.1/\B.blk[b3]?=some ⟨[w],.var⟩/\Lst eAct Hp.emp B w s.2 fo/\Gr A3 fk fk'/\∀ f,fo=some f->A3.blk.length<=f
 r1:B.blk[b1]?=some ⟨[.ptr K.cb 0],.var⟩
theorem TkI.loop {A3:AS} {l:Nat} {b1 b3:Nat} {s:Co×List Act} (hw:WF A) (h:TkI X A A3 K fk ft b1 b3 s B) (hf:Fr (·=.loop l) B C) (hl:A.loops.length<=l):TkI X A A3 K fk ft b1 b3 s C:=by
 obtain ⟨fk',fo,w,h1,h2,h3,h4⟩:=h.ex
 exact ⟨⟨fk',fo,w,h1.loop hw hf hl,hf.row _ _ h2 (fun q=>by cases q),h3.fr hf (fun b q=>by cases q),h4⟩,hf.row _ _ h.r1 (fun q=>by cases q)⟩
theorem Bp6 (l:List Act):∀ s:Co×List M×Bool,(l.foldl Co.act1 s).2.1.length<=s.2.1.length+l.length:=by
 induction l with
 | nil=>exact fun s=>Nat.le_refl _
 | cons a l ih =>
  intro s
  have h:=ih (Co.act1 s a)
  have k:=Bp3 s a
  show (l.foldl Co.act1 (Co.act1 s a)).2.1.length<=_
  rw [List.length_cons];omega
theorem Au1 (c:Co) (l:List Act):(c.act l).2.length<=l.length+1:=by
 have h:=Bp6 l (c,[],false)
 have h:(c.acts l).2.1.length<=0+l.length:=h
 unfold Co.act
 show (if _ then _ else _:List M).length<=_
 split
 . rw [List.length_append];simp;omega
 . omega
theorem AJ4 {c:Co} {i:Nat} {x:DueP} (h:(overL (c.now+1) c.tim)[i]?=some x):c.tickI (i+1)=Co.tick1 (c.tickI i) x:=by
 unfold Co.tickI;exact As1 h
theorem Av6 {c:Co} (h:Rng c.rd) (ha:c.rd.acts=[]):∀ i,Rng (c.tickI i).1.rd/\(c.tickI i).1.rd.acts=[]/\(c.tickI i).2.length<=2001 * i
 | 0=>⟨h,ha,by show ([]:List Act).length<=_;simp⟩
 | i+1=>by
  obtain ⟨h1,h2,h3⟩:=Av6 h ha i
  cases hx:(overL (c.now+1) c.tim)[i]? with
  | none =>
   have e:c.tickI (i+1)=c.tickI i:=by
    have hl:=List.getElem?_eq_none_iff.1 hx
    unfold Co.tickI;rw [List.take_of_length_le (by omega),List.take_of_length_le hl]
   rw [e];exact ⟨h1,h2,by omega⟩
  | some x =>
   rw [AJ4 hx]
   have k:=h1.Timeout x.2.1 x.2.2
   rw [h2]at k
   refine ⟨k.1,k.2.2,?_⟩
   show ((c.tickI i).2++((c.tickI i).1.rd.Timeout x.2.1 x.2.2).2).length<=_
   rw [List.length_append]
   have:=k.2.1;simp at this;omega
set_option maxRecDepth 10000 in
set_option maxHeartbeats 32000000 in
theorem AZ3 (hw:WF A) (h:IsCo X A K fk ft c) (hn:c.now < 1000000) :
 ∃ w A',EvF Try.prog HH 19 [.ptr K.cb 0] A w A'/\MRes X A K fk ft A' c.Tick w:=by
 refine Aa4 rfl Try.func19 (by unfold Try.f19;rfl) Try.ntmps19 (by unfold Try.f19;rfl) (by simp) ?_
 obtain ⟨A1,e1,f1,r1,n1⟩:=Aa9 A [.ptr K.cb 0]
 obtain ⟨b1,hb1⟩:∃ b,b=A.blk.length:=⟨_,rfl⟩
 rw [<- hb1]at r1 n1
 obtain ⟨A2,e2,f2,r2,n2⟩:=Aa9 A1 [.snil]
 obtain ⟨b3,hb3⟩:∃ b,b=A1.blk.length:=⟨_,rfl⟩
 rw [<- hb3]at r2 n2
 have f12:=f1.then0 f2
 have h2:=h.fr0 f12
 have w2:=f12.wf hw
 have lp1:=Ab0 (P:=Try.prog) Bb9 (f2.row0 r1)
 obtain ⟨_,A3,k3,ob,ov,fv,rfl,s3,hob,r3,l3,hfv⟩:=AH5 w2 h2 hn
 have w3:=s3.wf w2
 have hcb:=h.lt
 have hl1:=f1.len
 have ne1:b1≠K.cb/\b1≠K.rp/\b3≠K.cb/\b3≠K.rp/\b1≠b3/\ob≠b1/\ob≠b3:=by omega
 have r13:=s3.fr.row _ _ (f2.row0 r1) (TM.box (f2.row0 r1) (by rintro (q | q);exact ne1.1 q;exact ne1.2.1 q))
 have r33:=s3.fr.row _ _ r2 (TM.box r2 (by rintro (q | q);exact ne1.2.2.1 q;exact ne1.2.2.2.1 q))
 have hC3:=s3.co
 obtain ⟨L,hL⟩:∃ L,L=overL (c.now+1) c.tim:=⟨_,rfl⟩
 rw [<- hL]at l3
 have hL40:L.length<=40:=by rw [hL];exact Nat.le_trans (List.length_filter_le _ _) h.lim.tim
 have hfl:∀ f,fv=some f->f < A3.blk.length:=l3.famLt
 simp only [RT,Q0,Q1,Q2,Q3,Q4,Q5,Q6,Q7,Q8,<- hb1,<- e1,Cg2]
 simp only [RT,Q0,Q1,Q2,Q3,Q4,Q5,Q6,Q7,Q8,<- hb3,<- e2,lp1,Ao4 K.cb]
 refine Aa0 k3 ?_
 simp only [RT,Q0,Q1,Q2,Q3,Q4,Q5,Q6,Q7,Q8]
 have w1:=f1.wf hw
 have s13:=s3.next0 w1 f2
 have hll:A1.loops.length<=A3.loops.length:=by
  apply Nat.not_lt.1;intro z
  obtain ⟨mo,q⟩:=Ag4 z
  have:=s13.fr.loop _ _ q (fun w=>w.elim)
  have:=(List.getElem?_eq_some_iff.1 this).1
  omega
 refine Bb3 (S:=tkT K fk ft b3 A3) (AR:=argD) (xs:=L) (fun i B=>TkI X A1 A3 K fk ft b1 b3 (c.tickI i) B) (fun B=>TkI X A1 A3 K fk ft b1 b3 c.tickS B)
  rfl (fun q=>by
   rcases q with q | q | q
   . exact q.elim
   . cases q
   . exact q.elim) ?_ ⟨⟨fk,none,.snil,s13,r33,.nil,.inl rfl,fun f q=>by cases q⟩,r13⟩ (fun _ _ _ q z=>q.loop w1 z hll) (fun _ _ q z=>q.loop w1 z hll) Try.func19 Try.ntmps19 (by simp) ?_ ?_ ?_
 . intro A0 hf0
   refine A92 (hf0.row0 r3) (l3.fr0 hf0) ?_ (by omega)
   rintro b (q | q) f k base hf hk hkk
   . have hff := hfl f hf
     have hfg:=hfv f hf
     rcases q with (⟨cs,q,w⟩ | ⟨cs,g,base',q,w⟩) | q | q
     . rw [hf0.row0 q]at hk;cases hk;cases hkk
     . rw [hf0.row0 q] at hk; cases hk; cases hkk
       have:=h2.xlt f (h2.sub f w)
       omega
     . injection q with q; subst q
       rw [hf0.row0 r33]at hk;cases hk;cases hkk
     . have q : A3.blk.length <= b := q
       have:=(hf0.new b k f base hk q hkk).2
       rcases this with y | y
       . omega
       . exact y.elim
   . cases q
 . rintro i x B args hi hI hfB rfl
   refine ⟨_,rfl,?_⟩
   simp only [RT,Q0,Q1,Q2,Q3,Q4,Q5,Q6,Q7,Q8]
   refine ⟨rfl,.refl _ _,fun B1 hB1=>?_⟩
   have hI:=hI.loop w1 hB1 hll
   have hfB1:Fr (orLoop (tkT K fk ft b3 A3) A3.loops.length) A3 B1:=hfB.trans hB1 fun z q=>.inl (.inr q)
   rw [AJ4 (by rw [<- hL];exact hi)]
   have hlen:=Av6 h.rng h.acts i
   have hil:=(List.getElem?_eq_some_iff.1 hi).1
   obtain ⟨s,hs⟩:∃ s,s=c.tickI i:=⟨_,rfl⟩
   rw [<- hs]at hI hlen ⊢
   obtain ⟨⟨fk',fo,w,x1,x2,x3,x5,x6⟩,x4⟩:=hI
   have wB:=x1.wf w1
   have lpB:=Ab0 (P:=Try.prog) Bb9 x4
   have laB:=Ab0 (P:=Try.prog) B22 x2
   obtain ⟨tv,dv,bl,y1,_⟩:=x1.co.cm.ex
   have ld:=Aq0 y1
   obtain ⟨u,C,m1,m2⟩:=AR3 wB x1.co.rd x1.co.rng (by rw [x1.co.acts];simp) (R:=x.2.1) (K:=x.2.2)
   have hO:=x1.co.rng.Timeout x.2.1 x.2.2
   rw [x1.co.acts]at hO
   obtain ⟨fk5,fo5,o1,o2⟩:=x1.co.give wB m2 (A88 _ _ _) hO.1 hO.2.2
   obtain ⟨v6,D,fo6,j1,j2,j3,j4,j5⟩:=x1.moreF w1 x3 o1 o2 (by have:=hlen.2.2;have:=hO.2.1;simp at this;omega)
   have x2C:=o1.fr.row _ _ x2 (TM.box x2 (by rintro (q | q);exact ne1.2.2.1 q;exact ne1.2.2.2.1 q))
   have x4C:=o1.fr.row _ _ x4 (TM.box x4 (by rintro (q | q);exact ne1.1 q;exact ne1.2.1 q))
   have laC:=Ab0 (P:=Try.prog) B22 x2C
   have x2D:=j4.row _ _ x2C (Aa8 x2C)
   have x4D:=j4.row _ _ x4C (Aa8 x4C)
   obtain ⟨E,t1,t2,t3,t4⟩:=Ai0 (P:=Try.prog) (t:=79) (x:=v6) x2D j3.cells1 Cd7 j3.one
   have x4E:=t2.row _ _ x4D (fun q=>ne1.2.2.2.2.1 (by injection q))
   have k2:=j2.box w1 x2D t2 (by omega) (by omega)
   simp only [RT,Q0,Q1,Q2,Q3,Q4,Q5,Q6,Q7,Q8,BJ9,Aa1,laB,lpB,Ao4 K.cb,ld]
   refine Aa0 m1 ?_
   simp only [RT,Q0,Q1,Q2,Q3,Q4,Q5,Q6,Q7,Q8,Aa1]
   refine ⟨Aa3 (ha:=rfl) rfl laC rfl Aa1,?_⟩
   simp only [RT,Q0,Q1,Q2,Q3,Q4,Q5,Q6,Q7,Q8,j1,t1,Aa1]
   have hS1:∀ z,LCo K fk' ft B1 z->tkT K fk ft b3 A3 z:=fun z q=>by
    rcases TM.backN (Bx:=fun b=>b=K.cb∨b=K.rp) (X:=XCo K fk ft) (Mp:=fun r=>r=K.mb∨r=K.mg) w3 hfB1 (fun b q=>.inl q) (fun f q=>by
     rcases q with (q | q) | q
     . exact .inl (.inl (.inl q))
     . exact (x5.or q).imp (fun z=>.inl (.inr z)) id
     . exact .inl (.inr q)) (fun r q=>.inl q) q with q | q
    . exact .inl q
    . exact .inr (.inr q)
   have fC:Fr (tkT K fk ft b3 A3) B1 C:=o1.fr.mono hS1
   have fAC:=hfB1.trans fC fun z q=>.inl (.inl q)
   have fD:Fr (tkT K fk ft b3 A3) C D:=j4.mono fun z q=>.inr (.inr (A91 w3 fAC x6 q))
   have fE:Fr (tkT K fk ft b3 A3) D E:=t2.mono fun z q=>.inr (.inl q)
   refine ⟨(fC.thn fD).thn fE,.inl ⟨rfl,⟨fk5,fo6,v6,k2,t3,j3.fr t2 (.box x2D),x5.trans o1.g1 hfB1.len,fun f q=>?_⟩,x4E⟩⟩
   rcases j5.or q with z | z
   . exact x6 f z
   . have:=fAC.len;omega
 . intro A2' q
   have e:c.tickI L.length=c.tickS:=by unfold Co.tickI Co.tickS;rw [<- hL,List.take_length]
   rw [e]at q;exact q
 intro A4 hI hf
 have hlS:c.tickS.2.length<=100000:=by
  have e:c.tickI L.length=c.tickS:=by unfold Co.tickI Co.tickS;rw [<- hL,List.take_length]
  have:=(Av6 h.rng h.acts L.length).2.2
  rw [e]at this;omega
 obtain ⟨⟨fk4,fo4,w4',x1,x2,x3,_,_⟩,x4⟩:=hI
 have lp4:=Ab0 (P:=Try.prog) Bb9 x4
 have la4:=Ab0 (P:=Try.prog) B22 x2
 obtain ⟨u5,A5,k5,fk5,ft5,fo5,y1,y2⟩:=x1.act w1 x3 (by omega)
 have w5:=y1.wf w1
 have hl5:c.tickA.2.length<=200000:=Nat.le_trans (Au1 _ _) (by omega)
 have eT:c.Tick=(c.tickA.1,again c.tickA.1 c.tickA.2):=rfl
 rw [eT]
 have y1:CStep X A1 K fk ft A5 fk5 ft5 fo5 c.tickA.1:=y1
 have y2:Lst eMsg (qHp (nz X fk5 ft5 fo5) A5) A5 u5 c.tickA.2 fo5:=y2
 obtain ⟨c5,hc5⟩:∃ x,x=c.tickA.1:=⟨_,rfl⟩
 obtain ⟨l5,hl5e⟩:∃ x,x=c.tickA.2:=⟨_,rfl⟩
 rw [<- hc5]at y1 ⊢
 rw [<- hl5e]at y2 hl5 ⊢
 have rowb:∀ {B:AS} {fo:Option Nat} {c':Co} {fk' ft':Option Nat},CStep X A1 K fk ft B fk' ft' fo c'->B.blk[b1]?=some ⟨[.ptr K.cb 0],.var⟩:=fun q=>q.fr.row _ _ r1 (TM.box r1 (by rintro (q | q);exact ne1.1 q;exact ne1.2.1 q))
 have lp5:=Ab0 (P:=Try.prog) Bb9 (rowb y1)
 obtain ⟨_,_,k6,hA6,rfl⟩:=A72 y1.co.rd
 rw [hA6]at k6
 obtain ⟨tv5,dv5,bl5,z5,_⟩:=y1.co.cm.ex
 have ld5:=Aq0 z5
 obtain ⟨_,A7,k7,f7,dv7,rfl,q7,i7,j7,m7⟩:=AJ2 w5 y1.co c5.rd.now
 have hin7:MsgIn (qHp (nz X fk5 ft5 fo5) A7) (c5.offer c5.rd.now).1 dv7 .snil .snil:=⟨i7,q7,.inl ⟨rfl,j7⟩,.inl ⟨rfl,m7⟩⟩
 obtain ⟨A8,s8,f8,r8⟩:=Ay3 hin7
 have y8:=(y1.then0 f7).then0 f8
 have z8:=CStep.lst0 (CStep.lst0 y2 f7) f8
 have w8:=y8.wf w1
 have hin8:=hin7.mono (Ad8 f8)
 obtain ⟨bo,hbo⟩:∃ b,b=(c5.offer c5.rd.now).2:=⟨_,rfl⟩
 rw [<- hbo]at k7
 simp only [RT,Q0,Q1,Q2,Q3,Q4,Q5,Q6,Q7,Q8,lp4,la4]
 refine Aa0 k5 ?_
 simp only [RT,Q0,Q1,Q2,Q3,Q4,Q5,Q6,Q7,Q8,lp5,Ao4 K.cb,ld5]
 refine Aa0 k6 ?_
 simp only [RT,Q0,Q1,Q2,Q3,Q4,Q5,Q6,Q7,Q8,lp5]
 refine Aa0 k7 ?_
 simp only [RT,Q0,Q1,Q2,Q3,Q4,Q5,Q6,Q7,Q8,zcM,s8]
 refine Al0 (fun z e B=>Is z .normal/\e.get 1=.ptr b1 0/\∃ w fo,e.get 6=w/\CStep X A1 K fk ft B fk5 ft5 fo c5/\Lst eMsg (qHp (nz X fk5 ft5 fo) B) B w (o1 c5 l5) fo) ?_ ?_
 . cases bo with
   | false =>
    have e:o1 c5 l5=l5:=by unfold o1;rw [<- hbo,if_neg (by decide)]
    rw [e]
    simp only [RT,Q0,Q1,Q2,Q3,Q4,Q5,Q6,Q7,Q8]
    exact ⟨rfl,u5,fo5,rfl,y8,z8⟩
   | true =>
    have e:o1 c5 l5=l5++[(c5.offer c5.rd.now).1]:=by unfold o1;rw [<- hbo,if_pos rfl]
    rw [e]
    obtain ⟨v',E,fo2,p1,p2,p3,p4⟩:=y8.msg w1 z8 hin8 (by omega)
    simp only [RT,Q0,Q1,Q2,Q3,Q4,Q5,Q6,Q7,Q8,ldM r8 i7,A90 i7,p1]
    exact ⟨rfl,v',fo2,rfl,p2,p3⟩
 rintro z e B ⟨rfl,h1,w,fo,h6,yB,zB⟩
 have hlo1:(o1 c5 l5).length<=300000:=by
  unfold o1;split
  . rw [List.length_append];simp;omega
  . omega
 obtain ⟨lo1,hlo⟩:∃ x,x=o1 c5 l5:=⟨_,rfl⟩
 have eA:again c5 l5=o3 c5 (o2 c5 lo1):=by rw [hlo];rfl
 rw [eA]
 rw [<- hlo]at zB hlo1
 have wB:=yB.wf w1
 have lpB:=Ab0 (P:=Try.prog) Bb9 (rowb yB)
 obtain ⟨tvB,dvB,blB,xB,_⟩:=yB.co.cm.ex
 have ldB:=Aq0 xB
 obtain ⟨_,C,k9,f9,rfl⟩:=A85 wB yB.co.rd
 have hbl:=yB.co.rd.ok.best
 obtain ⟨D,s10,f10,r10⟩:=BR3 (A:=C) c5.rd.best hbl
 obtain ⟨b12,hb12⟩:∃ b,b=C.blk.length:=⟨_,rfl⟩
 rw [<- hb12]at s10 r10
 have yD:=(yB.then0 f9).then0 f10
 have zD:=CStep.lst0 (CStep.lst0 zB f9) f10
 have wD:=yD.wf w1
 have lpD:=Ab0 (P:=Try.prog) Bb9 (rowb yD)
 obtain ⟨tvD,dvD,blD,xD,_⟩:=yD.co.cm.ex
 have ldD:=Aq0 xD
 have lbD:=ldI r10 hbl
 obtain ⟨v,lk1,lk2,lk3⟩:=yD.co.cm.look hbl
 simp only [RT,Q0,Q1,Q2,Q3,Q4,Q5,Q6,Q7,Q8,h1,lpB,Ao4 K.cb,ldB]
 refine Aa0 k9 ?_
 simp only [RT,Q0,Q1,Q2,Q3,Q4,Q5,Q6,Q7,Q8,Bb8,<- hb12,s10]
 refine Al2 (fun z e' B'=>Is z .normal/\B'=D/\e'.get 70=.bool (decide (c5.rd.valid > 0/\lookL c5.bat c5.rd.best≠none))/\e'.get 6=w/\e'.get 1=.ptr b1 0/\e'.get 12=.ptr b12 0) ?_ ?_
 . rw [Bw2, Aa2 (by rfl)]
   by_cases q1:c5.rd.valid > 0
   rotate_left
   . simp only [RT, Q0, Q1, Q2, Q3, Q4, Q5, Q6, Q7, Q8, decide_eq_false q1, h6, h1]
     rw [decide_eq_false (fun z=>q1 z.1)]
     and_intros <;> first | rfl | assumption
   by_cases q2:lookL c5.bat c5.rd.best=none
   . have hv := lk3.2 q2
     subst hv
     simp only [RT,Q0,Q1,Q2,Q3,Q4,Q5,Q6,Q7,Q8,decide_eq_true q1,h1,lpD,Ao4 K.cb,ldD,lbD,lk1,Cg4,h6]
     rw [decide_eq_false (fun z=>z.2 q2)]
     and_intros <;> first | rfl | assumption
   . rcases AM7 lk2 with rfl | ⟨bb, oo, nn, zz, rfl⟩
     . exact absurd (lk3.1 rfl) q2
     simp only [RT,Q0,Q1,Q2,Q3,Q4,Q5,Q6,Q7,Q8,decide_eq_true q1,h1,lpD,Ao4 K.cb,ldD,lbD,lk1,Cg3,h6]
     rw [decide_eq_true ⟨q1,q2⟩]
     and_intros <;> first | rfl | assumption
 rintro z e' B' ⟨rfl,rfl,h70,h6',h1',h12⟩
 simp only [RT,Q0,Q1,Q2,Q3,Q4,Q5,Q6,Q7,Q8,h70]
 refine Al0 (fun z e F=>Is z .normal/\e.get 1=.ptr b1 0/\∃ w fo,e.get 6=w/\CStep X A1 K fk ft F fk5 ft5 fo c5/\Lst eMsg (qHp (nz X fk5 ft5 fo) F) F w (o2 c5 lo1) fo) ?_ ?_
 . by_cases q : c5.rd.valid > 0 /\ lookL c5.bat c5.rd.best ≠ none
   rotate_left
   . have e : o2 c5 lo1 = lo1 := by unfold o2; rw [if_neg q]
     rw [e]
     simp only [RT,Q0,Q1,Q2,Q3,Q4,Q5,Q6,Q7,Q8,decide_eq_false q,h1',h6']
     exact ⟨rfl,w,fo,rfl,yD,zD⟩
   have e:o2 c5 lo1=lo1++[valMsg c5]:=by unfold o2;rw [if_pos q]
   rw [e]
   obtain ⟨c',E,g1,g2,g3,g4,g5⟩:=At0 (P:=Try.prog) (t:=24) (tx:=24) wD B24 Try.underlying24 lk2 (Af3 _ B') (by have:=yD.co.lim.look c5.rd.best;omega) (by have:=yD.co.lim.look c5.rd.best;omega)
   have f11:=Fr.pushArr B' []
   have yP:=yD.then0 f11
   have lpP:=Ab0 (P:=Try.prog) Bb9 (f11.row0 (rowb yD))
   have ldP:=Aq0 (f11.row0 xD)
   have lbP:=ldI (f11.row0 r10) hbl
   have lkP:evLookup Try.prog 71 (.map K.mb) (.agg (bc c5.rd.best)) false (B'.push ⟨[],.arr B'.blk.length 0⟩)=some v:=lk1
   have yE:=yD.then0 g5
   have zE:=CStep.lst0 zD g5
   have lpE:=Ab0 (P:=Try.prog) Bb9 (rowb yE)
   have ldE:=Aq0 (g5.row0 xD)
   have hnX:¬ nz X fk5 ft5 fo B'.blk.length:=fun q=>by have:=yD.co.xlt _ q;omega
   have hin:MsgIn (qHp (nz X fk5 ft5 fo) E) (valMsg c5) (.sl c' 0 ((lookL c5.bat c5.rd.best).getD []).length 1) .snil .snil:=⟨rfl,Be2 (Al1 g2 hnX) rfl,.inl ⟨rfl,rfl⟩,.inl ⟨rfl,rfl⟩⟩
   obtain ⟨v',F,fo2,p1,p2,p3,p4⟩:=yE.msg w1 zE hin (by omega)
   have bv:=BS5 (c5.rd.me:Int) c5.rd.height c' 0 ((lookL c5.bat c5.rd.best).getD []).length 1
   have bv:evBuild Try.prog 28 [(0,.int .i64 5),(1,.int .i64 (c5.rd.me:Int)),(2,.int .i64 c5.rd.height),(7,.sl c' 0 ((lookL c5.bat c5.rd.best).getD []).length 1)]=some (.agg (mc (valMsg c5) (.sl c' 0 ((lookL c5.bat c5.rd.best).getD []).length 1) .snil .snil)):=bv
   simp only [RT,Q0,Q1,Q2,Q3,Q4,Q5,Q6,Q7,Q8,decide_eq_true q]
   simp only [RT,Q0,Q1,Q2,Q3,Q4,Q5,Q6,Q7,Q8,Bw3,Aa1,h6',h1',h12,lpD,Ao4 K.cb,ldD,Bo6,lpP,ldP,lbP,lkP,g1]
   refine ⟨Aa3 (ha:=h1') rfl lpE rfl (Aa3 (ha:=rfl) rfl ldE.2.2.2.2.1 rfl (Aa3 (ha:=h1') rfl lpE rfl (Aa3 (ha:=rfl) rfl ldE.2.2.2.2.2.1 rfl Aa1))),?_⟩
   simp only [RT,Q0,Q1,Q2,Q3,Q4,Q5,Q6,Q7,Q8,bv,A90 (x:=valMsg c5) rfl,p1,Aa1,h1']
   exact ⟨rfl,v',fo2,rfl,p2,p3⟩
 rintro z e F ⟨rfl,h1'',w',fo',h6'',yF,zF⟩
 have hlo2:(o2 c5 lo1).length<=400000:=by
  unfold o2;split
  . rw [List.length_append];simp;omega
  . omega
 obtain ⟨lo2,hlo2e⟩:∃ x,x=o2 c5 lo1:=⟨_,rfl⟩
 rw [<- hlo2e]at zF hlo2 ⊢
 have wF:=yF.wf w1
 have lpF:=Ab0 (P:=Try.prog) Bb9 (rowb yF)
 obtain ⟨tvF,dvF,blF,xF,_⟩:=yF.co.cm.ex
 obtain ⟨_,G,k13,f13,iv,fi,rfl,m3,m4⟩:=AI9 wF yF.co.rd xF
 have yG:=yF.then0 f13
 have zG:=CStep.lst0 zF f13
 have hin:MsgIn (qHp (nz X fk5 ft5 fo') G) (stMsg c5.rd) .snil iv .snil:=⟨rfl,.inl ⟨rfl,rfl⟩,m3.slcQ (fun b cs q=>by cases q) (fun f q w=>by have:=yF.co.xlt f w;have:=m4 f q;omega),.inl ⟨rfl,rfl⟩⟩
 obtain ⟨J,n1,n2,n3⟩:=Ay3 hin
 have n1:evStore Try.prog 28 (.ptr G.blk.length 0) (.agg (mc (msgS c5.rd.me c5.rd.height (stIds c5.rd)) .snil iv .snil)) (G.push ⟨mcZ,.var⟩)=some J:=n1
 have yJ:=yG.then0 n2
 have zJ:=CStep.lst0 zG n2
 have hil:(stMsg c5.rd).id.length=32:=rfl
 simp only [RT,Q0,Q1,Q2,Q3,Q4,Q5,Q6,Q7,Q8,h1'',lpF]
 refine Aa0 k13 ?_
 by_cases q:0 < (stIds c5.rd).length
 rotate_left
 . have e : o3 c5 lo2 = lo2 := by unfold o3; rw [if_neg q]
   rw [e]
   simp only [RT,Q0,Q1,Q2,Q3,Q4,Q5,Q6,Q7,Q8,zcM,n1,decide_eq_false q,h6'']
   exact ⟨fk5,ft5,fo',yJ.next0 hw f1,zJ⟩
 have e:o3 c5 lo2=lo2++[stMsg c5.rd]:=by unfold o3;rw [if_pos q]
 rw [e]
 obtain ⟨v',P,fo2,p1,p2,p3,p4⟩:=yJ.msg w1 zJ (hin.mono (Ad8 n2)) (by omega)
 have lm:=ldM n3 hil
 simp only [RT,Q0,Q1,Q2,Q3,Q4,Q5,Q6,Q7,Q8,zcM,n1,decide_eq_true q,h6'',lm,A90 hil,p1]
 exact ⟨fk5,ft5,fo2,p2.next0 hw f1,p3⟩
end
end Go.Sv.Try
namespace Go.Sv
open Go
def rec1 (ids:List Bts) (r:Rd) (i:Nat):Rd:=r.Recall ⟨2,((i / 2:Nat):Int),((i % 2:Nat):Int),0,(ids[i]?).getD z32⟩
def recI (r:Rd) (ids:List Bts) (i:Nat):Rd:=(List.range i).foldl (rec1 ids) r
def recS (r:Rd) (ids:List Bts):Rd:=recI r ids ids.length
def Co.recP (c:Co) (x:M):Co:={ c.have_ x.data with rd:=(c.rd.Remember (batchI x.data)).Recall ⟨1,x.round,0,x.valid,batchI x.data⟩ }
def Co.recall1 (c:Co) (x:M):Co :=
 if x.height≠c.rd.height then c else if x.kind=3 then c.recP x else if x.kind=4 then { c with rd:=recS c.rd x.ids } else c
def Co.Recall (c:Co) (l:List M):Co:=l.foldl Co.recall1 c
theorem Aq6 (r:Rd) (ids:List Bts) (i:Nat):recI r ids (i+1)=rec1 ids (recI r ids i) i:=by
 unfold recI;rw [List.range_succ,List.foldl_append];rfl
def RecOk (x:M):Prop:=x.ids.length<=1000000/\x.data.length<=1000000
end Go.Sv
namespace Go.Sv.Try
open Go Go.Proofs
section
variable {X Y:Nat->Prop} {A B C:AS} {K:CoK} {c c1 c2:Co} {fk ft fk1 ft1 fk2 ft2 fo fo2:Option Nat}
theorem CStep.leK (hw:WF A) (h:CStep X A K fk ft B fk1 ft1 fo c):(qHp (XCo K fk ft) A).le (qHp (XCo K fk1 ft1) B):=Al7 h.fr TM.tch hw fun f q=>by
 rcases q with (⟨j,hj,rfl⟩ | q) | q
 . exact .inl (.inl (.inl ⟨j,hj,rfl⟩))
 . exact (h.g1.or q).imp (fun z=>.inl (.inr z)) id
 . exact (h.g2.or q).imp (fun z=>.inr z) id
theorem BS6 (g:Nat->V) (K R W:Int):evBuild Try.prog 109 [(0,.int .i64 K),(1,.int .i64 R),(3,.int .i64 W),(4,.agg ((List.range 32).map g))]=some (.agg (.int .i64 K::.int .i64 R::.int .i64 0::.int .i64 W::(List.range 32).map g)):=by kernel_rfl
theorem B65 {x:Bts} (h:x.length=32) (R W:Int):evBuild Try.prog 109 [(0,.int .i64 1),(1,.int .i64 R),(3,.int .i64 W),(4,.agg (bc x))]=some (.agg (actC ⟨1,R,0,W,x⟩)):=by
 obtain ⟨g,hg⟩:=Ac9 (l:=bc x) (n:=32) (by rw [Aa5,h])
 unfold actC;simp only [];rw [hg];exact BS6 g 1 R W
theorem BS7 (g:Nat->V) (K R N:Int):evBuild Try.prog 109 [(0,.int .i64 K),(1,.int .i64 R),(2,.int .i64 N),(4,.agg ((List.range 32).map g))]=some (.agg (.int .i64 K::.int .i64 R::.int .i64 N::.int .i64 0::(List.range 32).map g)):=by kernel_rfl
theorem B66 {x:Bts} (h:x.length=32) (R N:Int):evBuild Try.prog 109 [(0,.int .i64 2),(1,.int .i64 R),(2,.int .i64 N),(4,.agg (bc x))]=some (.agg (actC ⟨2,R,N,0,x⟩)):=by
 obtain ⟨g,hg⟩:=Ac9 (l:=bc x) (n:=32) (by rw [Aa5,h])
 unfold actC;simp only [];rw [hg];exact BS7 g 2 R N
theorem Cg5 (i:Nat) (hi:i<=1000000):evBin Try.prog .quo 3 (.int .i64 (i:Int)) (.int .i64 2)=some (.int .i64 ((i / 2:Nat):Int)):=by
 rw [AL6,if_neg (by omega)]
 have:(i:Int).tdiv 2=((i / 2:Nat):Int):=rfl
 rw [this,Ae1 (by omega) (by omega)]
theorem Cg6 (i:Nat):evBin Try.prog .rem 3 (.int .i64 (i:Int)) (.int .i64 2)=some (.int .i64 ((i % 2:Nat):Int)):=by
 rw [AB4,if_neg (by omega)];rfl
theorem BS8 {m:Hp} {w:V} {x:M} (h:eMsg.W m w x):∃ dv iv lv,w=.agg (mc x dv iv lv)/\MsgIn m x dv iv lv:=by
 unfold Enc.W at h
 rw [if_pos (by rfl)]at h
 obtain ⟨cs,rfl,dv,iv,lv,rfl,g⟩:=h
 exact ⟨dv,iv,lv,rfl,g⟩
set_option maxRecDepth 10000 in
set_option maxHeartbeats 32000000 in
theorem AN2 {v:V} {l:List M} (hw:WF A) (h:IsCo X A K fk ft c) (hl:Slc eMsg (qHp (XCo K fk ft) A) v l) (hb:∀ x∈l,RecOk x) (hln:l.length<=1000000000) :
 ∃ u A',EvF Try.prog HH 20 [.ptr K.cb 0,v] A u A'/\∃ fk',CStep X A K fk ft A' fk' ft none (c.Recall l):=by
 refine Aa4 rfl Try.func20 (by unfold Try.f20;rfl) Try.ntmps20 (by unfold Try.f20;rfl) (by simp) ?_
 have hln2:=fun B=>hl.len (P:=Try.prog) Try.underlying34 B
 simp only [RT,Q0,Q1,Q2,Q3,Q4,Q5,Q6,Q7,Q8,hln2]
 refine Aa6 (fun z e B=>∃ (j:Nat) (fk':Option Nat),z=l.length - j/\j<=l.length/\e.get 10=.int .i64 j/\CStep X A K fk ft B fk' ft none (c.Recall (l.take j))/\e.get 0=.ptr K.cb 0/\e.get 8=v/\e.get 9=.int .i64 l.length)
  (fun z e B=>Is z (.exit 0)/\∃ fk',CStep X A K fk ft B fk' ft none (c.Recall l))
  ⟨_,0,fk,rfl,by omega,rfl,.rfl' h,rfl,rfl,rfl⟩ ?_ ?_
 rotate_left
 . rintro z e B hz ⟨rfl, fk', q⟩
   simp only [RT,Q0,Q1,Q2,Q3,Q4,Q5,Q6,Q7,Q8]
   exact ⟨fk',q⟩
 rintro z e B ⟨j,fk',rfl,hj,h10,hS,h0,h8,h9⟩
 simp only [RT,Q0,Q1,Q2,Q3,Q4,Q5,Q6,Q7,Q8,h9,h10]
 refine Aa7 (fun g1=>?_) (fun g1=>?_)
 rotate_left
 . have : j = l.length := by omega
   subst this
   rw [List.take_length]at hS
   simp only [RT,Q0,Q1,Q2,Q3,Q4,Q5,Q6,Q7,Q8]
   exact ⟨rfl,fk',hS⟩
 obtain ⟨x,hx⟩:=Ag4 (l:=l) (i:=j) (by omega)
 have hxm:=List.mem_of_getElem? hx
 have wB:=hS.wf hw
 have hlB:=hl.mono (hS.leK hw)
 obtain ⟨b2,o2,c2,g3,g4,g5⟩:=hlB.at (P:=Try.prog) (k:=.i64) (Af3 _ B) Try.underlying34 Bm9 BO5 hx
 obtain ⟨dv,iv,lv,rfl,hin⟩:=BS8 g5
 obtain ⟨C,e1,e2,e3⟩:=Ay3 hin
 obtain ⟨b5,hb5⟩:∃ b,b=B.blk.length:=⟨_,rfl⟩
 rw [<- hb5]at e1 e3
 have hSC:=hS.then0 e2
 have wC:=e2.wf wB
 have fm:=faM b5
 have lm:=ldM e3 hin.id
 have hwr:IntKind.i64.wrap ((j:Int)+1)=((j+1:Nat):Int):=by rw [Ae4 (by omega)]
 have ne5:b5≠K.cb/\b5≠K.rp:=by have:=hS.co.lt;omega
 have em:c.Recall (l.take (j+1))=Co.recall1 (c.Recall (l.take j)) x:=by unfold Co.Recall;exact As1 hx
 obtain ⟨s,hs⟩:∃ s,s=c.Recall (l.take j):=⟨_,rfl⟩
 rw [<- hs]at hSC em
 clear hS
 obtain ⟨tv,dv0,bl,y1,_⟩:=hSC.co.cm.ex
 have ld:=Aq0 y1
 simp only [RT,Q0,Q1,Q2,Q3,Q4,Q5,Q6,Q7,Q8,h8,h10,g3,g4,zcM,<- hb5,e1]
 rw [BK0,Aa2 (by rfl)]
 by_cases q1:x.height=s.rd.height
 rotate_left
 . simp only [RT, Q0, Q1, Q2, Q3, Q4, Q5, Q6, Q7, Q8, fm, lm, h0, Ao4 K.cb, ld, decide_eq_true (show ¬ x.height = s.rd.height from q1), h10, hwr]
   refine ⟨l.length - (j+1),by omega,j+1,fk',rfl,by omega,?_⟩
   have e:Co.recall1 s x=s:=by unfold Co.recall1;rw [if_pos q1]
   rw [em,e]
   and_intros <;> first | rfl | assumption
 simp only [RT,Q0,Q1,Q2,Q3,Q4,Q5,Q6,Q7,Q8,fm,lm,h0,Ao4 K.cb,ld,decide_eq_false (show ¬ ¬ x.height=s.rd.height from fun z=>z q1)]
 have hinC:=hin.mono (Ad8 e2)
 have hrd:=hSC.co.rd
 by_cases k3:x.kind=3
 . obtain ⟨D, m1, m2⟩ := hSC.co.have_ wC (Af3 _ C) hinC.data (hb x hxm).2
   have wD:=m2.wf wC
   have rD:=m2.fr.row _ _ e3 (TM.box e3 (by rintro (q | q);exact ne5.1 q;exact ne5.2 q))
   have lmD:=ldM rD hin.id
   obtain ⟨tvD,dvD,blD,yD,_⟩:=m2.co.cm.ex
   have ldD:=Aq0 yD
   have hr:=m2.co.rng
   obtain ⟨u1,E,n1,n2⟩:=Av1 wD m2.co.rd hr (Ad6 x.data)
   have hrm:=hr.remember (batchI x.data)
   obtain ⟨fkE,n3⟩:=m2.co.giveS wD n2 (Ap0 _ _) hrm.1 (hrm.2.trans m2.co.acts)
   have wE:=n3.wf wD
   have rE:=n3.fr.row _ _ rD (TM.box rD (by rintro (q | q);exact ne5.1 q;exact ne5.2 q))
   have lmE:=ldM rE hin.id
   obtain ⟨tvE,dvE,blE,yE,_⟩:=n3.co.cm.ex
   have ldE:=Aq0 yE
   have hinE:=(hinC.mono (m2.leK wC)).mono (n3.leK wD)
   obtain ⟨_,F,o1,o2,rfl⟩:=Ay2 wE (Af3 _ E) hinE.data (by have:=(hb x hxm).2;omega)
   have n4:=n3.then0 o2
   have wF:=o2.wf wE
   have lmF:=ldM (o2.row0 rE) hin.id
   have ldF:=Aq0 (o2.row0 yE)
   have hrF:=n4.co.rng
   obtain ⟨u2,G,p1,p2⟩:=AD8 wF n4.co.rd hrF (a:=⟨1,x.round,0,x.valid,batchI x.data⟩) (Ad6 x.data)
   have hrc:=hrF.recall ⟨1,x.round,0,x.valid,batchI x.data⟩
   obtain ⟨fkG,p3⟩:=n4.co.giveS wF p2 (Am8 _ _) hrc.1 (hrc.2.trans n4.co.acts)
   have p4:=hSC.next hw (m2.next wC (n4.next wD p3 (fo:=none) (fun f q=>by cases q)) (fo:=none) (fun f q=>by cases q)) (fo:=none) (fun f q=>by cases q)
   simp only [RT,Q0,Q1,Q2,Q3,Q4,Q5,Q6,Q7,Q8,decide_eq_true k3,BK1,Aa1,h0,Ao4 K.cb,ld,fm,lm]
   refine Aa0 m1 ?_
   simp only [RT,Q0,Q1,Q2,Q3,Q4,Q5,Q6,Q7,Q8,Aa1]
   refine ⟨Aa3 (ha:=rfl) rfl ldD.1 rfl Aa1,?_⟩
   refine Aa0 n1 ?_
   simp only [RT,Q0,Q1,Q2,Q3,Q4,Q5,Q6,Q7,Q8,BK2,Aa1,h0,Ao4 K.cb,ldE,fm,lmE]
   refine Aa0 o1 ?_
   simp only [RT,Q0,Q1,Q2,Q3,Q4,Q5,Q6,Q7,Q8,Aa1]
   refine ⟨Aa3 (ha:=rfl) rfl ldF.1 rfl (Aa3 (ha:=rfl) rfl lmF.2.2.2.1 rfl (Aa3 (ha:=rfl) rfl lmF.2.2.2.2.1 rfl Aa1)),?_⟩
   simp only [RT,Q0,Q1,Q2,Q3,Q4,Q5,Q6,Q7,Q8,B65 (Ad6 x.data),Aa1]
   refine Aa0 p1 ?_
   simp only [RT,Q0,Q1,Q2,Q3,Q4,Q5,Q6,Q7,Q8,Aa1,h10,hwr]
   refine ⟨l.length - (j+1),by omega,j+1,fkG,rfl,by omega,?_⟩
   have e:Co.recall1 s x=s.recP x:=by unfold Co.recall1;rw [if_neg (fun z=>z q1),if_pos k3]
   rw [em,e]
   and_intros <;> first | rfl | assumption
 by_cases k4:x.kind=4
 rotate_left
 . simp only [RT, Q0, Q1, Q2, Q3, Q4, Q5, Q6, Q7, Q8, decide_eq_false k3, decide_eq_false k4, h10, hwr]
   refine ⟨l.length - (j+1),by omega,j+1,fk',rfl,by omega,?_⟩
   have e:Co.recall1 s x=s:=by unfold Co.recall1;rw [if_neg (fun z=>z q1),if_neg k3,if_neg k4]
   rw [em,e]
   and_intros <;> first | rfl | assumption
 have e:Co.recall1 s x={ s with rd:=recS s.rd x.ids }:=by unfold Co.recall1;rw [if_neg (fun z=>z q1),if_neg k3,if_pos k4]
 rw [e]at em
 have hil:=fun B=>hinC.ids.len (P:=Try.prog) Try.underlying25 B
 have hib:=(hb x hxm).1
 simp only [RT,Q0,Q1,Q2,Q3,Q4,Q5,Q6,Q7,Q8,decide_eq_false k3,decide_eq_true k4,fm,lm,hil]
 refine Aa6 (fun z e B=>∃ (i:Nat) (fk2:Option Nat),z=x.ids.length - i/\i<=x.ids.length/\e.get 52=.int .i64 i/\CStep X A K fk ft B fk2 ft none { s with rd:=recI s.rd x.ids i }/\(qHp (XCo K fk' ft) C).le (qHp (XCo K fk2 ft) B)/\e.get 0=.ptr K.cb 0/\e.get 8=v/\e.get 9=.int .i64 l.length/\e.get 10=.int .i64 j/\e.get 50=iv/\e.get 51=.int .i64 x.ids.length)
  (fun z e B=>Is z (.exit 3)/\∃ fk',CStep X A K fk ft B fk' ft none { s with rd:=recS s.rd x.ids }/\e.get 0=.ptr K.cb 0/\e.get 8=v/\e.get 9=.int .i64 l.length/\e.get 10=.int .i64 j)
  ⟨_,0,fk',rfl,by omega,rfl,hSC,Hp.le_refl _,h0,h8,h9,h10,rfl,rfl⟩ ?_ ?_
 rotate_left
 . rintro z e B' hz ⟨rfl, fk2, hS2, h0, h8, h9, h10⟩
   simp only [RT,Q0,Q1,Q2,Q3,Q4,Q5,Q6,Q7,Q8,h10,hwr]
   refine ⟨l.length - (j+1),by omega,j+1,fk2,rfl,by omega,?_⟩
   rw [em]
   and_intros <;> first | rfl | assumption
 rintro z e B' ⟨i,fk2,rfl,hi,h52,hS2,hle,h0,h8,h9,h10,h50,h51⟩
 simp only [RT,Q0,Q1,Q2,Q3,Q4,Q5,Q6,Q7,Q8,h51,h52]
 refine Aa7 (fun g2=>?_) (fun g2=>?_)
 rotate_left
 . have : i = x.ids.length := by omega
   subst this
   simp only [RT,Q0,Q1,Q2,Q3,Q4,Q5,Q6,Q7,Q8]
   refine ⟨rfl,fk2,?_⟩
   and_intros <;> first | rfl | assumption
 obtain ⟨id,hid⟩:=Ag4 (l:=x.ids) (i:=i) (by omega)
 have hgd:(x.ids[i]?).getD z32=id:=by rw [hid];rfl
 have w2:=hS2.wf hw
 obtain ⟨b3,o3,c3,t3,t4,t5⟩:=(hinC.ids.mono hle).at (P:=Try.prog) (k:=.i64) (Af3 _ B') Try.underlying25 AH3 AX5 hid
 obtain ⟨rfl,hidl⟩:=BA3.1 t5
 obtain ⟨E,x1,x2,x3⟩:=BR3 (A:=B') id hidl
 have hSE:=hS2.then0 x2
 have wE:=x2.wf w2
 have l3:=ldI x3 hidl
 obtain ⟨tvE,dvE,blE,yE,_⟩:=hSE.co.cm.ex
 have ldE:=Aq0 yE
 have hrE:=hSE.co.rng
 obtain ⟨u2,G,p1,p2⟩:=AD8 wE hSE.co.rd hrE (a:=⟨2,((i / 2:Nat):Int),((i % 2:Nat):Int),0,id⟩) hidl
 have hrc:=hrE.recall ⟨2,((i / 2:Nat):Int),((i % 2:Nat):Int),0,id⟩
 obtain ⟨fkG,p3⟩:=hSE.co.giveS wE p2 (Am8 _ _) hrc.1 (hrc.2.trans hSE.co.acts)
 have p4:=hSE.next hw p3 (fo:=none) (fun f q=>by cases q)
 have hle2:(qHp (XCo K fk' ft) C).le (qHp (XCo K fkG ft) G):=Hp.le_trans (Hp.le_trans hle (Ad8 x2)) (p3.leK wE)
 have hwi:IntKind.i64.wrap ((i:Int)+1)=((i+1:Nat):Int):=by rw [Ae4 (by omega)]
 have ei:recI s.rd x.ids (i+1)=(recI s.rd x.ids i).Recall ⟨2,((i / 2:Nat):Int),((i % 2:Nat):Int),0,id⟩:=by rw [Aq6,rec1,hgd]
 simp only [RT,Q0,Q1,Q2,Q3,Q4,Q5,Q6,Q7,Q8,h50,h52,t3,t4,Bb8,x1]
 rw [Bw4,Aa2 (by rfl)]
 simp only [RT,Q0,Q1,Q2,Q3,Q4,Q5,Q6,Q7,Q8,h0,Ao4 K.cb,ldE,Cg5 i (by omega),Cg6 i,l3,B66 hidl]
 refine Aa0 p1 ?_
 simp only [RT,Q0,Q1,Q2,Q3,Q4,Q5,Q6,Q7,Q8,h52,hwi]
 refine ⟨x.ids.length - (i+1),by omega,i+1,fkG,rfl,by omega,?_⟩
 rw [ei]
 and_intros <;> first | rfl | assumption
end
end Go.Sv.Try
namespace Go.Sv
open Go
def Co.hear1 (w:Int) (ids:List Bts) (s:Co×List Act) (i:Nat):Co×List Act :=
 if (ids[i]?).getD z32=z32∨getV s.1.rd.n s.1.rd.v ((i / 2:Nat):Int) ((i % 2:Nat):Int) w≠z32 then s
 else ({ s.1 with rd:=(s.1.rd.Voted ((i / 2:Nat):Int) ((i % 2:Nat):Int) w ((ids[i]?).getD z32)).1 },s.2++(s.1.rd.Voted ((i / 2:Nat):Int) ((i % 2:Nat):Int) w ((ids[i]?).getD z32)).2)
theorem Cg7 {P:Program} {kt:TypeId} (hs:shapeT P 50 kt=some [.int .i64]) (ha:aggT P kt=some false):KeyT P kt encW where
 ok:=fun k es h=>by
  unfold keyOk
  simp only [hs,ha,encW]
  rw [Bool.and_eq_true,Bool.and_eq_true]
  refine ⟨⟨rfl,AA1 fun e he=>?_⟩,List.all_eq_true.2 fun e he=>?_⟩
  . obtain ⟨a,q⟩:=h e he;rw [q];rfl
  . obtain ⟨a,q⟩:=h e he;rw [q];rfl
 eq:=fun a b=>by
  show (IntKind.i64 == IntKind.i64 && a == b)=_
  by_cases h:a=b <;> simp [h]
def Co.hearI (c:Co) (w:Int) (ids:List Bts) (i:Nat):Co×List Act:=(List.range i).foldl (Co.hear1 w ids) (c,[])
def Co.hearS (c:Co) (w:Int) (ids:List Bts):Co×List Act:=c.hearI w ids (min ids.length 24)
def Co.hearP (c:Co) (x:M):Co×List Act :=
 ({ (c.learn x.data).1 with rd:=((c.learn x.data).1.rd.Offered x.round x.valid (batchI x.data)).1 },(c.learn x.data).2++((c.learn x.data).1.rd.Offered x.round x.valid (batchI x.data)).2)
def Co.hearV (c:Co) (w:Int) (x:M):Co×List Act:=Co.learn { c with gave:=c.gave++[w] } x.data
def Co.deaf (c:Co) (w:Int) (x:M):Prop:=x.height≠c.rd.height∨w < 0∨w >= c.rd.n∨w=c.rd.me∨x.data.length > 4096
instance (c:Co) (w:Int) (x:M):Decidable (c.deaf w x):=by unfold Co.deaf;infer_instance
def Co.dull (c:Co) (w:Int) (x:M):Prop:=x.round < 0∨x.round >= 12∨proposer c.rd.n c.rd.height x.round≠w∨(offI c.rd x.round).there=true
instance (c:Co) (w:Int) (x:M):Decidable (c.dull w x):=by unfold Co.dull;infer_instance
def Co.Hear (c:Co) (w:Int) (x:M):Co×List M :=
 if c.deaf w x then (c,[])
 else if x.kind=3 then (if c.dull w x then (c,[]) else (c.hearP x).1.act (c.hearP x).2)
 else if x.kind=4 then (c.hearS w x.ids).1.act (c.hearS w x.ids).2
 else if x.kind=5 then (if w∈c.gave then (c,[]) else (c.hearV w x).1.act (c.hearV w x).2)
 else c.act []
end Go.Sv
namespace Go.Sv.Try
open Go Go.Proofs
section
variable {r:Rd}
theorem Rng.Offered (h:Rng r) (R v:Int) (id:Bts):Rng (r.Offered R v id).1/\(r.Offered R v id).2.length<=r.acts.length+2000/\(r.Offered R v id).1.acts=[]:=by
 unfold Rd.Offered
 split
 . rename_i q
   have k:Rng { r with offers:=set1 r.offers R.toNat ⟨true,v,id⟩ }:={ h with offers:=Am5 h.offers ⟨q.2.2.1,by show v<=1000;have:=q.2.1;have:=q.2.2.2.1;omega⟩ }
   exact ⟨k.settle,k.setLen,rfl⟩
 . exact ⟨h.settle,h.setLen,rfl⟩
theorem Rng.Voted (h:Rng r) (R K W:Int) (id:Bts):Rng (r.Voted R K W id).1/\(r.Voted R K W id).2.length<=r.acts.length+2000/\(r.Voted R K W id).1.acts=[]:=by
 unfold Rd.Voted
 split
 . have k : Rng { r with v := putV r.n r.v R K W id } := { h with }
   exact ⟨k.settle,k.setLen,rfl⟩
 . exact ⟨h.settle,h.setLen,rfl⟩
end
section
variable {X Y:Nat->Prop} {A B C:AS} {K:CoK} {c c1 c2:Co} {fk ft fk1 ft1 fk2 ft2 fo fo2:Option Nat}
theorem Cc7 (i:Nat) (hi:i<=1000000):evBin Try.prog .quo 3 (.int .i64 (i:Int)) (.int .i64 2)=some (.int .i64 ((i / 2:Nat):Int)):=by
 rw [AL6,if_neg (by omega)]
 have:(i:Int).tdiv 2=((i / 2:Nat):Int):=rfl
 rw [this,Ae1 (by omega) (by omega)]
theorem Cc8 (i:Nat):evBin Try.prog .rem 3 (.int .i64 (i:Int)) (.int .i64 2)=some (.int .i64 ((i % 2:Nat):Int)):=by
 rw [AB4,if_neg (by omega)];rfl
theorem BS9:KeyT Try.prog 3 encW:=Cg7 (by kernel_rfl) ag3
theorem Bz5:mapT Try.prog 72=some (3,4):=by kernel_rfl
theorem B67:zeroT Try.prog 4=some (.bool false):=by kernel_rfl
theorem BT0 (g:Nat->V) (b:Bool) (v:Int):evField Try.prog 85 (.agg (.bool b::.int .i64 v::(List.range 32).map g)) 0=some (.bool b):=by kernel_rfl
theorem BT1 {o:Ofr} (h:o.id.length=32):evField Try.prog 85 (.agg (offC o)) 0=some (.bool o.there):=by
 obtain ⟨g,hg⟩:=Ac9 (l:=bc o.id) (n:=32) (by rw [Aa5,h])
 unfold offC;rw [hg];exact BT0 g _ _
theorem AE4 (w:Int):∀ l:List Int,lookL (l.map fun w=>(w,true)) w=if w∈l then some true else none
 | []=>rfl
 | a::l=>by
  show (if w=a then some true else lookL (l.map fun w=>(w,true)) w)=_
  by_cases q:w=a
  . rw [if_pos q,if_pos (by simp [q])]
  . rw [if_neg q,AE4 w l];simp [q]
theorem IsCo.gave (hw:WF A) (h:IsCo X A K fk ft c) {w:Int} (hn:¬ w∈c.gave):∃ A',evMapUpdate Try.prog 72 (.map K.mg) (.int .i64 w) (.bool true) A=some A'/\CStep X A K fk ft A' fk ft none { c with gave:=c.gave++[w] }:=by
 obtain ⟨tv,dv,bl,x1,x2,x3,x4,x5,x6⟩:=h.cm.ex
 obtain ⟨A',k1,k2,k3⟩:=h.cm.gv.put (P:=Try.prog) BS9 Bz5 (k:=w) true (by rw [AE4,if_neg hn])
 refine ⟨A',k1,h.cstep (c1:={ c with gave:=c.gave++[w] }) hw k2 (fun x q=>by subst q;exact .inr rfl) .rfl' rfl (fun Y hle=>⟨⟨tv,dv,bl,k2.row _ _ x1 (fun q=>by cases q),x2.fr k2 (fun b q=>by cases q),x3.fr k2 (fun q=>h.cm.mm (by injection q)),x4,fun p q=>⟨(x5 p q).1.mono hle,(x5 p q).2⟩,x6.mono hle⟩,?_,h.cm.mm⟩) { h.lim with } (fun f q=>Nat.lt_of_lt_of_le (x2.famLt f q) k2.len)⟩
 show MapIs A' K.mg encW V.bool ((c.gave++[w]).map fun w=>(w,true))
 rw [List.map_append];exact k3
theorem A93 (c:Co) (w:Int) (ids:List Bts) (i:Nat):c.hearI w ids (i+1)=Co.hear1 w ids (c.hearI w ids i) i:=by
 unfold Co.hearI;rw [List.range_succ,List.foldl_append];rfl
set_option maxRecDepth 10000 in
set_option maxHeartbeats 32000000 in
theorem AE5 {x:M} {dv iv lv:V} {w:Int} (hw:WF A) (h:IsCo X A K fk ft c) (hx:MsgIn (qHp X A) x dv iv lv) (hil:x.ids.length<=1000000) (hdl:x.data.length<=1000000000) :
 ∃ u A',EvF Try.prog HH 10 [.ptr K.cb 0,.int .i64 w,.agg (mc x dv iv lv)] A u A'/\MRes X A K fk ft A' (c.Hear w x) u:=by
 refine Aa4 rfl Try.func10 (by unfold Try.f10;rfl) Try.ntmps10 (by unfold Try.f10;rfl) (by simp) ?_
 obtain ⟨A1,e1,f1,r1,n1⟩:=Aa9 A (mc x dv iv lv)
 obtain ⟨b5,hb5⟩:∃ b,b=A.blk.length:=⟨_,rfl⟩
 rw [<- hb5]at r1 n1
 have h1:=h.fr0 f1
 have w1:=f1.wf hw
 obtain ⟨tv,dv0,bl,y1,_⟩:=h1.cm.ex
 have ld:=Aq0 y1
 have lm:=ldM r1 hx.id
 have fm:=faM b5
 have hln:=fun B=>hx.data.len (P:=Try.prog) Try.underlying24 B
 have hx1:=hx.mono (Ad8 f1)
 unfold Co.Hear
 simp only [RT,Q0,Q1,Q2,Q3,Q4,Q5,Q6,Q7,Q8,<- hb5,<- e1]
 rw [BJ1,Aa2 (by rfl)]
 by_cases q1:x.height=c.rd.height
 rotate_left
 . simp only [RT, Q0, Q1, Q2, Q3, Q4, Q5, Q6, Q7, Q8, fm, lm, Ao4 K.cb, ld, decide_eq_true (show ¬ x.height = c.rd.height from q1)]
   rw [if_pos (.inl q1)]
   exact .nil h f1
 by_cases q2:w < 0
 . simp only [RT, Q0, Q1, Q2, Q3, Q4, Q5, Q6, Q7, Q8, fm, lm, Ao4 K.cb, ld, decide_eq_false (show ¬ ¬ x.height = c.rd.height from fun z => z q1), decide_eq_true q2]
   rw [if_pos (.inr (.inl q2))]
   exact .nil h f1
 by_cases q3:w >= c.rd.n
 . simp only [RT, Q0, Q1, Q2, Q3, Q4, Q5, Q6, Q7, Q8, fm, lm, Ao4 K.cb, ld, decide_eq_false (show ¬ ¬ x.height = c.rd.height from fun z => z q1), decide_eq_false q2, decide_eq_true q3]
   rw [if_pos (.inr (.inr (.inl q3)))]
   exact .nil h f1
 by_cases q4:w=c.rd.me
 . simp only [RT, Q0, Q1, Q2, Q3, Q4, Q5, Q6, Q7, Q8, fm, lm, Ao4 K.cb, ld, decide_eq_false (show ¬ ¬ x.height = c.rd.height from fun z => z q1), decide_eq_false q2, decide_eq_false q3, decide_eq_true q4]
   rw [if_pos (.inr (.inr (.inr (.inl q4))))]
   exact .nil h f1
 by_cases q5:x.data.length > 4096
 . simp only [RT, Q0, Q1, Q2, Q3, Q4, Q5, Q6, Q7, Q8, fm, lm, Ao4 K.cb, ld, decide_eq_false (show ¬ ¬ x.height = c.rd.height from fun z => z q1), decide_eq_false q2, decide_eq_false q3, decide_eq_false q4, hln, decide_eq_true (show (x.data.length : Int) > 4096 by omega)]
   rw [if_pos (.inr (.inr (.inr (.inr q5))))]
   exact .nil h f1
 simp only [RT,Q0,Q1,Q2,Q3,Q4,Q5,Q6,Q7,Q8,fm,lm,Ao4 K.cb,ld,decide_eq_false (show ¬ ¬ x.height=c.rd.height from fun z=>z q1),decide_eq_false q2,decide_eq_false q3,decide_eq_false q4,hln,decide_eq_false (show ¬ (x.data.length:Int) > 4096 by omega)]
 rw [if_neg (show ¬ c.deaf w x from fun z=>by
  rcases z with z | z | z | z | z
  . exact z q1
  . exact q2 z
  . exact q3 z
  . exact q4 z
  . exact q5 z)]
 by_cases k3:x.kind=3
 . rw [if_pos k3]
   have hn:(c.rd.n:Int)<=7/\(0:Int)<=c.rd.n:=by have:=h.rd.cnt.ok;unfold okN at this;omega
   simp only [RT,Q0,Q1,Q2,Q3,Q4,Q5,Q6,Q7,Q8,decide_eq_true k3]
   by_cases p1:x.round < 0
   . simp only [RT, Q0, Q1, Q2, Q3, Q4, Q5, Q6, Q7, Q8, A29, Aa1, fm, lm, decide_eq_true p1]
     rw [if_pos (.inl p1)]
     exact .nil h f1
   by_cases p2:x.round >= 12
   . simp only [RT, Q0, Q1, Q2, Q3, Q4, Q5, Q6, Q7, Q8, A29, Aa1, fm, lm, decide_eq_false p1, decide_eq_true p2]
     rw [if_pos (.inr (.inl p2))]
     exact .nil h f1
   obtain ⟨_,A1',z1,z2,rfl⟩:=Ao8 (A:=A1) (n:=c.rd.n) (h:=c.rd.height) (k:=x.round) hn.1 hn.2 (by have:=h.rng.height;omega) h.rng.height.2 (by omega) (by omega)
   rw [z2]at z1
   simp only [RT,Q0,Q1,Q2,Q3,Q4,Q5,Q6,Q7,Q8,A29,fm,lm,decide_eq_false p1,decide_eq_false p2,Ao4 K.cb,ld,Aa1]
   refine Aa0 z1 ?_
   by_cases p3:proposer c.rd.n c.rd.height x.round=w
   rotate_left
   . simp only [RT, Q0, Q1, Q2, Q3, Q4, Q5, Q6, Q7, Q8, decide_eq_true (show ¬ proposer c.rd.n c.rd.height x.round = w from p3), Aa1]
     rw [if_pos (.inr (.inr (.inl p3)))]
     exact .nil h f1
   obtain ⟨_,A2,m1,m2,rfl⟩:=AE1 w1 h1.rd x.round
   have h2:=h1.fr0 m2
   have w2:=m2.wf w1
   have fA2:=f1.then0 m2
   have lm2:=ldM (m2.row0 r1) hx.id
   have ld2:=Aq0 (m2.row0 y1)
   simp only [RT,Q0,Q1,Q2,Q3,Q4,Q5,Q6,Q7,Q8,decide_eq_false (show ¬ ¬ proposer c.rd.n c.rd.height x.round=w from fun z=>z p3),Aa1,Ao4 K.cb,ld,fm,lm]
   refine Aa0 m1 ?_
   cases p4:(offI c.rd x.round).there with
   | true =>
    simp only [RT,Q0,Q1,Q2,Q3,Q4,Q5,Q6,Q7,Q8,BT1 (AC4 h.rd.ok x.round),p4,Aa1]
    rw [if_pos (.inr (.inr (.inr p4)))]
    exact .nil h fA2
   | false =>
    rw [if_neg (show ¬ c.dull w x from fun z=>by
     rcases z with z | z | z | z
     . exact p1 z
     . exact p2 z
     . exact z p3
     . rw [p4]at z;cases z)]
    have hx2:=hx1.mono (Ad8 m2)
    obtain ⟨u3,A3,s1,fk3,fo3,s2,s3⟩:=Ay4 w2 h2 (Af3 X A2) hx2.data (by omega)
    have w3:=s2.wf w2
    have r3:=s2.fr.row _ _ (m2.row0 r1) (TM.box (m2.row0 r1) (by have:=h.lt;omega))
    have lm3:=ldM r3 hx.id
    obtain ⟨tv3,dv3,bl3,y3,_⟩:=s2.co.cm.ex
    have ld3:=Aq0 y3
    obtain ⟨_,A4,t1,t2,rfl⟩:=Ay2 w3 (Af3 _ A3) (hx2.data.mono s2.le) (by omega)
    have s4:=s2.then0 t2
    have w4:=s4.wf w2
    have lm4:=ldM (t2.row0 r3) hx.id
    have ld4:=Aq0 (t2.row0 y3)
    have hr:=s4.co.rng
    obtain ⟨u5,A5,v1,v2⟩:=AR2 w4 s4.co.rd hr (by rw [s4.co.acts];simp) (R:=x.round) (val:=x.valid) (Ad6 x.data)
    have hO:=hr.Offered x.round x.valid (batchI x.data)
    rw [s4.co.acts]at hO
    obtain ⟨fk5,fo5,o1,o2⟩:=s4.co.give w4 v2 (A87 _ _ _ _) hO.1 hO.2.2
    have hll:(c.learn x.data).2.length<=2000:=by
     have:=(h.rng.Know (batchI x.data)).2.1
     rw [h.acts]at this;exact this
    have hl2:((c.learn x.data).1.rd.Offered x.round x.valid (batchI x.data)).2.length<=2000:=hO.2.1
    obtain ⟨u6,A6,fo6,j1,j2,j3⟩:=s4.more w2 (s3.fr0 t2) o1 o2 (by omega)
    obtain ⟨u7,A7,j4,j5⟩:=j2.act w2 j3 (by rw [List.length_append];omega)
    simp only [RT,Q0,Q1,Q2,Q3,Q4,Q5,Q6,Q7,Q8,BT1 (AC4 h.rd.ok x.round),p4,Aa1,BJ2,fm,lm2,Ao4 K.cb,ld2]
    refine Aa0 s1 ?_
    simp only [RT,Q0,Q1,Q2,Q3,Q4,Q5,Q6,Q7,Q8,Aa1]
    refine ⟨Aa3 (ha:=rfl) rfl ld3.1 rfl (Aa3 (ha:=rfl) rfl lm3.2.2.2.1 rfl (Aa3 (ha:=rfl) rfl lm3.2.2.2.2.1 rfl (Aa3 (ha:=rfl) rfl lm3.2.2.2.2.2.2.2.1 rfl Aa1))),?_⟩
    refine Aa0 t1 ?_
    simp only [RT,Q0,Q1,Q2,Q3,Q4,Q5,Q6,Q7,Q8,Aa1]
    refine ⟨Aa3 (ha:=rfl) rfl ld4.1 rfl (Aa3 (ha:=rfl) rfl lm4.2.2.2.1 rfl (Aa3 (ha:=rfl) rfl lm4.2.2.2.2.1 rfl Aa1)),?_⟩
    refine Aa0 v1 ?_
    simp only [RT,Q0,Q1,Q2,Q3,Q4,Q5,Q6,Q7,Q8,Aa1,j1]
    refine Aa0 j4 ?_
    simp only [RT,Q0,Q1,Q2,Q3,Q4,Q5,Q6,Q7,Q8]
    exact j5.next0 hw fA2
 rw [if_neg k3]
 by_cases k4:x.kind=4
 . rw [if_pos k4]
   have hiln:=fun B=>hx.ids.len (P:=Try.prog) Try.underlying25 B
   simp only [RT,Q0,Q1,Q2,Q3,Q4,Q5,Q6,Q7,Q8,decide_eq_false k3,decide_eq_true k4,fm,lm,hiln]
   have hS1:CStep X A K fk ft A1 fk ft none c:=.of0 h f1
   refine Aa6 (fun z e B=>∃ (i:Nat) (u:V) (fk' fo:Option Nat),z=x.ids.length - i/\i<=x.ids.length/\i<=24/\e.get 102=.int .i64 i/\CStep X A K fk ft B fk' ft fo (c.hearI w x.ids i).1/\Lst eAct Hp.emp B u (c.hearI w x.ids i).2 fo/\(c.hearI w x.ids i).2.length<=2000 * i/\e.get 0=.ptr K.cb 0/\e.get 1=.int .i64 w/\e.get 7=u/\e.get 100=iv/\e.get 101=.int .i64 x.ids.length)
    (fun z e B=>Is z (.exit 1)/\∃ (u:V) (fk' fo:Option Nat),CStep X A K fk ft B fk' ft fo (c.hearS w x.ids).1/\Lst eAct Hp.emp B u (c.hearS w x.ids).2 fo/\(c.hearS w x.ids).2.length<=48000/\e.get 0=.ptr K.cb 0/\e.get 7=u)
    ⟨_,0,.snil,fk,none,rfl,by omega,by omega,rfl,hS1,.nil,by simp [Co.hearI],rfl,rfl,rfl,rfl,rfl⟩ ?_ ?_
   rotate_left
   . rintro z e B hz ⟨rfl, u, fk', fo, hS, hL, hl, h0, h7⟩
     obtain ⟨u7,A7,j4,j5⟩:=hS.act hw hL (by omega)
     simp only [RT,Q0,Q1,Q2,Q3,Q4,Q5,Q6,Q7,Q8,h0,h7]
     refine Aa0 j4 ?_
     simp only [RT,Q0,Q1,Q2,Q3,Q4,Q5,Q6,Q7,Q8]
     exact j5
   rintro z e B ⟨i,u,fk',fo,rfl,hi,hi24,h102,hS,hL,hl,h0,h1',h7,h100,h101⟩
   simp only [RT,Q0,Q1,Q2,Q3,Q4,Q5,Q6,Q7,Q8,h101,h102]
   refine Aa7 (fun g1=>?_) (fun g1=>?_)
   rotate_left
   . have : i = x.ids.length := by omega
     subst this
     have e:c.hearS w x.ids=c.hearI w x.ids x.ids.length:=by unfold Co.hearS;rw [Nat.min_eq_left (by omega)]
     rw [<- e]at hS hL hl
     have hl2:(c.hearS w x.ids).2.length<=48000:=by omega
     simp only [RT,Q0,Q1,Q2,Q3,Q4,Q5,Q6,Q7,Q8]
     refine ⟨rfl,u,fk',fo,?_⟩
     and_intros <;> first | rfl | assumption
   obtain ⟨id,hid⟩:=Ag4 (l:=x.ids) (i:=i) (by omega)
   have hgd:(x.ids[i]?).getD z32=id:=by rw [hid];rfl
   have wB:=hS.wf hw
   have hxB:=hx.ids.mono hS.le
   obtain ⟨b2,o2,c2,g3,g4,g5⟩:=hxB.at (P:=Try.prog) (k:=.i64) (Af3 _ B) Try.underlying25 AH3 AX5 hid
   obtain ⟨rfl,hidl⟩:=BA3.1 g5
   obtain ⟨E,e1,e2,e3⟩:=BR3 (A:=B) id hidl
   have hSE:=hS.then0 e2
   have wE:=e2.wf wB
   have hLE:=hL.fr0 e2
   have hwr:IntKind.i64.wrap ((i:Int)+1)=((i+1:Nat):Int):=by rw [Ae4 (by omega)]
   have em:=A93 c w x.ids i
   obtain ⟨s,hs⟩:∃ s,s=c.hearI w x.ids i:=⟨_,rfl⟩
   have e24:i=24->c.hearS w x.ids=s:=fun q=>by rw [hs];unfold Co.hearS;rw [Nat.min_eq_right (by omega),q]
   rw [<- hs]at hSE hLE hl em
   clear hS hL
   simp only [RT,Q0,Q1,Q2,Q3,Q4,Q5,Q6,Q7,Q8,h100,h102,g3,g4,Bb8,e1]
   by_cases c24:i >= 24
   . simp only [RT, Q0, Q1, Q2, Q3, Q4, Q5, Q6, Q7, Q8, decide_eq_true (show (i : Int) >= 24 by omega)]
     have hl2:s.2.length<=48000:=by omega
     rw [e24 (by omega)]
     refine ⟨rfl,u,fk',fo,?_⟩
     and_intros <;> first | rfl | assumption
   have l3:=ldI e3 hidl
   by_cases cz:id=z32
   . simp only [RT, Q0, Q1, Q2, Q3, Q4, Q5, Q6, Q7, Q8, decide_eq_false (show ¬ (i : Int) >= 24 by omega), l3, Am4, eqZ hidl Ab2, decide_eq_true cz, h102, hwr]
     refine ⟨x.ids.length - (i+1),by omega,i+1,u,fk',fo,rfl,by omega,by omega,?_⟩
     have e1:Co.hear1 w x.ids s i=s:=by unfold Co.hear1;rw [if_pos (.inl (by rw [hgd,cz]))]
     rw [em,e1]
     have hl2:s.2.length<=2000 * (i+1):=by omega
     and_intros <;> first | rfl | assumption
   obtain ⟨tvE,dvE,blE,yE,_⟩:=hSE.co.cm.ex
   have ldE:=Aq0 yE
   obtain ⟨_,F,m1,m2,rfl⟩:=A84 wE hSE.co.rd ((i / 2:Nat):Int) ((i % 2:Nat):Int) w
   have hSF:=hSE.then0 m2
   have hLF:=hLE.fr0 m2
   have wF:=m2.wf wE
   have hgl:(getV s.1.rd.n s.1.rd.v ((i / 2:Nat):Int) ((i % 2:Nat):Int) w).length=32:=Ao7 hSE.co.rd.cnt.len _ _ _
   simp only [RT,Q0,Q1,Q2,Q3,Q4,Q5,Q6,Q7,Q8,decide_eq_false (show ¬ (i:Int) >= 24 by omega),l3,Am4,eqZ hidl Ab2,decide_eq_false cz,h0,h1',Ao4 K.cb,ldE,Cc7 i (by omega),Cc8 i]
   refine Aa0 m1 ?_
   by_cases cv:getV s.1.rd.n s.1.rd.v ((i / 2:Nat):Int) ((i % 2:Nat):Int) w=z32
   rotate_left
   . simp only [RT, Q0, Q1, Q2, Q3, Q4, Q5, Q6, Q7, Q8, Am4, eqZ hgl Ab2, decide_eq_false cv, h102, hwr]
     refine ⟨x.ids.length - (i+1),by omega,i+1,u,fk',fo,rfl,by omega,by omega,?_⟩
     have e1:Co.hear1 w x.ids s i=s:=by unfold Co.hear1;rw [if_pos (.inr cv)]
     rw [em,e1]
     have hl2:s.2.length<=2000 * (i+1):=by omega
     and_intros <;> first | rfl | assumption
   have e1:Co.hear1 w x.ids s i=({ s.1 with rd:=(s.1.rd.Voted ((i / 2:Nat):Int) ((i % 2:Nat):Int) w id).1 },s.2++(s.1.rd.Voted ((i / 2:Nat):Int) ((i % 2:Nat):Int) w id).2):=by
    unfold Co.hear1;rw [hgd,if_neg (fun z=>z.elim cz (fun z=>z cv))]
   have hr:=hSF.co.rng
   obtain ⟨u5,G,v1,v2⟩:=A73 wF hSF.co.rd hr (by rw [hSF.co.acts];simp) (R:=((i / 2:Nat):Int)) (K:=((i % 2:Nat):Int)) (W:=w) hidl
   have hO:=hr.Voted ((i / 2:Nat):Int) ((i % 2:Nat):Int) w id
   rw [hSF.co.acts]at hO
   obtain ⟨fk5,fo5,o1,o2⟩:=hSF.co.give wF v2 (Bp2 _ _ _ _ _) hO.1 hO.2.2
   have hO2:(s.1.rd.Voted ((i / 2:Nat):Int) ((i % 2:Nat):Int) w id).2.length<=2000:=hO.2.1
   obtain ⟨u6,J,fo6,j1,j2,j3⟩:=hSF.more hw hLF o1 o2 (by omega)
   have ldF:=Aq0 (m2.row0 yE)
   have l3F:=ldI (m2.row0 e3) hidl
   simp only [RT,Q0,Q1,Q2,Q3,Q4,Q5,Q6,Q7,Q8,Am4,eqZ hgl Ab2,decide_eq_true cv]
   rw [Bu9,Aa2 (by rfl)]
   simp only [RT,Q0,Q1,Q2,Q3,Q4,Q5,Q6,Q7,Q8,h7,h0,h1',Ao4 K.cb,ldF,Cc7 i (by omega),Cc8 i,l3F]
   refine Aa0 v1 ?_
   simp only [RT,Q0,Q1,Q2,Q3,Q4,Q5,Q6,Q7,Q8,j1,h102,hwr]
   refine ⟨x.ids.length - (i+1),by omega,i+1,u6,fk5,fo6,rfl,by omega,by omega,?_⟩
   rw [em,e1]
   have hl2:(s.2++(s.1.rd.Voted ((i / 2:Nat):Int) ((i % 2:Nat):Int) w id).2).length<=2000 * (i+1):=by rw [List.length_append];omega
   and_intros <;> first | rfl | assumption
 rw [if_neg k4]
 by_cases k5:x.kind=5
 rotate_left
 . rw [if_neg k5]
   obtain ⟨u7,A7,j4,j5⟩:=(CStep.of0 h f1).act hw (.nil:Lst eAct Hp.emp A1 .snil [] none) (by simp)
   simp only [RT,Q0,Q1,Q2,Q3,Q4,Q5,Q6,Q7,Q8,decide_eq_false k3,decide_eq_false k4,decide_eq_false k5]
   refine Aa0 j4 ?_
   simp only [RT,Q0,Q1,Q2,Q3,Q4,Q5,Q6,Q7,Q8]
   exact j5
 rw [if_pos k5]
 have lk:=h1.cm.gv.look (P:=Try.prog) BS9 Bz5 B67 w false
 rw [AE4]at lk
 have lk:evLookup Try.prog 72 (.map K.mg) (.int .i64 w) false A1=some (.bool (decide (w∈c.gave))):=by
  refine Eq.trans lk ?_
  by_cases q:w∈c.gave
  . rw [if_pos q,decide_eq_true q];rfl
  . rw [if_neg q,decide_eq_false q];rfl
 by_cases k6:w∈c.gave
 . rw [decide_eq_true k6] at lk
   simp only [RT,Q0,Q1,Q2,Q3,Q4,Q5,Q6,Q7,Q8,decide_eq_false k3,decide_eq_false k4,decide_eq_true k5,Ao4 K.cb,ld,lk]
   rw [if_pos k6]
   exact .nil h f1
 rw [decide_eq_false k6]at lk
 obtain ⟨A2,m1,m2⟩:=h1.gave w1 k6
 have w2:=m2.wf w1
 have r2:=m2.fr.row _ _ r1 (TM.box r1 (by have:=h.lt;omega))
 have lm2:=ldM r2 hx.id
 have hx2:=hx1.mono m2.le
 obtain ⟨u3,A3,s1,fk3,fo3,s2,s3⟩:=Ay4 w2 m2.co (Af3 _ A2) hx2.data (by omega)
 have s4:=m2.next w1 s2 (fo:=fo3) (fun f q=>.inr q)
 have hll:(c.hearV w x).2.length<=2000:=by
  have:=(h.rng.Know (batchI x.data)).2.1
  rw [h.acts]at this;exact this
 obtain ⟨u7,A7,j4,j5⟩:=s4.act w1 s3 (Nat.le_trans hll (by omega))
 simp only [RT,Q0,Q1,Q2,Q3,Q4,Q5,Q6,Q7,Q8,decide_eq_false k3,decide_eq_false k4,decide_eq_true k5,Ao4 K.cb,ld,lk,m1,fm,lm2]
 refine Aa0 s1 ?_
 simp only [RT,Q0,Q1,Q2,Q3,Q4,Q5,Q6,Q7,Q8]
 refine Aa0 j4 ?_
 simp only [RT,Q0,Q1,Q2,Q3,Q4,Q5,Q6,Q7,Q8]
 rw [if_neg k6]
 exact j5.next0 hw f1
end
end Go.Sv.Try
namespace Go.Sv
section
variable {n i:Nat} {Hn:Nat->Prop} {s s':Nat->Led}
def Cert (n:Nat) (Hn:Nat->Prop) (s:Nat->Led) (R K:Nat) (id:Bts):Prop:=∃ v:Vt,need n<=cnt n v R K id/\∀ j,Hn j->v R K j≠z32->(s j).v R K j=v R K j
def OwnUp (n:Nat) (Hn:Nat->Prop) (s s':Nat->Led):Prop:=∀ j,Hn j->∀ R K,(s j).v R K j≠z32->(s' j).v R K j=(s j).v R K j
theorem OwnUp.rfl':OwnUp n Hn s s:=fun _ _ _ _ _=>rfl
theorem OwnUp.trans {s'':Nat->Led} (h:OwnUp n Hn s s') (k:OwnUp n Hn s' s''):OwnUp n Hn s s'':=fun j hj R K q=>by
 have:=h j hj R K q
 rw [k j hj R K (by rw [this];exact q),this]
theorem Cert.up {R K:Nat} {id:Bts} (h:Cert n Hn s R K id) (hu:OwnUp n Hn s s'):Cert n Hn s' R K id:=by
 obtain ⟨v,h1,h2⟩:=h
 refine ⟨v,h1,fun j hj q=>?_⟩
 have:=h2 j hj q
 rw [hu j hj R K (by rw [this];exact q),this]
structure HistC (n:Nat) (Hn:Nat->Prop) (i:Nat) (s:Nat->Led):Prop where
 h1:∀ R,(s i).v R 1 i≠z32->(s i).v R 1 i≠n32->Cert n Hn s R 0 ((s i).v R 1 i)
 h2:∀ R1 R2,R1 < R2->(s i).v R1 1 i≠z32->(s i).v R1 1 i≠n32->(s i).v R2 0 i≠z32->(s i).v R2 0 i≠n32->(s i).v R2 0 i≠(s i).v R1 1 i->∃ k,R1<=k/\k < R2/\Cert n Hn s k 0 ((s i).v R2 0 i)
 h3:∀ R:Nat,(s i).v R 1 i≠z32->(s i).v R 1 i≠n32->(R:Int)+1<=(s i).lk.1
 h5:0 < (s i).lk.1->(s i).v ((s i).lk.1 - 1).toNat 1 i=(s i).lk.2/\(s i).lk.2≠z32/\(s i).lk.2≠n32
 h6:0<=(s i).lk.1
 h4:∀ R K:Nat,(s i).v R K i≠z32->(R:Int)<=(s i).top
structure AllC (n:Nat) (Hn:Nat->Prop) (s:Nat->Led):Prop where
 ok:okN n
 hist:∀ i,Hn i->HistC n Hn i s
 auth:∀ i j,Hn i->Hn j->∀ R K,(s i).v R K j≠z32->(s j).v R K j=(s i).v R K j
theorem AllC.cert (h:AllC n Hn s) (hi:Hn i) {R K:Nat} {id:Bts} (q:need n<=cnt n (s i).v R K id):Cert n Hn s R K id:=⟨(s i).v,q,fun j hj w=>h.auth i j hi hj R K w⟩
theorem Cert.two (hq:∀ w,w < n - flts n->Hn w) (hn:okN n) {R K R' K':Nat} {id id':Bts} (h:Cert n Hn s R K id) (h':Cert n Hn s R' K' id') (h1:id≠z32) (h2:id'≠z32):∃ w,Hn w/\(s w).v R K w=id/\(s w).v R' K' w=id':=by
 obtain ⟨v,a1,a2⟩:=h
 obtain ⟨v',b1,b2⟩:=h'
 obtain ⟨w,w1,w2,w3⟩:=AA5 hn _ _ a1 b1
 have w2:=of_decide_eq_true w2
 have w3:=of_decide_eq_true w3
 exact ⟨w,hq w w1,by rw [a2 w (hq w w1) (by rw [w2];exact h1),w2],by rw [b2 w (hq w w1) (by rw [w3];exact h2),w3]⟩
theorem AllC.polka (hq:∀ w,w < n - flts n->Hn w) (h:AllC n Hn s) {R:Nat} {id:Bts} (h1:id≠z32) (h2:id≠n32) (h3:Cert n Hn s R 1 id):∀ (k:Nat),R<=k->∀ id',id'≠z32->id'≠n32->Cert n Hn s k 0 id'->id'=id:=by
 intro k
 induction k using Nat.strongRecOn with
 | _ k ih =>
  intro hk id' q1 q2 q3
  by_cases e:k=R
  . subst e
    obtain ⟨w,w1,w3,_⟩:=Cert.two hq h.ok h3 h3 h1 h1
    have w4:=(h.hist w w1).h1 k (by rw [w3];exact h1) (by rw [w3];exact h2)
    rw [w3]at w4
    obtain ⟨x,x1,x2,x3⟩:=Cert.two hq h.ok w4 q3 h1 q1
    exact x3.symm.trans x2
  . apply Decidable.byContradiction
    intro ne
    obtain ⟨w,w1,y1,y2⟩:=Cert.two hq h.ok h3 q3 h1 q1
    obtain ⟨k',z1,z2,z3⟩:=(h.hist w w1).h2 R k (by omega) (by rw [y1];exact h1) (by rw [y1];exact h2) (by rw [y2];exact q1) (by rw [y2];exact q2) (by rw [y1,y2];exact ne)
    rw [y2]at z3
    exact ne (ih k' z2 z1 id' q1 q2 z3)
def DnC (n:Nat) (Hn:Nat->Prop) (s:Nat->Led) (id:Bts):Prop:=∃ R,id≠z32/\id≠n32/\Cert n Hn s R 1 id
theorem DnC.up {id:Bts} (h:DnC n Hn s id) (hu:OwnUp n Hn s s'):DnC n Hn s' id:=by
 obtain ⟨R,h1,h2,h3⟩:=h;exact ⟨R,h1,h2,h3.up hu⟩
theorem AllC.agree (hq:∀ w,w < n - flts n->Hn w) (h:AllC n Hn s) {id id':Bts} (h1:DnC n Hn s id) (h2:DnC n Hn s id'):id=id':=by
 have key:∀ {id id':Bts} {R R':Nat},R<=R'->id≠z32->id≠n32->Cert n Hn s R 1 id->id'≠z32->id'≠n32->Cert n Hn s R' 1 id'->id'=id:=by
  intro id id' R R' hle a1 a2 a3 b1 b2 b3
  obtain ⟨w,w1,w3,_⟩:=Cert.two hq h.ok b3 b3 b1 b1
  have w4:=(h.hist w w1).h1 R' (by rw [w3];exact b1) (by rw [w3];exact b2)
  rw [w3]at w4
  exact AllC.polka hq h a1 a2 a3 R' hle id' b1 b2 w4
 obtain ⟨R,a1,a2,a3⟩:=h1
 obtain ⟨R',b1,b2,b3⟩:=h2
 rcases Nat.le_total R R' with q | q
 . exact (key q a1 a2 a3 b1 b2 b3).symm
 . exact key q b1 b2 b3 a1 a2 a3
def updS (s:Nat->Led) (i:Nat) (x:Led):Nat->Led:=fun j=>if j=i then x else s j
theorem Ae0 (s:Nat->Led) (i:Nat) (x:Led):updS s i x i=x:=if_pos rfl
theorem Ai2 (s:Nat->Led) {i j:Nat} (x:Led) (h:j≠i):updS s i x j=s j:=if_neg h
theorem Bf0 (s:Nat->Led) (i:Nat):updS s i (s i)=s:=by
 funext j
 by_cases h:j=i
 . subst h;exact Ae0 _ _ _
 . exact Ai2 _ _ h
theorem Ay6 (s:Nat->Led) (i:Nat) (x y:Led):updS (updS s i x) i y=updS s i y:=by funext j;unfold updS;split <;> rfl
theorem HistC.other {j:Nat} {x:Led} (h:HistC n Hn j s) (hne:j≠i) (hu:OwnUp n Hn s (updS s i x)):HistC n Hn j (updS s i x):=by
 have e:updS s i x j=s j:=Ai2 s x hne
 refine ⟨?_,?_,?_,?_,?_,?_⟩ <;> rw [e]
 . exact fun R a b=>(h.h1 R a b).up hu
 . intro R1 R2 hlt a b c d f
   obtain ⟨k,x1,x2,x3⟩:=h.h2 R1 R2 hlt a b c d f
   exact ⟨k,x1,x2,x3.up hu⟩
 . exact h.h3
 . exact h.h5
 . exact h.h6
 . exact h.h4
theorem AllC.hear (h:AllC n Hn s) (hi:Hn i) {x:Led} (ho:∀ R K,x.v R K i=(s i).v R K i) (hl:x.lk=(s i).lk) (ht:(s i).top<=x.top) (ha:∀ j,Hn j->∀ R K,x.v R K j≠z32->(s j).v R K j=x.v R K j):AllC n Hn (updS s i x)/\OwnUp n Hn s (updS s i x):=by
 have hown:∀ j R K,(updS s i x j).v R K j=(s j).v R K j:=fun j R K=>by
  by_cases e:j=i
  . subst e;rw [Ae0];exact ho R K
  . rw [Ai2 s x e]
 have hu:OwnUp n Hn s (updS s i x):=fun j hj R K q=>hown j R K
 refine ⟨⟨h.ok,fun j hj=>?_,fun a b ha' hb R K q=>?_⟩,hu⟩
 . by_cases e : j = i
   . subst e
     have k:=h.hist j hj
     refine ⟨?_,?_,?_,?_,?_,?_⟩ <;> rw [Ae0]
     . intro R a b;rw [ho]at a b ⊢;exact (k.h1 R a b).up hu
     . intro R1 R2 hlt a b c d f
       rw [ho]at a b c d f ⊢;rw [ho]at f
       obtain ⟨k',x1,x2,x3⟩:=k.h2 R1 R2 hlt a b c d f
       exact ⟨k',x1,x2,x3.up hu⟩
     . intro R a b;rw [ho]at a b;rw [hl];exact k.h3 R a b
     . intro a;rw [hl]at a ⊢;rw [ho];exact k.h5 a
     . rw [hl];exact k.h6
     . intro R K a;rw [ho]at a;have:=k.h4 R K a;omega
   . exact (h.hist j hj).other e hu
 . rw [hown]
   by_cases e:a=i
   . subst e;rw [Ae0]at q ⊢;exact ha b hb R K q
   . rw [Ai2 s x e]at q ⊢;exact h.auth a b ha' hb R K q
theorem AllC.tell {kn:List Bts} {a:Act} (h:AllC n Hn s) (hi:Hn i) (k:(s i).ok n i kn a):AllC n Hn (updS s i ((s i).after i a))/\OwnUp n Hn s (updS s i ((s i).after i a)):=by
 have same:∀ x:Led,x.v=(s i).v->x.lk=(s i).lk->x.top=(s i).top->AllC n Hn (updS s i x)/\OwnUp n Hn s (updS s i x):=fun x h1 h2 h3=>h.hear hi (fun R K=>by rw [h1]) h2 (by rw [h3];exact Int.le_refl _) fun j hj R K q=>by rw [h1]at q ⊢;exact h.auth i j hi hj R K q
 generalize he:s i=si at k
 cases k with
 | send R val id _ _ _ _=>rw [Am1];rw [<- he];exact same _ rfl rfl rfl
 | tim R K _ _ _ _ _ _=>rw [Aq1];rw [<- he];exact same _ rfl rfl rfl
 | done R id _ _ _=>rw [Am3];rw [<- he];exact same _ rfl rfl rfl
 | vote R K id hd c1 c2 c3 =>
  rw [Am2]
  obtain ⟨q1,q2,q3⟩:=Af5 c1
  have q3:si.v R.toNat K.toNat i=z32:=q3
  obtain ⟨R,rfl⟩:=Int.eq_ofNat_of_zero_le q1.1
  have q3:si.v R K.toNat i=z32:=q3
  show AllC n Hn (updS s i { si with v:=setV si.v R K.toNat i id,top:=R,lk:=if K=1/\id≠n32 then ((R:Int)+1,id) else si.lk })/\_
  obtain ⟨x,hx⟩:∃ x:Led,x={ si with v:=setV si.v R K.toNat i id,top:=R,lk:=if K=1/\id≠n32 then ((R:Int)+1,id) else si.lk }:=⟨_,rfl⟩
  have hxv:x.v=setV si.v R K.toNat i id:=by rw [hx]
  have hxl:x.lk=if K=1/\id≠n32 then ((R:Int)+1,id) else si.lk:=by rw [hx]
  have hxt:x.top=R:=by rw [hx]
  have hup:Up si.v x.v:=by rw [hxv];exact Up.set q3
  have hu:OwnUp n Hn s (updS s i x):=fun j hj R K q=>by
   by_cases e:j=i
   . subst e;rw [Ae0];rw [he]at q ⊢;exact hup R K j q
   . rw [Ai2 s x e]
  show AllC n Hn (updS s i { si with v:=setV si.v R K.toNat i id,top:=R,lk:=if K=1/\id≠n32 then ((R:Int)+1,id) else si.lk })/\OwnUp n Hn s (updS s i { si with v:=setV si.v R K.toNat i id,top:=R,lk:=if K=1/\id≠n32 then ((R:Int)+1,id) else si.lk })
  rw [<- hx]
  have hauth:∀ j,Hn j->∀ A B,x.v A B j≠z32->(updS s i x j).v A B j=x.v A B j:=fun j hj A B q=>by
   by_cases e:j=i
   . subst e;rw [Ae0]
   . rw [Ai2 s x e]
     rw [hxv,Ax4 e]at q ⊢
     have:=h.auth i j hi hj A B (by rw [he];exact q)
     rw [this,he]
  have cert:∀ {A B:Nat} {id':Bts},need n<=cnt n si.v A B id'->Cert n Hn (updS s i x) A B id':=fun {A B id'} q=>(h.cert hi (by rw [he];exact q)).up hu
  have hk:=h.hist i hi
  have k1:=hk.h1;have k2:=hk.h2;have k3:=hk.h3;have k4:=hk.h4;have k5:=hk.h5;have k6:=hk.h6
  rw [he]at k1 k2 k3 k4 k5 k6
  have hK:K.toNat=0/\K=0∨K.toNat=1/\K=1:=by rcases q1.2.2.1 with rfl | rfl;exact .inl ⟨rfl,rfl⟩;exact .inr ⟨rfl,rfl⟩
  refine ⟨⟨h.ok,fun j hj=>?_,fun a b ha hb A B q=>?_⟩,hu⟩
  rotate_left
  . by_cases e : a = i
    . subst e;rw [Ae0]at q ⊢;exact hauth b hb A B q
    . rw [Ai2 s x e] at q ⊢
      have w:=h.auth a b ha hb A B q
      rw [hu b hb A B (by rw [w];exact q),w]
  by_cases e:j=i
  rotate_left
  . exact (h.hist j hj).other e hu
  subst e
  refine ⟨?_,?_,?_,?_,?_,?_⟩ <;> rw [Ae0]
  . intro X a b
    rw [hxv]at a b ⊢
    by_cases q:X=R/\1=K.toNat
    . obtain ⟨rfl, w⟩ := q
      rw [<- w]at a b ⊢
      rw [Al8]at a b ⊢
      rcases c3 with c3 | ⟨_,c3⟩ | ⟨c3,_⟩
      . exact absurd c3 b
      . exact cert (Aq4 (Ag7 c3).1).2
      . omega
    . rw [Ac5 q] at a b ⊢
      exact (k1 X a b).up hu
  . intro x1 x2 hlt a b c d e
    rw [hxv]at a b c d e ⊢
    rcases hK with ⟨w,hK⟩ | ⟨w,hK⟩
    . rw [w] at a b c d e ⊢
      have ne1:setV si.v R 0 j id x1 1 j=si.v x1 1 j:=Ac5 (by omega)
      rw [ne1]at a b e
      by_cases q:x2=R
      . subst q
        rw [Al8]at c d e ⊢
        have y3:=k3 x1 a b
        rcases c3 with c3 | ⟨c3,_⟩ | ⟨_,c4,c5⟩
        . exact absurd c3 d
        . omega
        . rcases c5 with c5 | c5 | ⟨k, c5, c6, c7, c8⟩
          . omega
          . obtain ⟨y4, y5, y6⟩ := k5 (by omega)
            refine ⟨(si.lk.1 - 1).toNat,by omega,by omega,?_⟩
            have:=k1 (si.lk.1 - 1).toNat (by rw [y4];exact y5) (by rw [y4];exact y6)
            rw [y4,c5]at this
            exact this.up hu
          . exact ⟨k.toNat,by omega,by omega,cert (Aq4 (Ag7 c8).1).2⟩
      . have ne2 : setV si.v R 0 j id x2 0 j = si.v x2 0 j := Ac5 (by omega)
        rw [ne2]at c d e ⊢
        obtain ⟨k,z1,z2,z3⟩:=k2 x1 x2 hlt a b c d e
        exact ⟨k,z1,z2,z3.up hu⟩
    . rw [w] at a b c d e ⊢
      have ne2:setV si.v R 1 j id x2 0 j=si.v x2 0 j:=Ac5 (by omega)
      rw [ne2]at c d e ⊢
      by_cases q:x1=R
      . subst q
        have:=k4 x2 0 c
        omega
      . have ne1 : setV si.v R 1 j id x1 1 j = si.v x1 1 j := Ac5 (by omega)
        rw [ne1]at a b e
        obtain ⟨k,z1,z2,z3⟩:=k2 x1 x2 hlt a b c d e
        exact ⟨k,z1,z2,z3.up hu⟩
  . intro X a b
    rw [hxv]at a b
    rw [hxl]
    by_cases q:X=R/\1=K.toNat
    . obtain ⟨rfl, w⟩ := q
      rw [<- w,Al8]at b
      rw [if_pos ⟨by omega,b⟩]
      exact Int.le_refl _
    . rw [Ac5 q] at a b
      have y1:=k3 X a b
      have y2:=k4 X 1 a
      split
      . show (X:Int)+1<=R+1;omega
      . exact y1
  . intro a
    rw [hxl]at a ⊢
    rw [hxv]
    by_cases q:K=1/\id≠n32
    . rw [if_pos q]
      refine ⟨?_,q2,q.2⟩
      have:((R:Int)+1 - 1).toNat=R:=by omega
      show setV si.v R K.toNat j id ((R:Int)+1 - 1).toNat 1 j=id
      rw [this,q.1]
      exact Al8
    . rw [if_neg q] at a ⊢
      obtain ⟨y4,y5,y6⟩:=k5 a
      refine ⟨?_,y5,y6⟩
      rw [Ac5,y4]
      rintro ⟨z1,z2⟩
      rw [z1,z2,q3]at y4
      exact y5 y4.symm
  . rw [hxl]
    split
    . show (0:Int)<=R+1;omega
    . exact k6
  . intro X Y a
    rw [hxv]at a
    rw [hxt]
    by_cases q:X=R/\Y=K.toNat
    . rw [q.1];exact Int.le_refl _
    . rw [Ac5 q] at a
      have:=k4 X Y a
      omega
theorem AllC.tells {kn:List Bts}:∀ {l:List Act} {s:Nat->Led},AllC n Hn s->Hn i->Led.good n i kn (s i) l->AllC n Hn (updS s i (l.foldl (Led.after i) (s i)))/\OwnUp n Hn s (updS s i (l.foldl (Led.after i) (s i)))
 | [],s,h,_,_=>by
  show AllC n Hn (updS s i (s i))/\OwnUp n Hn s (updS s i (s i))
  rw [Bf0];exact ⟨h,.rfl'⟩
 | a::l,s,h,hi,g=>by
  obtain ⟨k1,k2⟩:=h.tell hi g.1
  have g2:=g.2
  have e:(updS s i ((s i).after i a)) i=(s i).after i a:=Ae0 _ _ _
  obtain ⟨m1,m2⟩:=AllC.tells (l:=l) (s:=updS s i ((s i).after i a)) k1 hi (by rw [e];exact g2)
  rw [e,Ay6]at m1 m2
  exact ⟨m1,k2.trans m2⟩
theorem A42 {kn:List Bts}:∀ {l:List Act} {s:Nat->Led},AllC n Hn s->Hn i->Led.good n i kn (s i) l->∀ a∈l,a.kind=4->a.id∈kn/\DnC n Hn (updS s i (l.foldl (Led.after i) (s i))) a.id
 | [],s,h,_,_,a,q,_=>by simp at q
 | b::l,s,h,hi,g,a,q,k4=>by
  obtain ⟨k1,k2⟩:=h.tell hi g.1
  have g2:=g.2
  have e:(updS s i ((s i).after i b)) i=(s i).after i b:=Ae0 _ _ _
  have g2:Led.good n i kn ((updS s i ((s i).after i b)) i) l:=by rw [e];exact g2
  have m:=AllC.tells (l:=l) k1 hi g2
  have e2:updS (updS s i ((s i).after i b)) i (l.foldl (Led.after i) ((updS s i ((s i).after i b)) i))=updS s i ((b::l).foldl (Led.after i) (s i)):=by rw [e,Ay6];rfl
  rw [e2]at m
  rcases List.mem_cons.1 q with rfl | q
  . have hd := B59 g.1 k4
    obtain ⟨R,d1,d2,d3⟩:=hd
    refine ⟨?_,DnC.up ⟨R,d1,d2,h.cert hi d3⟩ (k2.trans m.2)⟩
    have g1:=g.1
    cases g1 with
    | send R val id _ _ _ _=>exact absurd k4 (by show ¬ ((1:Int)=4);omega)
    | tim R K _ _ _ _ _ _=>exact absurd k4 (by show ¬ ((3:Int)=4);omega)
    | vote R K id hd c1 c2 c3=>exact absurd k4 (by show ¬ ((2:Int)=4);omega)
    | done R id _ h1 h2=>exact h2
  . have := A42 (l := l) k1 hi g2 a q k4
    rw [e2]at this
    exact this
end
end Go.Sv
namespace Go.Sv
open Go
def ownN (l:Led) (i:Nat):Nat->Bts:=fun x=>if x < 24 then l.v (x / 2) (x % 2) i else z32
structure ExtN (a b:Nat->Bts):Prop where
 st:∀ x,a x≠z32->b x=a x
 lt:∀ x y,a x≠z32->a y=z32->b y≠z32->x < y
theorem ExtN.rfl' {a:Nat->Bts}:ExtN a a:=⟨fun _ _=>rfl,fun x y _ h k=>absurd h k⟩
theorem ExtN.trans {a b c:Nat->Bts} (h:ExtN a b) (k:ExtN b c):ExtN a c:=by
 have hs:∀ x,a x≠z32->c x=a x:=fun x q=>by
  have:=h.st x q
  rw [k.st x (by rw [this];exact q),this]
 refine ⟨hs,fun x y q1 q2 q3=>?_⟩
 by_cases e:b y=z32
 . exact k.lt x y (by rw [h.st x q1];exact q1) e q3
 . exact h.lt x y q1 q2 e
def VIn (v:Vt):Prop:=∀ R K j,v R K j≠z32->R < 12/\K < 2
def H4 (l:Led) (i:Nat):Prop:=∀ R K:Nat,l.v R K i≠z32->(R:Int)<=l.top
section
variable {n i:Nat} {kn:List Bts} {s:Led} {a:Act}
theorem Bp7 (k:s.ok n i kn a) (h:VIn s.v) (h4:H4 s i):VIn (s.after i a).v/\H4 (s.after i a) i/\ExtN (ownN s i) (ownN (s.after i a) i)/\(a.kind≠2->(s.after i a).v=s.v):=by
 cases k with
 | send R val id _ _ _ _=>rw [Am1];exact ⟨h,h4,.rfl',fun _=>rfl⟩
 | tim R K _ _ _ _ _ _=>rw [Aq1];exact ⟨h,h4,.rfl',fun _=>rfl⟩
 | done R id _ _ _=>rw [Am3];exact ⟨h,h4,.rfl',fun _=>rfl⟩
 | vote R K id hd c1 c2 c3 c4 =>
  rw [Am2]
  obtain ⟨q1,q2,q3⟩:=Af5 c1
  have q3:s.v R.toNat K.toNat i=z32:=q3
  obtain ⟨R,rfl⟩:=Int.eq_ofNat_of_zero_le q1.1
  have q3:s.v R K.toNat i=z32:=q3
  have c4:K=0->s.v R 1 i=z32:=c4
  have hR:R < 12:=by have:=q1.2.1;omega
  have hK:K.toNat < 2:=by rcases q1.2.2.1 with rfl | rfl <;> decide
  refine ⟨fun A B j q=>?_,fun A B q=>?_,⟨fun x q=>?_,fun x y w1 w2 w3=>?_⟩,fun q=>absurd rfl q⟩
  . have q : setV s.v R K.toNat i id A B j ≠ z32 := q
    unfold setV at q
    split at q
    . rename_i z;obtain ⟨rfl,rfl,rfl⟩:=z;exact ⟨hR,hK⟩
    . exact h A B j q
  . have q : setV s.v R K.toNat i id A B i ≠ z32 := q
    show (A:Int)<=(R:Int)
    unfold setV at q
    split at q
    . rename_i z;have:=z.1;omega
    . have:=h4 A B q;omega
  . unfold ownN at q ⊢
    split
    . rename_i hx
      rw [if_pos hx]at q
      exact Up.set q3 _ _ _ q
    . rfl
  . unfold ownN at w1 w2 w3
    split at w1
    rotate_left
    . exact absurd rfl w1
    split at w3
    rotate_left
    . exact absurd rfl w3
    rename_i hx hy
    rw [if_pos hy]at w2
    have w3:setV s.v R K.toNat i id (y / 2) (y % 2) i≠z32:=w3
    unfold setV at w3
    split at w3
    rotate_left
    . exact absurd w2 w3
    rename_i z
    have h5:=h4 _ _ w1
    rcases q1.2.2.1 with rfl | rfl
    . have z2 : y % 2 = 0 := z.2.1
      rcases Nat.lt_or_ge (x / 2) R with q | q
      . omega
      . have e : x / 2 = R := by omega
        rw [e]at w1
        have:x % 2=0∨x % 2=1:=by omega
        rcases this with e2 | e2
        . rw [e2]at w1;exact absurd q3 w1
        . rw [e2]at w1;exact absurd (c4 rfl) w1
    . have z2 : y % 2 = 1 := z.2.1
      rcases Nat.lt_or_ge (x / 2) R with q | q
      . omega
      . have e : x / 2 = R := by omega
        rw [e]at w1
        have:x % 2=0∨x % 2=1:=by omega
        rcases this with e2 | e2
        . omega
        . rw [e2]at w1;exact absurd q3 w1
theorem Bf1:∀ {l:List Act} {s:Led},Led.good n i kn s l->VIn s.v->H4 s i->VIn (l.foldl (Led.after i) s).v/\H4 (l.foldl (Led.after i) s) i/\ExtN (ownN s i) (ownN (l.foldl (Led.after i) s) i)/\((∀ a∈l,a.kind≠2)->(l.foldl (Led.after i) s).v=s.v)
 | [],s,_,h,h4=>⟨h,h4,.rfl',fun _=>rfl⟩
 | a::l,s,g,h,h4=>by
  obtain ⟨k1,k2,k3,k4⟩:=Bp7 g.1 h h4
  obtain ⟨m1,m2,m3,m4⟩:=Bf1 (l:=l) g.2 k1 k2
  refine ⟨m1,m2,k3.trans m3,fun q=>?_⟩
  have e1:=m4 fun b hb=>q b (List.mem_cons_of_mem _ hb)
  have e2:=k4 (q a List.mem_cons_self)
  exact e1.trans e2
end
section
variable {n i:Nat} {Hn:Nat->Prop} {H:Int} {s s' s2:Nat->Led} {c:Co} {l:List Act}
structure Par (n:Nat) (Hn:Nat->Prop) (H:Int) (s:Nat->Led) (i:Nat) (c:Co):Prop where
 mt:Mt (s i) c.rd
 acts:c.rd.acts=[]
 hn:c.rd.n=n
 hm:c.rd.me=i
 hh:c.rd.height=H
 vin:VIn (s i).v
 bat:∀ p∈c.bat,p.1=batchI p.2
 kb:∀ id∈c.rd.known,lookL c.bat id≠none
 dn:c.over=true->DnC n Hn s (batchI c.done)
structure Mid (n:Nat) (Hn:Nat->Prop) (H:Int) (s:Nat->Led) (i:Nat) (c:Co) (l:List Act):Prop where
 par:Par n Hn H s i c
 pend:∀ a∈l,a.kind=4->lookL c.bat a.id≠none/\DnC n Hn s a.id
structure Advn (n:Nat) (Hn:Nat->Prop) (i:Nat) (s s':Nat->Led) (l:List Act):Prop where
 up:OwnUp n Hn s s'
 ne:∀ j,j≠i->s' j=s j
 ext:ExtN (ownN (s i) i) (ownN (s' i) i)
 vt:(∃ a∈l,a.kind=2)∨ownN (s' i) i=ownN (s i) i
theorem Advn.rfl':Advn n Hn i s s []:=⟨.rfl',fun _ _=>rfl,.rfl',.inr rfl⟩
theorem Advn.trans {l l':List Act} (h:Advn n Hn i s s' l) (k:Advn n Hn i s' s2 l'):Advn n Hn i s s2 (l++l'):=by
 refine ⟨h.up.trans k.up,fun j q=>(k.ne j q).trans (h.ne j q),h.ext.trans k.ext,?_⟩
 rcases h.vt with ⟨a,ha,q⟩ | h1
 . exact .inl ⟨a,List.mem_append_left _ ha,q⟩
 . rcases k.vt with ⟨a, ha, q⟩ | k1
   . exact .inl ⟨a,List.mem_append_right _ ha,q⟩
   . exact .inr (k1.trans h1)
theorem Par.up (h:Par n Hn H s i c) (he:s' i=s i) (hu:OwnUp n Hn s s'):Par n Hn H s' i c :=
 { h with mt:=by rw [he];exact h.mt,vin:=by rw [he];exact h.vin,dn:=fun q=>(h.dn q).up hu }
theorem Bp8 {v:Vt} {x:RIn} {n me:Nat} (h:VIn v):VIn (giveV n me v x):=by
 unfold giveV
 split
 . unfold putV
   split
   . rename_i q
     obtain ⟨q1,q2,q3⟩:=Af5 q
     intro A B j w
     unfold setV at w
     split at w
     . rename_i z
       obtain ⟨z1,z2,z3⟩:=z
       have:=q1.1;have:=q1.2.1
       refine ⟨by omega,?_⟩
       rcases q1.2.2.1 with e | e <;> rw [e]at z2 <;> omega
     . exact h A B j w
   . exact h
 . exact h
theorem Mid.op {x:RIn} (h:AllC n Hn s) (hi:Hn i) (m:Mid n Hn H s i c l) (hx:x.kind≠6) (hau:∀ j,Hn j->∀ R K,giveV n i (s i).v x R K j≠z32->(s j).v R K j=giveV n i (s i).v x R K j) (hk:∀ id∈giveK c.rd x,lookL c.bat id≠none) :
 ∃ s',AllC n Hn s'/\Mid n Hn H s' i { c with rd:=(c.rd.give x).1 } (l++(c.rd.give x).2)/\Advn n Hn i s s' (c.rd.give x).2:=by
 obtain ⟨s1,e1,e2,e3,e4,e5,e6,e7,_⟩:=BA2 m.par.mt m.par.acts hx
 rw [m.par.hn,m.par.hm]at e1
 have hown:∀ R K,s1.v R K i=(s i).v R K i:=fun R K=>by rw [e1];exact (BB3 (n:=n) (me:=i)).2 R K
 obtain ⟨a1,a2⟩:=h.hear hi (x:=s1) hown e4 (by rw [e5];exact Int.le_refl _) (fun j hj R K q=>by rw [e1]at q ⊢;exact hau j hj R K q)
 have g:=e7.good
 have hm:=e7.mt
 have hn:({ c.rd with known:=giveK c.rd x }:Rd).n=n:=m.par.hn
 have hme:({ c.rd with known:=giveK c.rd x }:Rd).me=i:=m.par.hm
 rw [hn,hme]at g
 rw [hme]at hm
 have e:(updS s i s1) i=s1:=Ae0 _ _ _
 have g':Led.good n i (giveK c.rd x) ((updS s i s1) i) (c.rd.give x).2:=by rw [e];exact g
 obtain ⟨b1,b2⟩:=a1.tells hi g'
 have hd:=A42 a1 hi g'
 rw [e,Ay6]at b1 b2 hd
 have h4:H4 s1 i:=fun R K q=>by rw [hown]at q;rw [e5];exact (h.hist i hi).h4 R K q
 have hv1:VIn s1.v:=by rw [e1];exact Bp8 m.par.vin
 obtain ⟨v1,v2,v3,v4⟩:=Bf1 g hv1 h4
 have eo:ownN s1 i=ownN (s i) i:=by funext y;unfold ownN;rw [hown]
 obtain ⟨sf,hsf⟩:∃ z,z=(c.rd.give x).2.foldl (Led.after i) s1:=⟨_,rfl⟩
 rw [<- hsf]at b1 b2 hd v1 v2 v3 v4 hm
 have hu:=a2.trans b2
 have es:(updS s i sf) i=sf:=Ae0 _ _ _
 have kp:=e7.kp
 have kpk:(c.rd.give x).1.known=giveK c.rd x:=kp.known
 refine ⟨updS s i sf,b1,⟨⟨by rw [es];exact hm,e7.acts,kp.n.trans m.par.hn,kp.me.trans m.par.hm,kp.height.trans m.par.hh,by rw [es];exact v1,m.par.bat,fun id q=>hk id (by rw [<- kpk];exact q),fun q=>(m.par.dn q).up hu⟩,fun a ha k4=>?_⟩,hu,fun j q=>Ai2 _ _ q,by rw [es,<- eo];exact v3,?_⟩
 . rcases List.mem_append.1 ha with q | q
   . exact ⟨(m.pend a q k4).1,(m.pend a q k4).2.up hu⟩
   . have := hd a q k4
     exact ⟨hk _ this.1,this.2⟩
 . by_cases q : ∃ a ∈ (c.rd.give x).2, a.kind = 2
   . exact .inl q
   . right
     rw [es,<- eo]
     have:=v4 fun a ha w=>q ⟨a,ha,w⟩
     funext y;unfold ownN;rw [this]
theorem Bf2 (r:Rd) {x:Nat} (hx:x < 24):(stAll r)[x]?=some (getV r.n r.v ((x / 2:Nat):Int) ((x % 2:Nat):Int) r.me):=by
 unfold stAll;rw [List.getElem?_map,List.getElem?_range hx];rfl
theorem Ay7 {l:List Bts}:∀ {k x:Nat} {y:Bts},x < k->lastN l k<=x->l[x]?=some y->y=z32
 | 0,x,y,h,_,_=>by omega
 | k+1,x,y,h,hl,hx=>by
  unfold lastN at hl
  by_cases e:x=k
  . subst e
    rw [hx]at hl
    simp only []at hl
    split at hl
    . rename_i q;exact q
    . omega
  . split at hl
    . split at hl
      . exact Ay7 (k:=k) (by omega) hl hx
      . omega
    . exact Ay7 (k:=k) (by omega) hl hx
theorem Av7 (r:Rd):(stIds r).length<=24:=by unfold stIds;rw [List.length_take];have:=AM9 (stAll r) 24;omega
def vtN (ids:List Bts):Nat->Bts:=fun x=>(ids[x]?).getD z32
theorem BT2 (r:Rd) (hm:r.me < r.n):vtN (stIds r)=fun x=>if x < 24 then r.v (x / 2) (x % 2) r.me else z32:=by
 funext x
 unfold vtN
 by_cases hx:x < 24
 . rw [if_pos hx]
   have hg:=Bf2 r hx
   have hgv:getV r.n r.v ((x / 2:Nat):Int) ((x % 2:Nat):Int) r.me=r.v (x / 2) (x % 2) r.me:=by
    unfold getV
    rw [if_pos ⟨by omega,by omega,by omega,by omega,by omega⟩];rfl
   rw [hgv]at hg
   unfold stIds
   by_cases hl:x < lastN (stAll r) 24
   . rw [List.getElem?_take_of_lt hl,hg];rfl
   . have := Ay7 hx (by omega) hg
     rw [List.getElem?_take_eq_none (by omega),this];rfl
 . rw [if_neg hx]
   have:(stIds r)[x]?=none:=List.getElem?_eq_none_iff.2 (by have:=Av7 r;omega)
   rw [this];rfl
theorem Par.vtN (h:Par n Hn H s i c):Sv.vtN (stIds c.rd)=ownN (s i) i:=by
 rw [BT2 c.rd h.mt.me]
 funext x;unfold ownN
 rw [h.hm,h.mt.v]
theorem A94 {r:Rd} (hm:r.me < r.n) {x:Nat} (hx:Sv.vtN (stIds r) x≠z32):0 < (stIds r).length:=by
 apply Nat.pos_of_ne_zero;intro q
 have:stIds r=[]:=List.eq_nil_of_length_eq_zero q
 rw [this]at hx
 exact hx rfl
theorem AJ5 (c:Co) (R:Int):(c.offer R).1.kind≠4:=by
 unfold Co.offer;split
 . show ((3:Int)≠4);omega
 . show ((0:Int)≠4);omega
theorem Bp9 (l:List Act):∀ (s:Co×List M×Bool),(∀ m∈s.2.1,m.kind≠4)->∀ m∈(l.foldl Co.act1 s).2.1,m.kind≠4:=by
 induction l with
 | nil=>exact fun s h=>h
 | cons a l ih =>
  intro s h
  refine ih (Co.act1 s a) ?_
  unfold Co.act1
  split
  . intro m hm
    rcases List.mem_append.1 hm with q | q
    . exact h m q
    . rw [List.mem_singleton.1 q];exact AJ5 _ _
  split
  . exact h
  split
  . exact h
  split
  . exact h
  . exact h
theorem A95 (l:List Act):∀ (s:Co×List M×Bool),(l.foldl Co.act1 s).2.2=true ↔ s.2.2=true∨∃ a∈l,a.kind=2:=by
 induction l with
 | nil=>intro s;simp
 | cons a l ih =>
  intro s
  show (l.foldl Co.act1 (Co.act1 s a)).2.2=true ↔ _
  rw [ih (Co.act1 s a)]
  have e:(Co.act1 s a).2.2=true ↔ s.2.2=true∨a.kind=2:=by
   unfold Co.act1
   split
   . rename_i q;simp [q]
   split
   . rename_i q;simp [q]
   split
   . rename_i q q2 q3;simp [q2]
   split
   . rename_i q q2 q3 q4;simp [q2]
   . rename_i q q2 q3 q4;simp [q2]
  rw [e]
  simp only [List.mem_cons,exists_eq_or_imp,or_assoc]
theorem Bf3 {s:Nat->Led} (l:List Act):∀ (y:Co×List M×Bool),(∀ p∈y.1.bat,p.1=batchI p.2)->(y.1.over=true->DnC n Hn s (batchI y.1.done))->(∀ a∈l,a.kind=4->lookL y.1.bat a.id≠none/\DnC n Hn s a.id)->(l.foldl Co.act1 y).1.over=true->DnC n Hn s (batchI (l.foldl Co.act1 y).1.done):=by
 induction l with
 | nil=>exact fun y _ h _=>h
 | cons a l ih =>
  intro y hb h hp
  have eb:=(AZ1 y a).2.1
  refine ih (Co.act1 y a) (by rw [eb];exact hb) ?_ (fun b hb' k4=>by rw [eb];exact hp b (List.mem_cons_of_mem _ hb') k4)
  unfold Co.act1
  split
  . exact h
  split
  . exact h
  split
  . exact h
  split
  . rename_i k4
    intro _
    obtain ⟨q1,q2⟩:=hp a List.mem_cons_self k4
    show DnC n Hn s (batchI ((lookL y.1.bat a.id).getD []))
    cases q:lookL y.1.bat a.id with
    | none=>exact absurd q q1
    | some b =>
     have:=hb _ (Am6 q)
     show DnC n Hn s (batchI b)
     rw [<- this];exact q2
  . exact h
structure StepOk (n:Nat) (Hn:Nat->Prop) (H:Int) (i:Nat) (s s':Nat->Led) (c':Co) (out:List M):Prop where
 all:AllC n Hn s'
 par:Par n Hn H s' i c'
 up:OwnUp n Hn s s'
 ne:∀ j,j≠i->s' j=s j
 ext:ExtN (ownN (s i) i) (ownN (s' i) i)
 msg:∀ m∈out,m.kind=4->m=stMsg c'.rd
 told:(∃ m∈out,m.kind=4)∨ownN (s' i) i=ownN (s i) i
theorem Bf4 (c:Co) (l:List Act):(c.act l).1.bat=c.bat:=(Ay5 l (c,[],false)).2.1
theorem Bf5 (c:Co) (l:List Act):(c.act l).1.rd=c.rd:=(Ay5 l (c,[],false)).1
theorem Bq0 (c:Co) (l:List Act):∀ m∈(c.act l).2,m.kind=4->m=stMsg c.rd:=by
 intro m hm k4
 have hn:=Bp9 l (c,[],false) (fun m h=>by cases h)
 have e:(c.acts l).1.rd=c.rd:=(Ay5 l (c,[],false)).1
 unfold Co.act at hm
 have hm:m∈(if (c.acts l).2.2=true/\0 < (stIds (c.acts l).1.rd).length then (c.acts l).2.1++[stMsg (c.acts l).1.rd] else (c.acts l).2.1):=hm
 split at hm
 . rcases List.mem_append.1 hm with q | q
   . exact absurd k4 (hn m q)
   . rw [List.mem_singleton.1 q,e]
 . exact absurd k4 (hn m hm)
theorem Bq1 (c:Co) (l:List Act) (hv:∃ a∈l,a.kind=2) (hs:0 < (stIds c.rd).length):stMsg c.rd∈(c.act l).2:=by
 have e:(c.acts l).1.rd=c.rd:=(Ay5 l (c,[],false)).1
 have ev:(c.acts l).2.2=true:=(A95 l (c,[],false)).2 (.inr hv)
 show stMsg c.rd∈(if (c.acts l).2.2=true/\0 < (stIds (c.acts l).1.rd).length then (c.acts l).2.1++[stMsg (c.acts l).1.rd] else (c.acts l).2.1)
 rw [if_pos ⟨ev,by rw [e];exact hs⟩,e]
 exact List.mem_append_right _ (List.mem_singleton.2 rfl)
theorem Mid.act (h:AllC n Hn s') (m:Mid n Hn H s' i c l) (ha:Advn n Hn i s s' l):StepOk n Hn H i s s' (c.act l).1 (c.act l).2:=by
 have e1:=Bf5 c l
 have e2:=Bf4 c l
 refine ⟨h,⟨by rw [e1];exact m.par.mt,by rw [e1];exact m.par.acts,by rw [e1];exact m.par.hn,by rw [e1];exact m.par.hm,by rw [e1];exact m.par.hh,m.par.vin,by rw [e2];exact m.par.bat,by rw [e1,e2];exact m.par.kb,Bf3 l (c,[],false) m.par.bat m.par.dn m.pend⟩,ha.up,ha.ne,ha.ext,fun x hx k4=>by rw [e1];exact Bq0 c l x hx k4,?_⟩
 by_cases q:ownN (s' i) i=ownN (s i) i
 . exact .inr q
 rcases ha.vt with hv | hv
 . left
   have:∃ x,ownN (s' i) i x≠z32:=by
    apply Classical.byContradiction;intro z
    apply q;funext x
    have z1:ownN (s' i) i x=z32:=Classical.byContradiction fun w=>z ⟨x,w⟩
    rw [z1]
    apply Classical.byContradiction;intro w
    have:=ha.ext.st x (fun w2=>w w2.symm)
    rw [z1]at this;exact w this
   obtain ⟨x,hx⟩:=this
   rw [<- m.par.vtN]at hx
   exact ⟨stMsg c.rd,Bq1 c l hv (A94 m.par.mt.me hx),rfl⟩
 . exact absurd hv q
end
end Go.Sv
namespace Go.Sv
open Go
section
variable {n i:Nat} {Hn:Nat->Prop} {H:Int} {s s' s2:Nat->Led} {c:Co} {l:List Act}
theorem StepOk.rfl' (h:AllC n Hn s) (p:Par n Hn H s i c):StepOk n Hn H i s s c []:=⟨h,p,.rfl',fun _ _=>rfl,.rfl',(fun m q=>by cases q),.inr rfl⟩
theorem Av8 {l:List (Bts×Bts)} {b id:Bts} (h:lookL l id≠none):lookL (haveB l b) id≠none:=by
 unfold haveB
 split
 . exact h
 . rw [AX1]
   cases q:lookL l id with
   | none=>exact absurd q h
   | some v=>simp
theorem As2 (l:List (Bts×Bts)) (b:Bts):lookL (haveB l b) (batchI b)≠none:=by
 unfold haveB
 split
 . rename_i v hv;rw [hv];simp
 . rename_i hv
   rw [AX1,hv]
   simp [lookL]
theorem AN3 {l:List (Bts×Bts)} {b:Bts} (h:∀ p∈l,p.1=batchI p.2):∀ p∈haveB l b,p.1=batchI p.2:=by
 intro p hp
 unfold haveB at hp
 split at hp
 . exact h p hp
 . rcases List.mem_append.1 hp with q | q
   . exact h p q
   . rw [List.mem_singleton.1 q]
theorem Par.have_ (p:Par n Hn H s i c) (b:Bts):Par n Hn H s i (c.have_ b):={ p with bat:=AN3 p.bat,kb:=fun id q=>Av8 (p.kb id q) }
theorem Aq7 {r:Rd} {id x:Bts} (h:x∈(r.Remember id).known):x∈r.known∨x=id:=by
 unfold Rd.Remember at h
 split at h
 . rcases List.mem_append.1 h with q | q
   . exact .inl q
   . exact .inr (List.mem_singleton.1 q)
 . exact .inl h
theorem Mid.op0 {x:RIn} (h:AllC n Hn s) (hi:Hn i) (m:Mid n Hn H s i c l) (hx:x.kind≠6) (h3:x.kind≠3) (hk:∀ id∈giveK c.rd x,lookL c.bat id≠none) :
 ∃ s',AllC n Hn s'/\Mid n Hn H s' i { c with rd:=(c.rd.give x).1 } (l++(c.rd.give x).2)/\Advn n Hn i s s' (c.rd.give x).2:=by
 have e:giveV n i (s i).v x=(s i).v:=by unfold giveV;rw [if_neg (fun q=>h3 q.1)]
 exact m.op h hi hx (fun j hj R K q=>by rw [e]at q ⊢;exact h.auth i j hi hj R K q) hk
theorem Mid.know {b:Bts} (h:AllC n Hn s) (hi:Hn i) (p:Par n Hn H s i c):∃ s',AllC n Hn s'/\Mid n Hn H s' i (c.learn b).1 (c.learn b).2/\Advn n Hn i s s' (c.learn b).2:=by
 have m:Mid n Hn H s i (c.have_ b) []:=⟨p.have_ b,fun a q=>by cases q⟩
 obtain ⟨s',a1,a2,a3⟩:=m.op0 (x:=⟨1,0,0,0,0,batchI b⟩) h hi (by show ((1:Int)≠6);omega) (by show ((1:Int)≠3);omega) (fun id q=>by
  have q:id∈giveK c.rd ⟨1,0,0,0,0,batchI b⟩:=q
  unfold giveK at q
  rw [if_pos (.inl rfl)]at q
  rcases Aq7 q with z | rfl
  . exact Av8 (p.kb id z)
  . exact As2 _ _)
 exact ⟨s',a1,a2,a3⟩
theorem Mid.also {x:RIn} {s0:Nat->Led} (h:AllC n Hn s) (hi:Hn i) (m:Mid n Hn H s i c l) (ha:Advn n Hn i s0 s l) (hx:x.kind≠6) (h3:x.kind≠3) (h1:x.kind≠1) (h7:x.kind≠7) :
 ∃ s',AllC n Hn s'/\Mid n Hn H s' i { c with rd:=(c.rd.give x).1 } (l++(c.rd.give x).2)/\Advn n Hn i s0 s' (l++(c.rd.give x).2):=by
 obtain ⟨s',a1,a2,a3⟩:=m.op0 h hi hx h3 (fun id q=>by
  unfold giveK at q
  rw [if_neg (fun z=>z.elim h1 h7)]at q
  exact m.par.kb id q)
 exact ⟨s',a1,a2,ha.trans a3⟩
theorem A43 {b:Bts} (h:AllC n Hn s) (hi:Hn i) (p:Par n Hn H s i c):∃ s',StepOk n Hn H i s s' (c.Begin b).1 (c.Begin b).2:=by
 unfold Co.Begin
 split
 . exact ⟨s,.rfl' h p⟩
 obtain ⟨s1,a1,a2,a3⟩:=Mid.know (b:=b) h hi p
 obtain ⟨s2,b1,b2,b3⟩:=a2.also (x:=⟨0,0,0,0,0,batchI b⟩) a1 hi a3 (by show ((0:Int)≠6);omega) (by show ((0:Int)≠3);omega) (by show ((0:Int)≠1);omega) (by show ((0:Int)≠7);omega)
 exact ⟨s2,b2.act b1 b3⟩
def AuthM (n:Nat) (Hn:Nat->Prop) (s:Nat->Led) (w:Nat) (x:M):Prop:=Hn w->x.kind=4->∀ y,y < 24->vtN x.ids y≠z32->(s w).v (y / 2) (y % 2) w=vtN x.ids y
theorem AuthM.up {w:Nat} {x:M} (h:AuthM n Hn s w x) (hu:OwnUp n Hn s s'):AuthM n Hn s' w x:=fun hw k y hy q=>by
 have:=h hw k y hy q
 rw [hu w hw _ _ (by rw [this];exact q),this]
theorem A44 {w:Int} {x:M} (h:AllC n Hn s) (hi:Hn i) (p:Par n Hn H s i c) (h0:0<=w) (hwi:w≠i) (hk:x.kind=4) (ha:AuthM n Hn s w.toNat x):∀ k,k<=24->∃ s',AllC n Hn s'/\Mid n Hn H s' i (c.hearI w x.ids k).1 (c.hearI w x.ids k).2/\Advn n Hn i s s' (c.hearI w x.ids k).2
 | 0,_=>⟨s,h,⟨p,fun a q=>by cases q⟩,.rfl'⟩
 | k+1,hk24=>by
  obtain ⟨s1,a1,a2,a3⟩:=A44 h hi p h0 hwi hk ha k (by omega)
  have em:c.hearI w x.ids (k+1)=Co.hear1 w x.ids (c.hearI w x.ids k) k:=by unfold Co.hearI;rw [List.range_succ,List.foldl_append];rfl
  rw [em]
  generalize c.hearI w x.ids k=y at *
  unfold Co.hear1
  split
  . exact ⟨s1,a1,a2,a3⟩
  rename_i q
  have hid:(x.ids[k]?).getD z32≠z32:=fun z=>q (.inl z)
  obtain ⟨id,hide⟩:∃ id,id=(x.ids[k]?).getD z32:=⟨_,rfl⟩
  rw [<- hide]at hid ⊢
  have e:∀ j,Hn j->∀ R K,giveV n i (s1 i).v ⟨3,((k / 2:Nat):Int),((k % 2:Nat):Int),w,0,id⟩ R K j≠z32->(s1 j).v R K j=giveV n i (s1 i).v ⟨3,((k / 2:Nat):Int),((k % 2:Nat):Int),w,0,id⟩ R K j:=by
   intro j hj R K z
   unfold giveV at z ⊢
   rw [if_pos ⟨rfl,hwi⟩]at z ⊢
   unfold putV at z ⊢
   split at z
   . rename_i hc
     rw [if_pos hc]
     have z:setV (s1 i).v (k / 2) (k % 2) w.toNat id R K j≠z32:=z
     show (s1 j).v R K j=setV (s1 i).v (k / 2) (k % 2) w.toNat id R K j
     unfold setV at z ⊢
     split at z
     . rename_i t
       rw [if_pos t]
       obtain ⟨rfl,rfl,rfl⟩:=t
       have hh:vtN x.ids k=id:=hide.symm
       have:=(ha.up a3.up) hj hk k (by omega) (by rw [hh];exact hid)
       rw [hh]at this;exact this
     . rename_i t
       rw [if_neg t]
       exact a1.auth i j hi hj R K z
   . rename_i hc
     rw [if_neg hc]
     exact a1.auth i j hi hj R K z
  obtain ⟨s2,b1,b2,b3⟩:=a2.op (x:=⟨3,((k / 2:Nat):Int),((k % 2:Nat):Int),w,0,id⟩) a1 hi (by show ((3:Int)≠6);omega) e (fun id' z=>by
   unfold giveK at z
   rw [if_neg (by show ¬ ((3:Int)=1∨(3:Int)=7);omega)]at z
   exact a2.par.kb id' z)
  exact ⟨s2,b1,b2,a3.trans b3⟩
theorem Bf6 {w:Int} {x:M} (h:AllC n Hn s) (hi:Hn i) (p:Par n Hn H s i c) (ha:0<=w->w≠i->AuthM n Hn s w.toNat x):∃ s',StepOk n Hn H i s s' (c.Hear w x).1 (c.Hear w x).2:=by
 unfold Co.Hear
 split
 . exact ⟨s,.rfl' h p⟩
 rename_i hd
 have hw0:0<=w:=by apply Int.not_lt.1;intro z;exact hd (.inr (.inl z))
 have hwi:w≠(i:Int):=fun z=>hd (.inr (.inr (.inr (.inl (by rw [z,p.hm])))))
 split
 . split
   . exact ⟨s,.rfl' h p⟩
   obtain ⟨s1,a1,a2,a3⟩:=Mid.know (b:=x.data) h hi p
   obtain ⟨s2,b1,b2,b3⟩:=a2.also (x:=⟨2,x.round,0,0,x.valid,batchI x.data⟩) a1 hi a3 (by show ((2:Int)≠6);omega) (by show ((2:Int)≠3);omega) (by show ((2:Int)≠1);omega) (by show ((2:Int)≠7);omega)
   exact ⟨s2,b2.act b1 b3⟩
 split
 . rename_i k4
   obtain ⟨s1,a1,a2,a3⟩:=A44 h hi p hw0 hwi k4 (ha hw0 hwi) (min x.ids.length 24) (Nat.min_le_right _ _)
   exact ⟨s1,a2.act a1 a3⟩
 split
 . split
   . exact ⟨s,.rfl' h p⟩
   obtain ⟨s1,a1,a2,a3⟩:=Mid.know (c:={ c with gave:=c.gave++[w] }) (b:=x.data) h hi { p with }
   exact ⟨s1,a2.act a1 a3⟩
 . have m : Mid n Hn H s i c [] := ⟨p, fun a q => by cases q⟩
   exact ⟨s,m.act h .rfl'⟩
theorem A45 (h:AllC n Hn s) (hi:Hn i) (p:Par n Hn H s i c):∀ k,∃ s',AllC n Hn s'/\Mid n Hn H s' i (c.tickI k).1 (c.tickI k).2/\Advn n Hn i s s' (c.tickI k).2
 | 0=>⟨s,h,⟨{ p with },fun a q=>by cases q⟩,.rfl'⟩
 | k+1=>by
  obtain ⟨s1,a1,a2,a3⟩:=A45 h hi p k
  cases hx:(overL (c.now+1) c.tim)[k]? with
  | none =>
   have e:c.tickI (k+1)=c.tickI k:=by
    have hl:=List.getElem?_eq_none_iff.1 hx
    unfold Co.tickI;rw [List.take_of_length_le (by omega),List.take_of_length_le hl]
   rw [e];exact ⟨s1,a1,a2,a3⟩
  | some x =>
   have em:c.tickI (k+1)=Co.tick1 (c.tickI k) x:=by unfold Co.tickI;exact As1 hx
   rw [em]
   generalize c.tickI k=y at *
   obtain ⟨s2,b1,b2,b3⟩:=a2.also (x:=⟨4,x.2.1,x.2.2,0,0,z32⟩) a1 hi a3 (by show ((4:Int)≠6);omega) (by show ((4:Int)≠3);omega) (by show ((4:Int)≠1);omega) (by show ((4:Int)≠7);omega)
   exact ⟨s2,b1,b2,b3⟩
theorem AS4 {c:Co} {l:List M} {m:M} (h:m∈again c l):m∈l∨m=(c.offer c.rd.now).1∨m=valMsg c∨m=stMsg c.rd:=by
 unfold again at h
 have h3:m∈o2 c (o1 c l)∨m=stMsg c.rd:=by
  unfold o3 at h;split at h
  . rcases List.mem_append.1 h with q | q
    . exact .inl q
    . exact .inr (List.mem_singleton.1 q)
  . exact .inl h
 rcases h3 with h3 | h3
 rotate_left
 . exact .inr (.inr (.inr h3))
 have h2:m∈o1 c l∨m=valMsg c:=by
  unfold o2 at h3;split at h3
  . rcases List.mem_append.1 h3 with q | q
    . exact .inl q
    . exact .inr (List.mem_singleton.1 q)
  . exact .inl h3
 rcases h2 with h2 | h2
 rotate_left
 . exact .inr (.inr (.inl h2))
 unfold o1 at h2;split at h2
 . rcases List.mem_append.1 h2 with q | q
   . exact .inl q
   . exact .inr (.inl (List.mem_singleton.1 q))
 . exact .inl h2
theorem Bf7 {c:Co} {l:List M} {m:M} (h:m∈l):m∈again c l:=by
 have h1:m∈o1 c l:=by unfold o1;split;exact List.mem_append_left _ h;exact h
 have h2:m∈o2 c (o1 c l):=by unfold o2;split;exact List.mem_append_left _ h1;exact h1
 unfold again o3;split;exact List.mem_append_left _ h2;exact h2
theorem BC1 (h:AllC n Hn s) (hi:Hn i) (p:Par n Hn H s i c):∃ s',StepOk n Hn H i s s' c.Tick.1 c.Tick.2:=by
 have e:c.tickI (overL (c.now+1) c.tim).length=c.tickS:=by unfold Co.tickI Co.tickS;rw [List.take_length]
 obtain ⟨s1,a1,a2,a3⟩:=A45 h hi p (overL (c.now+1) c.tim).length
 rw [e]at a2 a3
 have k:=a2.act a1 a3
 refine ⟨s1,{ k with msg:=fun m hm k4=>?_,told:=?_ }⟩
 . rcases AS4 hm with q | q | q | q
   . exact k.msg m q k4
   . exact absurd k4 (by rw [q];exact AJ5 _ _)
   . exact absurd k4 (by rw [q];show ¬ ((5:Int)=4);omega)
   . exact q
 . rcases k.told with ⟨m, hm, k4⟩ | q
   . exact .inl ⟨m,Bf7 hm,k4⟩
   . exact .inr q
end
end Go.Sv
namespace Go.Sv
open Go
section
variable {n i:Nat} {Hn:Nat->Prop} {H:Int} {s s' s2:Nat->Led} {c:Co} {r:Rd} {f a b:Nat->Bts}
structure RI (n i:Nat) (H:Int) (r:Rd) (f:Nat->Bts):Prop where
 hn:r.n=n
 hm:r.me=i
 hh:r.height=H
 acts:r.acts=[]
 nokn:z32 ∉ r.known
 okn:okN n
 me:i < n
 own:∀ R K,r.v R K i=if R < 12/\K < 2 then f (2 * R+K) else z32
 oth:∀ R K j,j≠i->r.v R K j=z32
 now:-1<=r.now/\r.now < 12
 neg:r.now < 0->r.step=3
 st0:r.step≠0
 s1:r.step=1->r.v r.now.toNat 1 i=z32
 later:∀ (R K:Nat),r.now < R->r.v R K i=z32
 at_:0<=r.now->∃ K,r.v r.now.toNat K i≠z32
 lockle:r.locked<=r.now+1
 lockp:0<=r.locked
 h3:∀ R:Nat,r.v R 1 i≠z32->r.v R 1 i≠n32->(R:Int)+1<=r.locked
 h5:0 < r.locked->r.v (r.locked - 1).toNat 1 i=r.lock/\r.lock≠z32/\r.lock≠n32
theorem RI.congr (h:RI n i H r f) (e:∀ x,x < 24->a x=f x):RI n i H r a:=by
 have own:∀ R K,r.v R K i=if R < 12/\K < 2 then a (2 * R+K) else z32:=fun R K=>by
  rw [h.own R K]
  split
  . rename_i q;exact (e _ (by omega)).symm
  . rfl
 exact { h with own:=own }
theorem ri0 (hn:okN n) (hm:i < n):RI n i H (rd0 n i H) fun _=>z32 :=
 { hn := rfl, hm := rfl, hh := rfl, acts := rfl, nokn := by simp [rd0], okn := hn, me := hm, own := fun R K => by split <;> rfl, oth := fun _ _ _ _ => rfl
   now:=⟨by show (-1:Int)<=-1;omega,by show (-1:Int) < 12;omega⟩,neg:=fun _=>rfl,st0:=by show (3:Int)≠0;omega,s1:=fun q=>by simp [rd0]at q,later:=fun _ _ _=>rfl
   at_:=fun q=>by have q:(0:Int)<=-1:=q;omega,lockle:=by show (0:Int)<=-1+1;omega,lockp:=by show (0:Int)<=0;omega,h3:=fun R q=>absurd rfl q,h5:=fun q=>by have q:(0:Int) < 0:=q;omega }
theorem RI.vote (h:RI n i H r f) {x:Nat} {id:Bts} (hx:id≠z32->f x=z32->∀ y,y < 24->f y≠z32->y < x) :
 RI n i H (r.Recall ⟨2,((x / 2:Nat):Int),((x % 2:Nat):Int),0,id⟩) fun y=>if y=x/\id≠z32/\f x=z32 then id else f y:=by
 by_cases hz:id=z32
 . have e : r.Recall ⟨2, ((x / 2 : Nat) : Int), ((x % 2 : Nat) : Int), 0, id⟩ = r := by unfold Rd.Recall; rw [if_pos (.inr (.inr hz))]
   rw [e]
   exact h.congr fun y _=>by rw [if_neg (fun q=>q.2.1 hz)]
 by_cases h24:x < 24
 rotate_left
 . have e : r.Recall ⟨2, ((x / 2 : Nat) : Int), ((x % 2 : Nat) : Int), 0, id⟩ = r := by unfold Rd.Recall; rw [if_pos (.inr (.inl (by show ((x / 2 : Nat) : Int) >= 12; omega)))]
   rw [e]
   exact h.congr fun y hy=>by rw [if_neg (fun q=>by omega)]
 have hown:=h.own (x / 2) (x % 2)
 rw [if_pos ⟨by omega,by omega⟩,show 2 * (x / 2)+x % 2=x by omega]at hown
 have hr:right r.n ((x / 2:Nat):Int) ((x % 2:Nat):Int) (r.me:Int):=⟨by omega,by omega,by omega,by omega,by rw [h.hn,h.hm];have:=h.me;omega⟩
 by_cases hf:f x=z32
 rotate_left
 . have e : r.Recall ⟨2, ((x / 2 : Nat) : Int), ((x % 2 : Nat) : Int), 0, id⟩ = r := by
    unfold Rd.Recall
    rw [if_neg (by show ¬ (((x / 2:Nat):Int) < 0∨((x / 2:Nat):Int) >= 12∨id=z32);rintro (q | q | q);omega;omega;exact hz q),if_neg (by show ¬ ((2:Int)=1);omega),if_pos rfl,if_pos]
    show putC r.n r.v ((x / 2:Nat):Int) ((x % 2:Nat):Int) r.me id≠0
    unfold putC
    rw [if_neg (fun q=>q.elim (fun q=>q hr) hz),if_pos]
    . omega
    . show r.v (x / 2) (x % 2) r.me ≠ z32
      rw [h.hm,hown];exact hf
   rw [e]
   exact h.congr fun y _=>by rw [if_neg (fun q=>hf q.2.2)]
 have hv0:r.v (x / 2) (x % 2) r.me=z32:=by rw [h.hm,hown];exact hf
 have hp:putC r.n r.v ((x / 2:Nat):Int) ((x % 2:Nat):Int) r.me id=0:=AS1 hr hz hv0
 have hlt:=hx hz hf
 have hnow:¬ (((x / 2:Nat):Int) < r.now):=by
  intro q
  obtain ⟨K,hK⟩:=h.at_ (by omega)
  rw [h.own]at hK
  split at hK
  . rename_i z
    have:=hlt _ (by omega) hK
    omega
  . exact hK rfl
 have hput:putV r.n r.v ((x / 2:Nat):Int) ((x % 2:Nat):Int) r.me id=setV r.v (x / 2) (x % 2) i id:=by unfold putV;rw [if_pos hp,h.hm];rfl
 obtain ⟨v',hv'⟩:∃ v',v'=setV r.v (x / 2) (x % 2) i id:=⟨_,rfl⟩
 have own':∀ R K,v' R K i=if R < 12/\K < 2 then (if 2 * R+K=x/\id≠z32/\f x=z32 then id else f (2 * R+K)) else z32:=by
  intro R K
  rw [hv']
  by_cases q:R=x / 2/\K=x % 2
  . obtain ⟨rfl, rfl⟩ := q
    rw [Al8,if_pos ⟨by omega,by omega⟩,if_pos ⟨by omega,hz,hf⟩]
  . rw [Ac5 q, h.own]
    split
    . rename_i z;rw [if_neg (fun w=>q ⟨by omega,by omega⟩)]
    . rfl
 have oth':∀ R K j,j≠i->v' R K j=z32:=fun R K j hj=>by rw [hv',Ax4 hj];exact h.oth R K j hj
 have up':∀ R K,r.v R K i≠z32->v' R K i=r.v R K i:=fun R K q=>by
  rw [hv',Ac5]
  rintro ⟨rfl,rfl⟩
  exact q (by rw [h.hm]at hv0;exact hv0)
 have at':v' (x / 2) (x % 2) i=id:=by rw [hv',Al8]
 have nz':∀ R K,v' R K i≠z32->R<=x / 2/\(R=x / 2->K<=x % 2):=by
  intro R K q
  rw [own']at q
  split at q
  rotate_left
  . exact absurd rfl q
  rename_i z
  split at q
  . rename_i w;exact ⟨by omega,by omega⟩
  . have:=hlt _ (by omega) q;exact ⟨by omega,by omega⟩
 have step1:((1:Int)+((x % 2:Nat):Int)=1)->v' (x / 2) 1 i=z32:=fun q=>by
  apply Classical.byContradiction;intro w
  have:=(nz' _ _ w).2 rfl
  omega
 have later':∀ R K:Nat,((x / 2:Nat):Int) < R->v' R K i=z32:=fun R K q=>by
  apply Classical.byContradiction;intro w
  have:=(nz' _ _ w).1
  omega
 have hnowb:=h.now
 have hle:r.now<=((x / 2:Nat):Int):=by omega
 unfold Rd.Recall
 rw [if_neg (by show ¬ (((x / 2:Nat):Int) < 0∨((x / 2:Nat):Int) >= 12∨id=z32);rintro (q | q | q);omega;omega;exact hz q),if_neg (by show ¬ ((2:Int)=1);omega),if_pos rfl,if_neg (by show ¬ (putC r.n r.v ((x / 2:Nat):Int) ((x % 2:Nat):Int) r.me id≠0);rw [hp];simp)]
 simp only []
 rw [hput,<- hv',if_neg hnow]
 by_cases hl:((x % 2:Nat):Int)=1/\id≠n32
 . rw [if_pos hl]
   exact { hn := h.hn, hm := h.hm, hh := h.hh, acts := h.acts, nokn := h.nokn, okn := h.okn, me := h.me, own := own', oth := oth', now := ⟨by show -1 <= ((x / 2 : Nat) : Int); omega, by show ((x / 2 : Nat) : Int) < 12; omega⟩, neg := fun q => by have q : ((x / 2 : Nat) : Int) < 0 := q; omega, st0 := by show (1 : Int) + ((x % 2 : Nat) : Int) ≠ 0; omega, s1 := fun q => step1 q, later := later', at_ := fun _ => ⟨x % 2, by show v' (x / 2) (x % 2) i ≠ z32; rw [at']; exact hz⟩
           lockle:=by show ((x / 2:Nat):Int)+1<=((x / 2:Nat):Int)+1;omega,lockp:=by show (0:Int)<=((x / 2:Nat):Int)+1;omega,h3:=fun R q _=>by show (R:Int)+1<=((x / 2:Nat):Int)+1;have:=(nz' _ _ q).1;omega
           h5:=fun _=>⟨by show v' (((x / 2:Nat):Int)+1 - 1).toNat 1 i=id;rw [show (((x / 2:Nat):Int)+1 - 1).toNat=x / 2 by omega,show (1:Nat)=x % 2 by omega];exact at',hz,hl.2⟩ }
 . rw [if_neg hl]
   have k3:∀ R:Nat,v' R 1 i≠z32->v' R 1 i≠n32->(R:Int)+1<=r.locked:=by
    intro R q1 q2
    by_cases q:R=x / 2/\1=x % 2
    . obtain ⟨rfl, q⟩ := q
      rw [q,at']at q2
      exact absurd ⟨by omega,q2⟩ hl
    . rw [hv', Ac5 q] at q1 q2
      exact h.h3 R q1 q2
   have hll:=h.lockle
   have k5:0 < r.locked->v' (r.locked - 1).toNat 1 i=r.lock/\r.lock≠z32/\r.lock≠n32:=fun q=>by
    obtain ⟨z1,z2,z3⟩:=h.h5 q
    exact ⟨by rw [up' _ _ (by rw [z1];exact z2),z1],z2,z3⟩
   exact { hn := h.hn, hm := h.hm, hh := h.hh, acts := h.acts, nokn := h.nokn, okn := h.okn, me := h.me, own := own', oth := oth', now := ⟨by show -1 <= ((x / 2 : Nat) : Int); omega, by show ((x / 2 : Nat) : Int) < 12; omega⟩, neg := fun q => by have q : ((x / 2 : Nat) : Int) < 0 := q; omega, st0 := by show (1 : Int) + ((x % 2 : Nat) : Int) ≠ 0; omega, s1 := fun q => step1 q, later := later', at_ := fun _ => ⟨x % 2, by show v' (x / 2) (x % 2) i ≠ z32; rw [at']; exact hz⟩
           lockle:=by show r.locked<=((x / 2:Nat):Int)+1;omega,lockp:=h.lockp,h3:=k3,h5:=k5 }
theorem RI.state (h:RI n i H r a) {ids:List Bts} (he:ExtN a (vtN ids)) (hl:ids.length<=24):RI n i H (recS r ids) (vtN ids):=by
 have key:∀ k,k<=ids.length->RI n i H (recI r ids k) fun y=>if y < k then vtN ids y else a y:=by
  intro k
  induction k with
  | zero=>intro _;exact h.congr fun y _=>by rw [if_neg (by omega)]
  | succ k ih =>
   intro hk
   have ih:=ih (by omega)
   rw [Aq6]
   unfold rec1
   have e:(ids[k]?).getD z32=vtN ids k:=rfl
   rw [e]
   have m:=ih.vote (x:=k) (id:=vtN ids k) (fun q1 q2 y hy q3=>by
    rw [if_neg (Nat.lt_irrefl k)]at q2
    apply Classical.byContradiction;intro w
    rw [if_neg w]at q3
    have:=he.lt y k q3 q2 q1
    omega)
   refine m.congr fun y hy=>?_
   rw [if_neg (Nat.lt_irrefl k)]
   by_cases e1:y=k
   . subst e1
     rw [if_pos (show y < y+1 by omega)]
     by_cases q:vtN ids y≠z32/\a y=z32
     . rw [if_pos (show y=y/\vtN ids y≠z32/\a y=z32 from ⟨rfl,q⟩)]
     . rw [if_neg (show ¬ (y = y /\ vtN ids y ≠ z32 /\ a y = z32) from fun z => q z.2), if_neg (Nat.lt_irrefl y)]
       by_cases q2:a y=z32
       . have : vtN ids y = z32 := Classical.byContradiction fun w => q ⟨w, q2⟩
         rw [this,q2]
       . exact he.st y q2
   . rw [if_neg (show ¬ (y = k /\ vtN ids k ≠ z32 /\ a k = z32) from fun z => e1 z.1)]
     by_cases q:y < k
     . rw [if_pos q,if_pos (show y < k+1 by omega)]
     . rw [if_neg q,if_neg (show ¬ y < k+1 by omega)]
 refine (key ids.length (Nat.le_refl _)).congr fun y hy=>?_
 by_cases q:y < ids.length
 . rw [if_pos q]
 . rw [if_neg q]
   have hv:vtN ids y=z32:=by unfold vtN;rw [List.getElem?_eq_none_iff.2 (by omega)];rfl
   rw [hv]
   apply Classical.byContradiction;intro w
   have:=he.st y (fun z=>w z.symm)
   rw [hv]at this
   exact w this
theorem RI.remember (h:RI n i H r f) (id:Bts):RI n i H (r.Remember id) f:=by
 have e:=Ah3 r id
 rw [e]
 exact { h with nokn:=Aq2 h.nokn id }
theorem RI.send (h:RI n i H r f) (R V:Int) (id:Bts):RI n i H (r.Recall ⟨1,R,0,V,id⟩) f:=by
 unfold Rd.Recall
 split
 . exact h
 . rw [if_pos rfl]
   split
   . exact { h with }
   . exact h
structure CR (n i:Nat) (H:Int) (c:Co) (f:Nat->Bts):Prop where
 ri:RI n i H c.rd f
 bat:∀ p∈c.bat,p.1=batchI p.2
 kb:∀ id∈c.rd.known,lookL c.bat id≠none
 nov:c.over=false
theorem cr0 (hn:okN n) (hm:i < n):CR n i H (co0 n i H) fun _=>z32:=⟨ri0 hn hm,(fun p q=>by cases q),(fun p q=>by cases q),rfl⟩
theorem CR.recP (h:CR n i H c f) (x:M):CR n i H (c.recP x) f:=by
 refine ⟨(h.ri.remember _).send _ _ _,AN3 h.bat,fun id q=>?_,h.nov⟩
 have q:id∈((c.rd.Remember (batchI x.data)).Recall ⟨1,x.round,0,x.valid,batchI x.data⟩).known:=q
 have e:((c.rd.Remember (batchI x.data)).Recall ⟨1,x.round,0,x.valid,batchI x.data⟩).known=(c.rd.Remember (batchI x.data)).known:=by
  unfold Rd.Recall
  split
  . rfl
  . rw [if_pos rfl];split <;> rfl
 rw [e]at q
 show lookL (haveB c.bat x.data) id≠none
 rcases Aq7 q with z | rfl
 . exact Av8 (h.kb id z)
 . exact As2 _ _
theorem AJ6 (r:Rd) (ids:List Bts):∀ k,(recI r ids k).known=r.known
 | 0=>rfl
 | k+1=>by
  rw [Aq6]
  refine Eq.trans ?_ (AJ6 r ids k)
  unfold rec1 Rd.Recall
  repeat' split
  all_goals first | rfl | (simp only [];repeat' split)
  all_goals rfl
def Chn:(Nat->Bts)->List M->(Nat->Bts)->Prop
 | a,[],b=>b=a
 | a,m::l,b=>if m.kind=4 then ExtN a (vtN m.ids)/\m.ids.length<=24/\Chn (vtN m.ids) l b else Chn a l b
theorem CR.log:∀ {l:List M} {c:Co} {a b:Nat->Bts},CR n i H c a->Chn a l b->(∀ m∈l,m.kind=4->m.height=H)->CR n i H (c.Recall l) b
 | [],c,a,b,h,k,_=>by
  have k:b=a:=k
  subst k;exact h
 | m::l,c,a,b,h,k,hh=>by
  have hh':∀ m∈l,m.kind=4->m.height=H:=fun x q=>hh x (List.mem_cons_of_mem _ q)
  show CR n i H (Co.Recall (Co.recall1 c m) l) b
  unfold Chn at k
  split at k
  . rename_i k4
    refine CR.log (a:=vtN m.ids) ?_ k.2.2 hh'
    have e:Co.recall1 c m={ c with rd:=recS c.rd m.ids }:=by
     unfold Co.recall1
     rw [if_neg (by have:=hh m List.mem_cons_self k4;have:=h.ri.hh;omega),if_neg (by omega),if_pos k4]
    rw [e]
    exact ⟨h.ri.state k.1 k.2.1,h.bat,fun id q=>h.kb id (by have q:id∈(recI c.rd m.ids m.ids.length).known:=q;rw [AJ6]at q;exact q),h.nov⟩
  . rename_i k4
    refine CR.log (a:=a) ?_ k hh'
    unfold Co.recall1
    split
    . exact h
    split
    . exact h.recP m
    first | exact h | (rw [if_neg k4];exact h)
theorem CR.heard:∀ {l:List M} {c:Co},CR n i H c f->(∀ m∈l,m.kind≠4)->CR n i H (c.Recall l) f
 | [],c,h,_=>h
 | m::l,c,h,hh=>by
  show CR n i H (Co.Recall (Co.recall1 c m) l) f
  refine CR.heard ?_ (fun x q=>hh x (List.mem_cons_of_mem _ q))
  unfold Co.recall1
  split
  . exact h
  split
  . exact h.recP m
  first | exact h | (rw [if_neg (hh m List.mem_cons_self)];exact h)
theorem CR.par (h:CR n i H c (ownN (s i) i)) (ha:AllC n Hn s) (hi:Hn i) (hv:VIn (s i).v):∃ s',AllC n Hn s'/\Par n Hn H s' i c/\OwnUp n Hn s s'/\(∀ j,j≠i->s' j=s j)/\ownN (s' i) i=ownN (s i) i:=by
 obtain ⟨x,hx⟩:∃ x:Led,x=⟨c.rd.v,fun j=>(c.rd.offers j).there,c.rd.timed,(c.rd.locked,c.rd.lock),c.rd.now,false⟩:=⟨_,rfl⟩
 have hxv:x.v=c.rd.v:=by rw [hx]
 have hown:∀ R K,x.v R K i=(s i).v R K i:=fun R K=>by
  rw [hxv,h.ri.own]
  split
  . rename_i q
    unfold ownN
    rw [if_pos (by omega),show (2 * R+K) / 2=R by omega,show (2 * R+K) % 2=K by omega]
  . rename_i q
    apply Classical.byContradiction;intro w
    exact q (hv R K i (fun z=>w z.symm))
 have hu:OwnUp n Hn s (updS s i x):=fun j hj R K q=>by
  by_cases e:j=i
  . subst e;rw [Ae0];exact hown R K
  . rw [Ai2 s x e]
 have k:=ha.hist i hi
 refine ⟨updS s i x,⟨ha.ok,fun j hj=>?_,fun a b ha' hb R K q=>?_⟩,?_,hu,fun j hj=>Ai2 s x hj,?_⟩
 . by_cases e : j = i
   . subst e
     refine ⟨?_,?_,?_,?_,?_,?_⟩ <;> rw [Ae0]
     . intro R a b;rw [hown]at a b ⊢;exact (k.h1 R a b).up hu
     . intro R1 R2 hlt a b c d f
       rw [hown]at a b c d f ⊢;rw [hown]at f
       obtain ⟨k',x1,x2,x3⟩:=k.h2 R1 R2 hlt a b c d f
       exact ⟨k',x1,x2,x3.up hu⟩
     . intro R a b;rw [hxv]at a b;rw [hx];exact h.ri.h3 R a b
     . intro a;rw [hxv];rw [hx]at a ⊢;exact h.ri.h5 a
     . rw [hx];exact h.ri.lockp
     . intro R K a
       rw [hxv]at a;rw [hx]
       apply Int.not_lt.1;intro w
       exact a (h.ri.later R K w)
   . exact (ha.hist j hj).other e hu
 . have hob : ∀ R K, (updS s i x b).v R K b = (s b).v R K b := fun R K => by
    by_cases e:b=i
    . subst e;rw [Ae0];exact hown R K
    . rw [Ai2 s x e]
   by_cases e:a=i
   . subst e
     rw [Ae0]at q ⊢
     by_cases e2:b=a
     . subst e2;rw [Ae0]
     . rw [hxv,h.ri.oth R K b e2]at q;exact absurd rfl q
   . rw [Ai2 s x e] at q ⊢
     rw [hob]
     exact ha.auth a b ha' hb R K q
 . have es : (updS s i x) i = x := Ae0 _ _ _
   have hvin:VIn x.v:=by
    intro R K j q
    rw [hxv]at q
    by_cases e:j=i
    . subst e
      rw [h.ri.own]at q
      split at q
      . rename_i z;exact z
      . exact absurd rfl q
    . rw [h.ri.oth R K j e]at q;exact absurd rfl q
   have hmt:Mt x c.rd:=by
    rw [hx]
    exact { v := rfl, off := fun _ => rfl, tim := rfl, lk := rfl, top := Int.le_refl _, done := fun q => (by cases q), nokn := h.ri.nokn, okn := by rw [h.ri.hn]; exact h.ri.okn, me := by rw [h.ri.hn, h.ri.hm]; exact h.ri.me, now := h.ri.now, neg := h.ri.neg, later := fun R K q => by rw [h.ri.hm]; exact h.ri.later R K q
            s0:=fun q=>absurd q h.ri.st0,s1:=fun q=>by rw [h.ri.hm];exact h.ri.s1 q,lockle:=h.ri.lockle,lock0:=fun q=>absurd q h.ri.st0,lockp:=h.ri.lockp }
   exact ⟨by rw [es];exact hmt,h.ri.acts,h.ri.hn,h.ri.hm,h.ri.hh,by rw [es];exact hvin,h.bat,h.kb,fun q=>by rw [h.nov]at q;cases q⟩
 . rw [Ae0]
   funext y;unfold ownN;rw [hown]
theorem Ay8:∀ {l out:List M} {a b b':Nat->Bts},Chn a l b->ExtN b b'->(∀ m∈out,m.kind=4->m.ids.length<=24/\vtN m.ids=b')->((∃ m∈out,m.kind=4)∨b'=b)->Chn a (l++out) b'
 | m::l,out,a,b,b',h,he,hm,ht=>by
  show Chn a (m::(l++out)) b'
  unfold Chn at h ⊢
  split
  . rename_i q;rw [if_pos q]at h;exact ⟨h.1,h.2.1,Ay8 h.2.2 he hm ht⟩
  . rename_i q;rw [if_neg q]at h;exact Ay8 h he hm ht
 | [],[],a,b,b',h,he,hm,ht=>by
  rcases ht with ⟨m,q,_⟩ | rfl
  . cases q
  . exact h
 | [],m::out,a,b,b',h,he,hm,ht=>by
  have hm':∀ m∈out,m.kind=4->m.ids.length<=24/\vtN m.ids=b':=fun x q=>hm x (List.mem_cons_of_mem _ q)
  have h:b=a:=h
  subst h
  show Chn b (m::out) b'
  unfold Chn
  split
  . rename_i k4
    obtain ⟨q1,q2⟩:=hm m List.mem_cons_self k4
    refine ⟨by rw [q2];exact he,q1,Ay8 (l:=[]) (b:=vtN m.ids) rfl (by rw [q2];exact .rfl') hm' (.inr q2.symm)⟩
  . rename_i k4
    refine Ay8 (l:=[]) (b:=b) rfl he hm' ?_
    rcases ht with ⟨x,q,k⟩ | e
    . rcases List.mem_cons.1 q with rfl | q
      . exact absurd k k4
      . exact .inl ⟨x,q,k⟩
    . exact .inr e
end
end Go.Sv
namespace Go.Sv
open Go
section
variable {S S':Bts->Prop} {r r' r2:Rd} {c c':Co}
structure PO (S:Bts->Prop) (r:Rd):Prop where
 vl0:0<=r.valid
 vl:r.valid<=r.now+1
 of_:∀ R:Nat,(r.offers R).there=true->proposer r.n r.height R=r.me->S (r.offers R).id/\(r.offers R).id≠z32/\0<=(r.offers R).valid/\(r.offers R).valid<=R
 kn:∀ id∈r.known,S id
 fr:r.fresh=z32∨S r.fresh
def OffUp (r r':Rd):Prop:=∀ R,(r.offers R).there=true->r'.offers R=r.offers R
structure PS (S:Bts->Prop) (r r':Rd):Prop where
 po:PO S r->PO S r'
 up:OffUp r r'
theorem OffUp.trans (h:OffUp r r') (k:OffUp r' r2):OffUp r r2:=fun R q=>by
 have:=h R q
 rw [k R (by rw [this];exact q),this]
theorem PS.rfl':PS S r r:=⟨id,fun _ _=>rfl⟩
theorem PS.trans (h:PS S r r') (k:PS S r' r2):PS S r r2:=⟨fun q=>k.po (h.po q),h.up.trans k.up⟩
theorem PS.same (hn:r'.n=r.n) (hm:r'.me=r.me) (hh:r'.height=r.height) (ho:r'.offers=r.offers) (hk:r'.known=r.known) (hf:r'.fresh=r.fresh) (hv:0<=r.valid->r.valid<=r.now+1->0<=r'.valid/\r'.valid<=r'.now+1):PS S r r' :=
 ⟨fun h=>⟨(hv h.vl0 h.vl).1,(hv h.vl0 h.vl).2,by rw [hn,hm,hh,ho];exact h.of_,by rw [hk];exact h.kn,by rw [hf];exact h.fr⟩,fun R _=>by rw [ho]⟩
theorem PO.mono (h:PO S r) (hs:∀ x,S x->S' x):PO S' r:=⟨h.vl0,h.vl,fun R q w=>⟨hs _ (h.of_ R q w).1,(h.of_ R q w).2⟩,fun x q=>hs x (h.kn x q),h.fr.imp_right (hs _)⟩
def inB (c:Co):Bts->Prop:=fun id=>lookL c.bat id≠none
structure PCo (c c':Co):Prop where
 po:PO (inB c) c.rd->PO (inB c') c'.rd
 up:OffUp c.rd c'.rd
 kn:Kn c.rd c'.rd
theorem PCo.rfl' (c:Co):PCo c c:=⟨id,fun _ _=>rfl,.rfl' _⟩
theorem PCo.trans {c2:Co} (h:PCo c c') (k:PCo c' c2):PCo c c2:=⟨fun q=>k.po (h.po q),h.up.trans k.up,h.kn.trans k.kn⟩
theorem PCo.op {rd':Rd} (h:PS (inB c) c.rd rd') (hk:Kn c.rd rd'):PCo c { c with rd:=rd' }:=⟨h.po,h.up,hk⟩
theorem Bq2 {r:Rd} {R:Int} (h:(offI r R).there=true):0<=R/\R < 12:=by
 unfold offI at h
 split at h
 . cases h
 . omega
structure OfM (c:Co) (m:M):Prop where
 hh:m.height=c.rd.height
 r0:0<=m.round
 r12:m.round < 12
 of_:c.rd.offers m.round.toNat=⟨true,m.valid,m.id⟩
 id_:batchI m.data=m.id
 nz:m.id≠z32
 v0:0<=m.valid
 vr:m.valid<=m.round
def OfL (c:Co) (L:List M):Prop:=∀ m∈L,m.kind=3->OfM c m
theorem OfL.up {L:List M} (h:OfL c L) (k:PCo c c'):OfL c' L:=fun m hm k3=>by
 have q:=h m hm k3
 exact { q with hh:=q.hh.trans k.kn.height.symm,of_:=by rw [k.up _ (by rw [q.of_])];exact q.of_ }
theorem OfL.app {L L':List M} (h:OfL c L) (k:OfL c L'):OfL c (L++L'):=fun m hm k3=>(List.mem_append.1 hm).elim (fun q=>h m q k3) fun q=>k m q k3
theorem A96 {R:Int} (hp:PO (inB c) c.rd) (hb:∀ p∈c.bat,p.1=batchI p.2) (h3:(c.offer R).1.kind=3):OfM c (c.offer R).1:=by
 unfold Co.offer at h3 ⊢
 split
 . rename_i q
   have hR:=Bq2 q.1
   have e:offI c.rd R=c.rd.offers R.toNat:=by unfold offI;rw [if_neg (by omega)]
   rw [e]at q ⊢
   have hR2:((R.toNat:Nat):Int)=R:=Int.toNat_of_nonneg hR.1
   obtain ⟨a1,a2,a3,a4⟩:=hp.of_ R.toNat q.1 (by rw [hR2];exact q.2)
   refine ⟨rfl,hR.1,hR.2,?_,?_,a2,a3,by show (c.rd.offers R.toNat).valid<=R;omega⟩
   . show c.rd.offers R.toNat = ⟨true, (c.rd.offers R.toNat).valid, (c.rd.offers R.toNat).id⟩
     rw [<- q.1]
   . show batchI ((lookL c.bat (c.rd.offers R.toNat).id).getD []) = (c.rd.offers R.toNat).id
     cases w:lookL c.bat (c.rd.offers R.toNat).id with
     | none=>exact absurd w a1
     | some b=>exact (hb _ (Am6 w)).symm
 . rename_i q
   rw [if_neg q]at h3
   have h3:(0:Int)=3:=h3
   omega
theorem AE6 {c c2:Co} (h1:c2.rd=c.rd) (h2:c2.bat=c.bat) (R:Int):c2.offer R=c.offer R:=by unfold Co.offer;rw [h1,h2]
theorem A46 (r:Rd) (a:Act):PO S r->(a.kind=1->proposer r.n r.height a.round=r.me->S a.id)->PO S (r.Recall a):=by
 intro h ha
 unfold Rd.Recall
 split
 . exact h
 rename_i q0
 split
 . rename_i k1
   split
   . rename_i q
     refine ⟨h.vl0,h.vl,fun A x w=>?_,h.kn,h.fr⟩
     show S (set1 r.offers a.round.toNat ⟨true,a.valid,a.id⟩ A).id/\(set1 r.offers a.round.toNat ⟨true,a.valid,a.id⟩ A).id≠z32/\0<=(set1 r.offers a.round.toNat ⟨true,a.valid,a.id⟩ A).valid/\(set1 r.offers a.round.toNat ⟨true,a.valid,a.id⟩ A).valid<=(A:Int)
     have x:(set1 r.offers a.round.toNat ⟨true,a.valid,a.id⟩ A).there=true:=x
     have w:proposer r.n r.height (A:Int)=r.me:=w
     unfold set1 at x ⊢
     by_cases e:A=a.round.toNat
     . rw [if_pos e]
       have hr0:0<=a.round:=by omega
       rw [e,Int.toNat_of_nonneg hr0]at w
       exact ⟨ha k1 w,fun z=>q0 (.inr (.inr z)),q.2.1,by show a.valid<=(A:Int);omega⟩
     . rw [if_neg e] at x ⊢
       exact h.of_ A x w
   . exact h
 split
 . split
   . exact h
   simp only []
   split
   . exact ⟨h.vl0,h.vl,h.of_,h.kn,h.fr⟩
   . rename_i k1 k2 hp hlt
     have hv:=h.vl;have hv0:=h.vl0
     split
     . exact ⟨by show 0<=a.round+1;omega,by show a.round+1<=a.round+1;omega,h.of_,h.kn,h.fr⟩
     . exact ⟨h.vl0,by show r.valid<=a.round+1;omega,h.of_,h.kn,h.fr⟩
 . exact h
end
end Go.Sv
namespace Go.Sv
open Go
section
variable {S S':Bts->Prop} {r r' r2:Rd} {c c' c0:Co} {P L own:List M} {H:Int}
structure RP (P:List M) (c:Co):Prop where
 po:PO (inB c) c.rd
 bat:∀ p∈c.bat,p.1=batchI p.2
 fwd:∀ m∈P,m.kind=3->c.rd.offers m.round.toNat=⟨true,m.valid,m.id⟩
 bwd:∀ R:Nat,(c.rd.offers R).there=true->∃ m∈P,m.kind=3/\m.round=R
theorem AZ4 (r:Rd) {a:Act} (h:a.kind=2):(r.Recall a).offers=r.offers:=by
 unfold Rd.Recall
 split
 . rfl
 try rw [if_neg (by omega)]
 try rw [if_pos h]
 split
 . rfl
 simp only []
 split
 . rfl
 . split <;> rfl
theorem AS5 {r:Rd} (ids:List Bts) (h:PO S r):∀ k,PO S (recI r ids k)/\(recI r ids k).offers=r.offers/\(recI r ids k).height=r.height
 | 0=>⟨h,rfl,rfl⟩
 | k+1=>by
  obtain ⟨h1,h2,h3⟩:=AS5 ids h k
  rw [Aq6]
  unfold rec1
  exact ⟨A46 _ _ h1 (fun q=>by have q:(2:Int)=1:=q;omega),(AZ4 _ rfl).trans h2,(Am8 _ _).height.trans h3⟩
theorem RP.snoc {m:M} (h:RP P c) (h0:OfL c0 own) (hP:∀ x∈P,x∈own) (hm:m∈own) (hh:c.rd.height=c0.rd.height):RP (P++[m]) (Co.recall1 c m)/\(Co.recall1 c m).rd.height=c0.rd.height:=by
 have other:∀ {c':Co},m.kind≠3->PO (inB c') c'.rd->c'.bat=c.bat->c'.rd.offers=c.rd.offers->RP (P++[m]) c':=fun {c'} k3 hp hb ho=>by
  refine ⟨hp,by rw [hb];exact h.bat,fun x hx k=>?_,fun R q=>?_⟩
  . rw [ho]
    rcases List.mem_append.1 hx with q | q
    . exact h.fwd x q k
    . rw [List.mem_singleton.1 q]at k;exact absurd k k3
  . rw [ho] at q
    obtain ⟨x,x1,x2⟩:=h.bwd R q
    exact ⟨x,List.mem_append_left _ x1,x2⟩
 unfold Co.recall1
 by_cases k3:m.kind=3
 rotate_left
 . by_cases q1 : m.height ≠ c.rd.height
   . rw [if_pos q1];exact ⟨other k3 h.po rfl rfl,hh⟩
   rw [if_neg q1,if_neg k3]
   by_cases q4:m.kind=4
   . rw [if_pos q4]
     obtain ⟨a1,a2,a3⟩:=AS5 m.ids h.po m.ids.length
     exact ⟨other k3 a1 rfl a2,a3.trans hh⟩
   . rw [if_neg q4];exact ⟨other k3 h.po rfl rfl,hh⟩
 have g:=h0 m hm k3
 rw [if_neg (by rw [g.hh,hh];simp),if_pos k3]
 obtain ⟨rr,hrr⟩:∃ rr,rr=c.rd.Remember (batchI m.data):=⟨_,rfl⟩
 have er:=Ah3 c.rd (batchI m.data)
 have hro:rr.offers=c.rd.offers:=by rw [hrr,er]
 have hrn:rr.n=c.rd.n/\rr.me=c.rd.me/\rr.height=c.rd.height:=by rw [hrr,er];exact ⟨rfl,rfl,rfl⟩
 have hS:∀ x,inB c x->inB (c.have_ m.data) x:=fun x q=>Av8 q
 have hpr:PO (inB (c.have_ m.data)) rr:=by
  have p:=h.po.mono hS
  rw [hrr,er]
  exact ⟨p.vl0,p.vl,p.of_,fun x q=>(Aq7 q).elim (p.kn x) (fun z=>by rw [z];exact As2 _ _),p.fr⟩
 have hpo:PO (inB (c.recP m)) (c.recP m).rd:=by
  show PO (inB (c.have_ m.data)) ((c.rd.Remember (batchI m.data)).Recall ⟨1,m.round,0,m.valid,batchI m.data⟩)
  rw [<- hrr]
  exact A46 _ _ hpr (fun _ _=>As2 _ _)
 have hof:(c.recP m).rd.offers=if (c.rd.offers m.round.toNat).there=false then set1 c.rd.offers m.round.toNat ⟨true,m.valid,m.id⟩ else c.rd.offers:=by
  show ((c.rd.Remember (batchI m.data)).Recall ⟨1,m.round,0,m.valid,batchI m.data⟩).offers=_
  rw [<- hrr,g.id_]
  unfold Rd.Recall
  rw [if_neg (by show ¬ (m.round < 0∨m.round >= 12∨m.id=z32);have:=g.r0;have:=g.r12;rintro (q | q | q);omega;omega;exact g.nz q),if_pos rfl]
  show (if (rr.offers m.round.toNat).there=false/\m.valid >= 0/\m.valid<=m.round then ({ rr with offers:=set1 rr.offers m.round.toNat ⟨true,m.valid,m.id⟩ }:Rd) else rr).offers=_
  rw [hro]
  by_cases q:(c.rd.offers m.round.toNat).there=false
  . rw [if_pos ⟨q,g.v0,g.vr⟩,if_pos q]
  . rw [if_neg (fun z=>q z.1),if_neg q,hro]
 refine ⟨⟨hpo,AN3 h.bat,fun x hx k=>?_,fun R q=>?_⟩,?_⟩
 . rw [hof]
   have hxo:x∈own:=by
    rcases List.mem_append.1 hx with q | q
    . exact hP x q
    . rw [List.mem_singleton.1 q];exact hm
   have gx:=h0 x hxo k
   by_cases e:x.round=m.round
   . have ev : x.valid = m.valid /\ x.id = m.id := by
      have e1:=gx.of_;rw [e,g.of_]at e1
      injection e1 with _ e2 e3
      exact ⟨e2.symm,e3.symm⟩
     rw [e,ev.1,ev.2]
     split
     . unfold set1;rw [if_pos rfl]
     . rename_i q
       have q:(c.rd.offers m.round.toNat).there=true:=by simpa using q
       obtain ⟨y,y1,y2,y3⟩:=h.bwd _ q
       have gy:=h0 y (hP y y1) y2
       have ey:y.round=m.round:=by rw [y3];exact Int.toNat_of_nonneg g.r0
       have f:=h.fwd y y1 y2
       rw [ey]at f
       have e1:=gy.of_;rw [ey,g.of_]at e1
       injection e1 with _ e2 e3
       rw [f,e2,e3]
   . have hx' : x ∈ P := by
      rcases List.mem_append.1 hx with q | q
      . exact q
      . exact absurd (by rw [List.mem_singleton.1 q]) e
     have f:=h.fwd x hx' k
     have ne:¬ x.round.toNat=m.round.toNat:=by have:=gx.r0;have:=g.r0;omega
     split
     . unfold set1;rw [if_neg ne];exact f
     . exact f
 . rw [hof] at q
   split at q
   . unfold set1 at q
     by_cases e:R=m.round.toNat
     . exact ⟨m,List.mem_append_right _ (List.mem_singleton.2 rfl),k3,by rw [e];exact (Int.toNat_of_nonneg g.r0).symm⟩
     . rw [if_neg e] at q
       obtain ⟨x,x1,x2⟩:=h.bwd R q
       exact ⟨x,List.mem_append_left _ x1,x2⟩
   . obtain ⟨x, x1, x2⟩ := h.bwd R q
     exact ⟨x,List.mem_append_left _ x1,x2⟩
 . show ((c.rd.Remember (batchI m.data)).Recall ⟨1, m.round, 0, m.valid, batchI m.data⟩).height = c0.rd.height
   rw [(Am8 _ _).height,(Ap0 _ _).height,hh]
theorem RP.fold (h0:OfL c0 own):∀ {l P:List M} {c:Co},RP P c->(∀ x∈P,x∈own)->(∀ x∈l,x∈own)->c.rd.height=c0.rd.height->RP (P++l) (c.Recall l)
 | [],P,c,h,_,_,_=>by rw [List.append_nil];exact h
 | m::l,P,c,h,hP,hl,hh=>by
  have hm:=hl m List.mem_cons_self
  obtain ⟨k1,k2⟩:=h.snoc h0 hP hm hh
  have:=RP.fold h0 (l:=l) k1 (fun x q=>(List.mem_append.1 q).elim (hP x) fun z=>by rw [List.mem_singleton.1 z];exact hm) (fun x q=>hl x (List.mem_cons_of_mem _ q)) k2
  rw [List.append_assoc]at this
  exact this
theorem po0 (n i:Nat) (H:Int):PO (inB (co0 n i H)) (co0 n i H).rd :=
 ⟨by show (0:Int)<=0;omega,by show (0:Int)<=-1+1;omega,(fun R q=>by cases q),(fun x q=>by cases q),.inl rfl⟩
theorem AZ5 {n i:Nat} (h0:OfL c0 own) (hh:c0.rd.height=H):PO (inB ((co0 n i H).Recall own)) ((co0 n i H).Recall own).rd/\OfL ((co0 n i H).Recall own) own:=by
 have hr:RP [] (co0 n i H):=⟨po0 n i H,(fun p q=>by cases q),(fun m q=>by cases q),(fun R q=>by cases q)⟩
 have k:=RP.fold h0 (l:=own) hr (fun x q=>by cases q) (fun x q=>q) hh.symm
 have hhe:∀ (l:List M) (c:Co),(c.Recall l).rd.height=c.rd.height:=by
  intro l
  induction l with
  | nil=>exact fun c=>rfl
  | cons m l ih =>
   intro c
   refine (ih (Co.recall1 c m)).trans ?_
   unfold Co.recall1
   split
   . rfl
   split
   . show ((c.rd.Remember (batchI m.data)).Recall ⟨1, m.round, 0, m.valid, batchI m.data⟩).height = _
     rw [(Am8 _ _).height,(Ap0 _ _).height]
   split
   . show (recI c.rd m.ids m.ids.length).height = _
     have:∀ k,(recI c.rd m.ids k).height=c.rd.height:=fun k=>by
      induction k with
      | zero=>rfl
      | succ k ih=>rw [Aq6];exact (Am8 _ _).height.trans ih
     exact this _
   . rfl
 refine ⟨k.po,fun m hm k3=>?_⟩
 have g:=h0 m hm k3
 exact { g with hh:=by rw [hhe,g.hh,hh];rfl,of_:=k.fwd m (by simpa using hm) k3 }
end
end Go.Sv
namespace Go.Sv
open Go
section
variable {n i:Nat} {Hn:Nat->Prop} {H:Int} {s s':Nat->Led} {c c':Co} {L out:List M}
def MsgOf (c:Co) (m:M):Prop:=(∃ R,m=(c.offer R).1)∨m=valMsg c∨m=stMsg c.rd
theorem Bq3 (l:List Act):∀ (s:Co×List M×Bool),(∀ m∈s.2.1,∃ R,m=(s.1.offer R).1)->∀ m∈(l.foldl Co.act1 s).2.1,∃ R,m=(s.1.offer R).1:=by
 induction l with
 | nil=>exact fun s h=>h
 | cons a l ih =>
  intro s h
  have e:=AZ1 s a
  have:=ih (Co.act1 s a) (by
   unfold Co.act1
   split
   . intro m hm
     rcases List.mem_append.1 hm with q | q
     . exact h m q
     . exact ⟨a.round,List.mem_singleton.1 q⟩
   split
   . exact h
   split
   . intro m hm
     obtain ⟨R,hR⟩:=h m hm
     exact ⟨R,hR⟩
   split
   . intro m hm
     obtain ⟨R,hR⟩:=h m hm
     exact ⟨R,hR⟩
   . exact h)
  intro m hm
  obtain ⟨R,hR⟩:=this m hm
  exact ⟨R,by rw [hR,AE6 e.1 e.2.1]⟩
theorem Ay9 (c:Co) (l:List Act):∀ m∈(c.act l).2,MsgOf (c.act l).1 m:=by
 intro m hm
 have e1:=Bf5 c l
 have e2:=Bf4 c l
 have hm:m∈(if (c.acts l).2.2=true/\0 < (stIds (c.acts l).1.rd).length then (c.acts l).2.1++[stMsg (c.acts l).1.rd] else (c.acts l).2.1):=hm
 have ho:=Bq3 l (c,[],false) (fun m q=>by cases q)
 have e3:(c.acts l).1.rd=c.rd:=(Ay5 l (c,[],false)).1
 have key:(∃ R,m=(c.offer R).1)∨m=stMsg c.rd:=by
  split at hm
  . rcases List.mem_append.1 hm with q | q
    . exact .inl (ho m q)
    . exact .inr (by rw [List.mem_singleton.1 q,e3])
  . exact .inl (ho m hm)
 rcases key with ⟨R,hR⟩ | q
 . exact .inl ⟨R,by rw [hR,AE6 e1 e2]⟩
 . exact .inr (.inr (by rw [q,e1]))
theorem AS6 (c:Co) (b:Bts):∀ m∈(c.Begin b).2,MsgOf (c.Begin b).1 m:=by
 unfold Co.Begin
 split
 . exact fun m q=>by cases q
 . exact Ay9 _ _
theorem A47 (c:Co) (w:Int) (x:M):∀ m∈(c.Hear w x).2,MsgOf (c.Hear w x).1 m:=by
 unfold Co.Hear
 split
 . exact fun m q=>by cases q
 split
 . split
   . exact fun m q=>by cases q
   . exact Ay9 _ _
 split
 . exact Ay9 _ _
 split
 . split
   . exact fun m q=>by cases q
   . exact Ay9 _ _
 . exact Ay9 _ _
theorem Bq4 (c:Co):∀ m∈c.Tick.2,MsgOf c.Tick.1 m:=by
 intro m hm
 rcases AS4 hm with q | q | q | q
 . exact Ay9 _ _ m q
 . exact .inl ⟨_,q⟩
 . exact .inr (.inl q)
 . exact .inr (.inr q)
def SzB (c:Co):Prop:=∀ p∈c.bat,p.2.length<=1000000
theorem Bf8 (h:SzB c) (k:Bts):((lookL c.bat k).getD []).length<=1000000:=by
 cases q:lookL c.bat k with
 | none=>simp
 | some v=>exact h _ (Am6 q)
theorem AE7 {m:M} (h:MsgOf c m) (hz:SzB c):RecOk m:=by
 rcases h with ⟨R,rfl⟩ | rfl | rfl
 . unfold Co.offer
   split
   . exact ⟨by show ([]:List Bts).length<=_;simp,Bf8 hz _⟩
   . exact ⟨by show ([]:List Bts).length<=_;simp,by show ([]:Bts).length<=_;simp⟩
 . exact ⟨by show ([]:List Bts).length<=_;simp,Bf8 hz _⟩
 . exact ⟨by show (stIds c.rd).length<=_;have:=Av7 c.rd;omega,by show ([]:Bts).length<=_;simp⟩
theorem Bq5 {m:M} (h:MsgOf c m) (hp:PO (inB c) c.rd) (hb:∀ p∈c.bat,p.1=batchI p.2) (k3:m.kind=3):OfM c m:=by
 rcases h with ⟨R,rfl⟩ | rfl | rfl
 . exact A96 hp hb k3
 . have k3:(5:Int)=3:=k3;omega
 . have k3:(4:Int)=3:=k3;omega
structure RunOk (n i:Nat) (s:Nat->Led) (c:Co) (L:List M):Prop where
 all:AllC n (·=i) s
 par:Par n (·=i) 2 s i c
 chn:Chn (fun _=>z32) L (ownN (s i) i)
 po:PO (inB c) c.rd
 ofl:OfL c L
 rec_:∀ m∈L,RecOk m/\(m.kind=4->m.height=2)
theorem Cg8 (hn:okN n) (hm:i < n):Par n Hn H (fun _=>led0) i (co0 n i H) :=
 ⟨mt0 hn hm,rfl,rfl,rfl,rfl,fun R K j q=>absurd rfl q,(fun p q=>by cases q),(fun id q=>by cases q),fun q=>by cases q⟩
theorem RunOk.step (h:RunOk n i s c L) (k:StepOk n (·=i) 2 i s s' c' out) (p:PCo c c') (hm:∀ m∈out,MsgOf c' m) (hz:SzB c'):RunOk n i s' c' (L++out):=by
 have po:=p.po h.po
 refine ⟨k.all,k.par,Ay8 h.chn k.ext (fun m q k4=>?_) k.told,po,(h.ofl.up p).app fun m q k3=>Bq5 (hm m q) po k.par.bat k3,fun m q=>?_⟩
 . rw [k.msg m q k4]
   exact ⟨Av7 _,k.par.vtN⟩
 . rcases List.mem_append.1 q with q | q
   . exact h.rec_ m q
   . refine ⟨AE7 (hm m q) hz, fun k4 => ?_⟩
     rw [k.msg m q k4]
     exact k.par.hh
structure RunT (n i:Nat) (a:Nat->Bts) (own:List M) (s:Nat->Led) (c:Co) (told:List M):Prop where
 run:RunOk n i s c (own++told)
 ext:ExtN a (ownN (s i) i)
 beg:∀ m∈told,m.kind=4->∀ x,a x≠z32->vtN m.ids x=a x
theorem RunT.step {a:Nat->Bts} {own told:List M} (h:RunT n i a own s c told) (k:StepOk n (·=i) 2 i s s' c' out) (p:PCo c c') (hm:∀ m∈out,MsgOf c' m) (hz:SzB c'):RunT n i a own s' c' (told++out):=by
 have he:=h.ext.trans k.ext
 refine ⟨by rw [<- List.append_assoc];exact h.run.step k p hm hz,he,fun m q k4 x hx=>?_⟩
 rcases List.mem_append.1 q with q | q
 . exact h.beg m q k4 x hx
 . rw [k.msg m q k4]
   show vtN (stIds c'.rd) x=a x
   rw [k.par.vtN]
   exact he.st x hx
theorem RunOk.back (h:RunOk n i s c L) (hn:okN n) (hm:i < n):∃ s',RunOk n i s' ((co0 n i 2).Recall L) L/\stMsg ((co0 n i 2).Recall L).rd=stMsg c.rd/\Sv.vtN (stIds c.rd)=ownN (s' i) i:=by
 have hcr:=CR.log (cr0 (H:=2) hn hm) h.chn fun m q k4=>(h.rec_ m q).2 k4
 obtain ⟨s',a1,a2,a3,a4,a5⟩:=hcr.par (Hn:=(·=i)) h.all rfl h.par.vin
 obtain ⟨b1,b2⟩:=AZ5 (n:=n) (i:=i) (H:=2) h.ofl h.par.hh
 have hst:stAll ((co0 n i 2).Recall L).rd=stAll c.rd:=by
  unfold stAll
  refine List.map_congr_left fun x hx=>?_
  have hx:=List.mem_range.1 hx
  unfold getV
  rw [a2.hn,a2.hm,h.par.hn,h.par.hm]
  split
  . show ((co0 n i 2).Recall L).rd.v (x / 2) (x % 2) i = c.rd.v (x / 2) (x % 2) i
    have e:=congrFun a5 x
    unfold ownN at e
    rw [if_pos hx,if_pos hx,a2.mt.v,h.par.mt.v]at e
    exact e
  . rfl
 refine ⟨s',⟨a1,a2,by rw [a5];exact h.chn,b1,b2,h.rec_⟩,?_,by rw [a5];exact h.par.vtN⟩
 unfold stMsg stIds
 rw [hst,a2.hm,a2.hh,h.par.hm,h.par.hh]
end
end Go.Sv
namespace Go.Sv.Try
open Go
end Go.Sv.Try
namespace Go.Sv
open Go
theorem BT3 {P:Program} {t e:TypeId} {b o n f base:Nat} {cs:List V} {A:AS} (hu:P.underlying t=some (.slice e)) (he:P.underlying e=some (.int .u8)) (hb:A.blk[b]?=some ⟨cs,.arr f base⟩):cnv P t t (some (.sl b o (n+1) 1)) A=some (.val (.sl b o (n+1) 1)):=by
 unfold cnv
 rw [if_pos rfl]
 simp only [Option.bind_some,evSame,if_true,hu,he,hb,Option.map_some]
def Co.learnI (c:Co) (b I:Bts):Co×List Act:=({ c with bat:=(match lookL c.bat I with | some _=>c.bat | none=>c.bat++[(I,b)]),rd:=(c.rd.Know I).1 },(c.rd.Know I).2)
def Co.beginI (c:Co) (b I:Bts):Co×List M:=Co.act { (c.learnI b I).1 with rd:=((c.learnI b I).1.rd.Begin I).1 } ((c.learnI b I).2++((c.learnI b I).1.rd.Begin I).2)
theorem BC2 {c:Co} {b I:Bts} (h:batchI b=I) (hb:b.length<=4096):c.Begin b=c.beginI b I:=by
 subst h;unfold Co.Begin;rw [if_neg (by omega)];rfl
def xId:Bts:=[162,88,130,22,164,213,93,210,110,109,36,145,240,168,251,4,205,91,117,82,55,122,173,133,170,210,217,77,16,43,208,0]
theorem Cg9:batchI [120]=xId:=by decide +kernel
def agX:Co×List M:=Co.beginI (co0 1 0 4) [120] xId
theorem BT4:(co0 1 0 4).Begin [120]=agX:=BC2 Cg9 (by decide)
theorem B13:agX.1.over=true/\agX.1.done=[120]:=by decide +kernel
theorem B68:agX.2.map (fun m=>(m.kind,m.ids.length))=[(3,0),(4,2)]:=by decide +kernel
end Go.Sv
namespace Go.Sv.Try
open Go Go.Proofs
section
variable {X Y:Nat->Prop} {A B C:AS} {K:CoK} {c c1 c2:Co} {fk ft fk1 ft1 fk2 ft2 fo fo2:Option Nat}
theorem BC3 (b:Nat):evEq Try.prog 30 (.ptr b 0) .pnil=some false:=by kernel_rfl
theorem BC4 {m:Hp} {v:V} {l:List M} (h:Lst eMsg m A v l fo) (hm:m.on A) {i:Nat} {x:M} (hx:l[i]?=some x) :
 ∃ b o dv iv lv,evIndexAddr Try.prog 34 v (.int .i64 (i:Int))=some (.ptr b o)/\evLoad Try.prog 28 (.ptr b o) A=some (.agg (mc x dv iv lv))/\MsgIn m x dv iv lv:=by
 obtain ⟨b,o,w,g1,g2,g3⟩:=h.at (P:=Try.prog) (k:=.i64) hm Try.underlying34 Bm9 BO5 hx
 unfold Enc.W at g3
 rw [if_pos (by rfl)]at g3
 obtain ⟨cs,rfl,dv,iv,lv,rfl,g4⟩:=g3
 exact ⟨b,o,dv,iv,lv,g1,g2,g4⟩
theorem Bz6 {b o:Nat} {x:M} {dv iv lv:V} (hx:x.id.length=32) (h:evLoad Try.prog 28 (.ptr b o) A=some (.agg (mc x dv iv lv))) :
 evFieldAddr Try.prog 28 (.ptr b o) 0=some (.ptr b o)/\evFieldAddr Try.prog 28 (.ptr b o) 8=some (.ptr b (o+39))/\evLoad Try.prog 3 (.ptr b o) A=some (.int .i64 x.kind)/\evLoad Try.prog 25 (.ptr b (o+39)) A=some iv:=by
 rw [As7 BO5 Bm9]at h
 simp only [Option.map_eq_some_iff,V.agg.injEq]at h
 obtain ⟨cs,h,rfl⟩:=h
 unfold AS.range at h
 cases hk:A.blk[b]? with
 | none=>rw [hk]at h;cases h
 | some k =>
  rw [hk]at h
  simp only []at h
  split at h
  rotate_left
  . cases h
  injection h with h
  have e:∀ j,j < 41->k.cells[o+j]?=(mc x dv iv lv)[j]?:=fun j hj=>by
   rw [<- h,List.getElem?_take_of_lt hj,List.getElem?_drop]
  refine ⟨by unfold evFieldAddr;kernel_rfl,by kernel_rfl,?_,?_⟩
  . rw [Ad2 ag3,Ah1 hk,<- Nat.add_zero o,e 0 (by omega)];rfl
  . rw [Ad2 B19,Ah1 hk,e 39 (by omega)];exact (Bn9 hx).2.1
theorem NewC.new (hw:WF A) (hN:NewC A K) (hf:Fr S0 A B) (h1:∀ f,fk=some f->A.blk.length<=f) (h2:∀ f,ft=some f->A.blk.length<=f) {x:Loc} (q:LCo K fk ft B x):x.newTo A:=TM.new hw hf (fun b q=>by
 rcases q with rfl | rfl
 . exact hN.cb
 . exact hN.nr.1) (fun f q=>by
 rcases q with (⟨j,hj,rfl⟩ | q) | q
 . exact hN.nr.2 j hj
 . exact h1 f q
 . exact h2 f q) (fun r q=>by
 rcases q with rfl | rfl
 . exact hN.mb
 . exact hN.mg) q
set_option maxRecDepth 10000 in
set_option maxHeartbeats 16000000 in
theorem AS7 (hw:WF A):∃ w A',EvF Try.prog HH 6 [] A w A'/\Fr S0 A A'/\w=.bool true:=by
 refine Aa4 rfl Try.func6 (by unfold Try.f6;rfl) Try.ntmps6 (by unfold Try.f6;rfl) (by simp) ?_
 obtain ⟨w,A1,k1,f1,K,rfl,hN,hC⟩:=AN0 hw (n:=1) (me:=0) (h:=4) (.inl rfl) (by omega) (by omega) (by omega)
 have w1:=f1.wf hw
 have hC:=hC (fun _=>False) (fun _ q=>q.elim)
 obtain ⟨A2,e2⟩:∃ B,B=A1.push ⟨bc [120],.arr A1.blk.length 0⟩:=⟨_,rfl⟩
 have f2:Fr S0 A1 A2:=by rw [e2];exact Fr.pushArr A1 _
 have r2:A2.blk[A1.blk.length]?=some ⟨bc [120],.arr A1.blk.length 0⟩:=by rw [e2];exact Ab8 A1 _
 have w2:=f2.wf w1
 have hv:Slc eU8 (qHp (fun f=>(fun _=>False) f∨XCo K none none f) A2) (.sl A1.blk.length 0 1 1) [120]:=Be2 (Al1 r2 fun q=>by have:=hC.xlt _ q;omega) rfl
 have bs:bsl Try.prog 24 1 (some [(0,.int .u8 120)])=some (.newSl (bc [120]) 1 1):=by kernel_rfl
 have cv:=BT3 (P:=Try.prog) (n:=0) (o:=0) Try.underlying24 Try.underlying5 r2
 obtain ⟨u3,A3,k3,fk3,ft3,fo3,s3,l3⟩:=Aq5 w2 (hC.fr0 f2) hv (by decide)
 rw [BT4]at s3 l3
 have w3:=s3.wf w2
 have f12:Fr S0 A A3:=(f1.then0 f2).trans s3.fr fun x q=>.inr (hN.new hw (f1.then0 f2) (fun f q=>by cases q) (fun f q=>by cases q) q)
 obtain ⟨_,A4,k4,f4,v,rfl,v2⟩:=AE3 w3 s3.co
 rw [B13.1,B13.2]at v2
 have l4:=CStep.lst0 l3 f4
 have hlen:agX.2.length=2:=by have:=congrArg List.length B68;rw [List.length_map]at this;exact this
 obtain ⟨m0,g0⟩:=Ag4 (l:=agX.2) (i:=0) (by omega)
 obtain ⟨m1,g1⟩:=Ag4 (l:=agX.2) (i:=1) (by omega)
 have q0:m0.kind=3:=by
  have:=congrArg (fun l=>l[0]?) B68
  rw [List.getElem?_map,g0]at this
  simpa using (congrArg (fun o=>o.map Prod.fst) this)
 have q1:m1.kind=4/\m1.ids.length=2:=by
  have:=congrArg (fun l=>l[1]?) B68
  rw [List.getElem?_map,g1]at this
  have:=Option.some.inj this
  exact ⟨congrArg Prod.fst this,congrArg Prod.snd this⟩
 obtain ⟨b5,o5,dv5,iv5,lv5,z1,z2,z3⟩:=BC4 l4 (Af3 _ A4) g0
 obtain ⟨b6,o6,dv6,iv6,lv6,y1,y2,y3⟩:=BC4 l4 (Af3 _ A4) g1
 have z4:=Bz6 z3.id z2
 have y4:=Bz6 y3.id y2
 rw [q0]at z4
 rw [q1.1]at y4
 have hlm:=fun B=>l3.len (P:=Try.prog) Try.underlying34 B
 rw [hlen]at hlm
 have hlm:∀ B,evLen Try.prog 34 u3 B=some (.int .i64 2):=hlm
 have z1:evIndexAddr Try.prog 34 u3 (.int .i64 0)=some (.ptr b5 o5):=z1
 have y1:evIndexAddr Try.prog 34 u3 (.int .i64 1)=some (.ptr b6 o6):=y1
 have hli:=fun B=>y3.ids.len (P:=Try.prog) Try.underlying25 B
 rw [q1.2]at hli
 have hli:∀ B,evLen Try.prog 25 iv6 B=some (.int .i64 2):=hli
 have tx:=AQ1 (P:=Try.prog) (s:=24) (d:=9) (by decide) v2 (Af3 _ A4) Try.underlying24 Try.underlying5 Try.underlying9
 simp only [RT,Q0,Q1,Q2,Q3,Q4,Q5,Q6,Q7,Q8]
 refine Aa0 k1 ?_
 simp only [RT,Q0,Q1,Q2,Q3,Q4,Q5,Q6,Q7,Q8,BC3,bs,<- e2,cv]
 refine Aa0 k3 ?_
 simp only [RT,Q0,Q1,Q2,Q3,Q4,Q5,Q6,Q7,Q8,B13.1]
 refine Aa0 k4 ?_
 simp only [RT,Q0,Q1,Q2,Q3,Q4,Q5,Q6,Q7,Q8,B13.1,tx,decide_eq_true (show (if (true=true) then [120] else ([]:Bts))=[120] from rfl),hlm,z1,z4,y1,y4,hli]
 exact f12.then0 f4
end
end Go.Sv.Try
namespace Go.Sv
open Go
end Go.Sv
namespace Go.Sv.Try
open Go Go.Proofs
section
variable {X Y:Nat->Prop} {A B C:AS} {K:CoK} {c c1 c2:Co} {fk ft fk1 ft1 fk2 ft2 fo fo2:Option Nat}
end
end Go.Sv.Try
