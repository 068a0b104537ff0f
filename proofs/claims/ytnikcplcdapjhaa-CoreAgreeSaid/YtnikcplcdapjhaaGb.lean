/- Rounds in memory: offers, votes, timers that come; a new one. -/
import Derived.Test.YtnikcplcdapjhaaGa
import Derived.Test.YtnikcplcdapjhaaSv4
import Derived.Test.YtnikcplcdapjhaaSvBase
set_option linter.unusedSimpArgs false
set_option linter.unusedVariables false
open Nat renaming reduceLT → Q0, reduceBEq → Q1, reduceEqDiff → Q2, reduceAdd → Q3
open Int renaming reduceEq → Q4, reduceLT → Q5, reduceLE → Q6, reduceGT → Q7, reduceGE → Q8
namespace Go.Sv.Try
open Go Go.Proofs
section
variable {A A' B:AS} {rp cp:Nat} {r r':Rd} {vb:Nat->Nat} {fk fa fk' fa':Option Nat} {kv av:V}
set_option maxRecDepth 10000 in
set_option maxHeartbeats 16000000 in
theorem AR2 (hw:WF A) (h:IsRd A rp r cp vb fk fa) (hr:Rng r) (hl:r.acts.length<=100000) {R val:Int} {id:Bts} (hid:id.length=32):∃ w A',EvF Try.prog HH 30 [.ptr rp 0,.int .i64 R,.int .i64 val,.agg (bc id)] A w A'/\GRes A rp cp vb fk fa A' (r.Offered R val id) w:=by
 refine Aa4 rfl Try.func30 (by unfold Try.f30;rfl) Try.ntmps30 (by unfold Try.f30;rfl) (by simp) ?_
 simp only [RT,Q0,Q1,Q2,Q3,Q4,Q5,Q6,Q7,Q8]
 obtain ⟨A1,e1,f1,r1,n1⟩:=Aa9 A (bc id)
 rw [<- e1]
 have h1:=h.fr0 f1
 have w1:=f1.wf hw
 have hfa:=AC1 rp
 obtain ⟨kv,av,b1,b2,b3⟩:=h1.box
 obtain ⟨_,A2,n1,rfl,n2⟩:=Ao5 (A:=A1)
 have ldI:=Ai5 r1 hid
 have ldI2:=Ai5 (n2.row0 r1) hid
 unfold Rd.Offered
 refine Al2 (fun z e B=>Is z .normal/\e.get 0=.ptr rp 0/\e.get 1=.int .i64 R/\e.get 2=.int .i64 val/\e.get 7=.ptr A.blk.length 0/\Fr S0 A1 B/\e.get 43=.bool (decide (0<=R/\R < 12/\0<=val/\val<=R/\id≠z32/\id≠n32/\(r.offers R.toNat).there=false))) ?_ ?_
 . by_cases q1 : 0 <= R
   rotate_left
   . simp only [RT, Q0, Q1, Q2, Q3, Q4, Q5, Q6, Q7, Q8, AA2, Aa1, decide_eq_false (show ¬ R >= 0 from q1)]
     refine ⟨Ag6 rfl rfl rfl rfl Aa1,rfl,.refl _ _,?_⟩
     rw [decide_eq_false (fun z=>q1 z.1)]
   by_cases q2:R < 12
   rotate_left
   . simp only [RT, Q0, Q1, Q2, Q3, Q4, Q5, Q6, Q7, Q8, AA2, Aa1, decide_eq_true (show R >= 0 from q1), decide_eq_false q2]
     refine ⟨Ag6 rfl rfl rfl rfl Aa1,rfl,.refl _ _,?_⟩
     rw [decide_eq_false (fun z=>q2 z.2.1)]
   by_cases q3:0<=val
   rotate_left
   . simp only [RT, Q0, Q1, Q2, Q3, Q4, Q5, Q6, Q7, Q8, AA2, Aa1, decide_eq_true (show R >= 0 from q1), decide_eq_true q2, decide_eq_false (show ¬ val >= 0 from q3)]
     refine ⟨Ag6 rfl rfl rfl rfl Aa1,rfl,.refl _ _,?_⟩
     rw [decide_eq_false (fun z=>q3 z.2.2.1)]
   by_cases q4:val<=R
   rotate_left
   . simp only [RT, Q0, Q1, Q2, Q3, Q4, Q5, Q6, Q7, Q8, AA2, Aa1, decide_eq_true (show R >= 0 from q1), decide_eq_true q2, decide_eq_true (show val >= 0 from q3), decide_eq_false q4]
     refine ⟨Ag6 rfl rfl rfl rfl Aa1,rfl,.refl _ _,?_⟩
     rw [decide_eq_false (fun z=>q4 z.2.2.2.1)]
   by_cases q5:id=z32
   . simp only [RT, Q0, Q1, Q2, Q3, Q4, Q5, Q6, Q7, Q8, AA2, Aa1, decide_eq_true (show R >= 0 from q1), decide_eq_true q2, decide_eq_true (show val >= 0 from q3), decide_eq_true q4, ldI, Am4, eqZ hid Ab2, decide_eq_true q5]
     refine ⟨Ag6 rfl rfl rfl rfl Aa1,rfl,.refl _ _,?_⟩
     rw [decide_eq_false (fun z=>z.2.2.2.2.1 q5)]
   simp only [RT,Q0,Q1,Q2,Q3,Q4,Q5,Q6,Q7,Q8,AA2,Aa1,decide_eq_true (show R >= 0 from q1),decide_eq_true q2,decide_eq_true (show val >= 0 from q3),decide_eq_true q4,ldI,Am4,eqZ hid Ab2,decide_eq_false q5]
   refine Aa0 n1 ?_
   by_cases q6:id=n32
   . simp only [RT, Q0, Q1, Q2, Q3, Q4, Q5, Q6, Q7, Q8, Aa1, eqZ hid Ag3, decide_eq_true q6]
     refine ⟨Af2 rfl rfl rfl rfl rfl ldI2 rfl Aa1,rfl,n2,?_⟩
     rw [decide_eq_false (fun z=>z.2.2.2.2.2.1 q6)]
   obtain ⟨i,rfl⟩:=Int.eq_ofNat_of_zero_le q1
   have hi12:i < 12:=by omega
   have hof:=B11 (n2.row0 b1) h.ok hi12
   simp only [RT,Q0,Q1,Q2,Q3,Q4,Q5,Q6,Q7,Q8,Aa1,eqZ hid Ag3,decide_eq_false q6,hfa,Bb7 hi12,B26 rp (103+i * 34),hof]
   refine ⟨Af2 rfl rfl rfl rfl rfl ldI2 rfl Aa1,rfl,n2,?_⟩
   rw [show ((i:Int)).toNat=i from rfl]
   cases qt:(r.offers i).there with
   | true=>rw [decide_eq_false (fun z=>by simp at z)];rfl
   | false=>rw [decide_eq_true ⟨q1,q2,q3,q4,q5,q6,rfl⟩];rfl
 . rintro z e B ⟨rfl, g0, g1, g2, g7, hB, g43⟩
   have fB:=f1.then0 hB
   have wB:=fB.wf hw
   have hBr:=h.fr0 fB
   by_cases q:0<=R/\R < 12/\0<=val/\val<=R/\id≠z32/\id≠n32/\(r.offers R.toNat).there=false
   rotate_left
   . rw [if_neg q]
     rw [decide_eq_false q]at g43
     obtain ⟨w,C,m1,m2⟩:=Ae8 wB hBr hr (by omega)
     simp only [RT,Q0,Q1,Q2,Q3,Q4,Q5,Q6,Q7,Q8,g43,g0]
     refine Aa0 m1 ?_
     simp only [RT,Q0,Q1,Q2,Q3,Q4,Q5,Q6,Q7,Q8]
     exact GRes.next0 hw fB m2
   rw [if_pos q]
   rw [decide_eq_true q]at g43
   obtain ⟨i,rfl⟩:=Int.eq_ofNat_of_zero_le q.1
   have hi12:i < 12:=by omega
   rw [show ((i:Int)).toNat=i from rfl]
   obtain ⟨kvb,avb,c1,c2,c3⟩:=hBr.box
   obtain ⟨C,s1,s2,s3⟩:=B27 c1 h.ok (o:=⟨true,val,id⟩) hid hi12
   have hC:IsRd C rp { r with offers:=set1 r.offers i ⟨true,val,id⟩ } cp vb fk fa:=hBr.upd c1 c2 c3 s2 s3 rfl rfl rfl rfl { h.ok with offers:=AM4 h.ok.offers hid }
   obtain ⟨w,D,m1,m2⟩:=Ae8 (s2.wf wB) hC { hr with offers:=Am5 hr.offers ⟨q.2.2.1,by show val<=1000;omega⟩ } (by show r.acts.length<=_;omega)
   simp only [RT,Q0,Q1,Q2,Q3,Q4,Q5,Q6,Q7,Q8,g43]
   rw [BK6,Aa2 (by rfl)]
   simp only [RT,Q0,Q1,Q2,Q3,Q4,Q5,Q6,Q7,Q8,g0,g1,g2,g7,Ai5 (hB.row0 r1) hid,Bn3 hid,hfa,Bb7 hi12,s1]
   refine Aa0 m1 ?_
   simp only [RT,Q0,Q1,Q2,Q3,Q4,Q5,Q6,Q7,Q8]
   exact GRes.next0 hw fB (m2.next wB (s2.mono fun _ q=>.inl q) (.inl rfl) (.inl rfl))
set_option maxRecDepth 10000 in
set_option maxHeartbeats 8000000 in
theorem A73 (hw:WF A) (h:IsRd A rp r cp vb fk fa) (hr:Rng r) (hl:r.acts.length<=100000) {R K W:Int} {id:Bts} (hid:id.length=32):∃ w A',EvF Try.prog HH 32 [.ptr rp 0,.int .i64 R,.int .i64 K,.int .i64 W,.agg (bc id)] A w A'/\GRes A rp cp vb fk fa A' (r.Voted R K W id) w:=by
 refine Aa4 rfl Try.func32 (by unfold Try.f32;rfl) Try.ntmps32 (by unfold Try.f32;rfl) (by simp) ?_
 simp only [RT,Q0,Q1,Q2,Q3,Q4,Q5,Q6,Q7,Q8]
 obtain ⟨A1,e1,f1,r1,n1⟩:=Aa9 A (bc id)
 rw [<- e1]
 have h1:=h.fr0 f1
 have w1:=f1.wf hw
 have hfa:=AC1 rp
 obtain ⟨kv,av,b1,b2,b3⟩:=h1.box
 have ld:=Ao3 b1 h.ok
 unfold Rd.Voted
 by_cases q:W=r.me
 . simp only [RT, Q0, Q1, Q2, Q3, Q4, Q5, Q6, Q7, Q8, hfa, ld, decide_eq_false (show ¬ ¬ (W = (r.me : Int)) from fun z => z q)]
   rw [if_neg (fun z=>z q)]
   obtain ⟨w,C,m1,m2⟩:=Ae8 w1 h1 hr (by omega)
   refine Aa0 m1 ?_
   simp only [RT,Q0,Q1,Q2,Q3,Q4,Q5,Q6,Q7,Q8]
   exact GRes.next0 hw f1 m2
 . obtain ⟨_, A2, p1, p2, rfl, p3⟩ := AM2 w1 h1.cnt R K W hid
   have h2:=h1.putv p2 p3
   obtain ⟨w,C,m1,m2⟩:=Ae8 (p2.wf w1) h2 { hr with } (by show r.acts.length<=_;omega)
   simp only [RT,Q0,Q1,Q2,Q3,Q4,Q5,Q6,Q7,Q8,hfa,ld,decide_eq_true (show ¬ (W=(r.me:Int)) from q)]
   rw [BK7,Aa2 (by rfl)]
   simp only [RT,Q0,Q1,Q2,Q3,Q4,Q5,Q6,Q7,Q8,hfa,ld,Ai5 r1 hid]
   refine Aa0 p1 ?_
   simp only [RT,Q0,Q1,Q2,Q3,Q4,Q5,Q6,Q7,Q8]
   refine Aa0 m1 ?_
   simp only [RT,Q0,Q1,Q2,Q3,Q4,Q5,Q6,Q7,Q8]
   rw [if_pos q]
   exact GRes.next0 hw f1 (m2.next w1 (p2.mono fun _ q=>.inr (.inl q)) (.inl rfl) (.inl rfl))
set_option maxRecDepth 10000 in
set_option maxHeartbeats 8000000 in
theorem AR3 (hw:WF A) (h:IsRd A rp r cp vb fk fa) (hr:Rng r) (hl:r.acts.length<=100000) {R K:Int}:∃ w A',EvF Try.prog HH 37 [.ptr rp 0,.int .i64 R,.int .i64 K] A w A'/\GRes A rp cp vb fk fa A' (r.Timeout R K) w:=by
 refine Aa4 rfl Try.func37 (by unfold Try.f37;rfl) Try.ntmps37 (by unfold Try.f37;rfl) (by simp) ?_
 simp only [RT,Q0,Q1,Q2,Q3,Q4,Q5,Q6,Q7,Q8]
 have hfa:=AC1 rp
 obtain ⟨kv,av,b1,b2,b3⟩:=h.box
 have ld:=Ao3 b1 h.ok
 have fin:∀ {B:AS} {r2:Rd},RStep A rp cp vb fk fa B r2->Rng r2->r2.acts.length<=100001->∃ w C,EvF Try.prog HH 47 [.ptr rp 0] B w C/\GRes A rp cp vb fk fa C r2.settle w:=by
  intro B r2 hB hr2 hl2
  obtain ⟨fk2,fa2,j1,j2,j3,j4⟩:=hB
  obtain ⟨w,C,m1,m2⟩:=Ae8 (j1.wf hw) j4 hr2 (by omega)
  exact ⟨w,C,m1,m2.next hw j1 j2 j3⟩
 unfold Rd.Timeout
 by_cases q1:R=r.now
 rotate_left
 . simp only [RT, Q0, Q1, Q2, Q3, Q4, Q5, Q6, Q7, Q8, hfa, ld, decide_eq_false q1]
   obtain ⟨w,C,m1,m2⟩:=fin (.rfl' h) hr (by omega)
   refine Aa0 m1 ?_
   simp only [RT,Q0,Q1,Q2,Q3,Q4,Q5,Q6,Q7,Q8]
   rw [if_neg (fun z=>q1 z.1)]
   exact m2
 by_cases q2:r.step=3
 . simp only [RT, Q0, Q1, Q2, Q3, Q4, Q5, Q6, Q7, Q8, hfa, ld, decide_eq_true q1, decide_eq_false (show ¬ ¬ (r.step = 3) from fun z => z q2)]
   obtain ⟨w,C,m1,m2⟩:=fin (.rfl' h) hr (by omega)
   refine Aa0 m1 ?_
   simp only [RT,Q0,Q1,Q2,Q3,Q4,Q5,Q6,Q7,Q8]
   rw [if_neg (fun z=>z.2 q2)]
   exact m2
 rw [if_pos ⟨q1,q2⟩]
 simp only [RT,Q0,Q1,Q2,Q3,Q4,Q5,Q6,Q7,Q8,hfa,ld,decide_eq_true q1,decide_eq_true (show ¬ (r.step=3) from q2)]
 obtain ⟨_,A1,n1,rfl,n2⟩:=Ao5 (A:=A)
 by_cases q3:K=0/\r.step=0
 . obtain ⟨w, B, i1, i2⟩ := Aq3 (k := 0) (n2.wf hw) (h.fr0 n2) (by omega) Ag3 (by omega)
   have i1:EvF Try.prog HH 57 [.ptr rp 0,.int .i64 0,.agg (bc n32)] A1 w B:=i1
   obtain ⟨y1,y2⟩:=hr.vote (k:=0) (by omega) n32
   obtain ⟨w',C,m1,m2⟩:=fin (RStep.next0 hw n2 i2) y1 (by omega)
   simp only [RT,Q0,Q1,Q2,Q3,Q4,Q5,Q6,Q7,Q8,decide_eq_true q3.1,hfa,ld,decide_eq_true q3.2]
   refine Aa0 n1 ?_
   simp only [RT,Q0,Q1,Q2,Q3,Q4,Q5,Q6,Q7,Q8]
   refine Aa0 i1 ?_
   simp only [RT,Q0,Q1,Q2,Q3,Q4,Q5,Q6,Q7,Q8]
   refine Aa0 m1 ?_
   simp only [RT,Q0,Q1,Q2,Q3,Q4,Q5,Q6,Q7,Q8]
   rw [if_pos q3]
   exact m2
 rw [if_neg q3]
 by_cases q4:K=1/\r.step=1
 . obtain ⟨w, B, i1, i2⟩ := Aq3 (k := 1) (n2.wf hw) (h.fr0 n2) (by omega) Ag3 (by omega)
   have i1:EvF Try.prog HH 57 [.ptr rp 0,.int .i64 1,.agg (bc n32)] A1 w B:=i1
   obtain ⟨y1,y2⟩:=hr.vote (k:=1) (by omega) n32
   obtain ⟨w',C,m1,m2⟩:=fin (RStep.next0 hw n2 i2) y1 (by omega)
   simp only [RT,Q0,Q1,Q2,Q3,Q4,Q5,Q6,Q7,Q8,decide_eq_false (show ¬ (K=0) by omega),hfa,ld,decide_eq_true q4.1,decide_eq_true q4.2]
   refine Aa0 n1 ?_
   simp only [RT,Q0,Q1,Q2,Q3,Q4,Q5,Q6,Q7,Q8]
   refine Aa0 i1 ?_
   simp only [RT,Q0,Q1,Q2,Q3,Q4,Q5,Q6,Q7,Q8]
   refine Aa0 m1 ?_
   simp only [RT,Q0,Q1,Q2,Q3,Q4,Q5,Q6,Q7,Q8]
   rw [if_pos q4]
   exact m2
 rw [if_neg q4]
 have hnow:=hr.now
 by_cases q5:K=2
 . subst q5
   have q1':R=r.now:=q1
   obtain ⟨w,B,i1,i2⟩:=Ax8 hw h hr (R:=R+1) (by omega) (by omega) (by omega)
   obtain ⟨y1,y2⟩:=hr.begin (R:=R+1) (by omega)
   obtain ⟨w',C,m1,m2⟩:=fin i2 y1 (by omega)
   have wr:IntKind.i64.wrap (R+1)=R+1:=Ae1 (by omega) (by omega)
   simp only [RT,Q0,Q1,Q2,Q3,Q4,Q5,Q6,Q7,Q8,wr]
   refine Aa0 i1 ?_
   simp only [RT,Q0,Q1,Q2,Q3,Q4,Q5,Q6,Q7,Q8]
   refine Aa0 m1 ?_
   simp only [RT,Q0,Q1,Q2,Q3,Q4,Q5,Q6,Q7,Q8]
   exact m2
 rw [if_neg q5]
 obtain ⟨w,C,m1,m2⟩:=fin (.rfl' h) hr (by omega)
 by_cases c0:K=0
 . have c1 : ¬ r.step = 0 := fun z => q3 ⟨c0, z⟩
   subst c0
   simp only [RT,Q0,Q1,Q2,Q3,Q4,Q5,Q6,Q7,Q8,hfa,ld,decide_eq_false c1]
   refine Aa0 m1 ?_
   simp only [RT,Q0,Q1,Q2,Q3,Q4,Q5,Q6,Q7,Q8]
   exact m2
 by_cases c1:K=1
 . have c2 : ¬ r.step = 1 := fun z => q4 ⟨c1, z⟩
   subst c1
   simp only [RT,Q0,Q1,Q2,Q3,Q4,Q5,Q6,Q7,Q8,hfa,ld,decide_eq_false c2]
   refine Aa0 m1 ?_
   simp only [RT,Q0,Q1,Q2,Q3,Q4,Q5,Q6,Q7,Q8]
   exact m2
 simp only [RT,Q0,Q1,Q2,Q3,Q4,Q5,Q6,Q7,Q8,decide_eq_false c0,decide_eq_false c1,decide_eq_false q5]
 refine Aa0 m1 ?_
 simp only [RT,Q0,Q1,Q2,Q3,Q4,Q5,Q6,Q7,Q8]
 exact m2
end
end Go.Sv.Try
namespace Go.Sv.Try
open Go Go.Proofs
section
variable {A A' B:AS} {rp cp:Nat} {r r':Rd} {vb:Nat->Nat} {fk fa fk' fa':Option Nat} {kv av:V}
theorem BP9 (b:Nat):evFieldAddr Try.prog 109 (.ptr b 0) 0=some (.ptr b 0)/\evFieldAddr Try.prog 109 (.ptr b 0) 1=some (.ptr b 1)/\evFieldAddr Try.prog 109 (.ptr b 0) 2=some (.ptr b 2)/\evFieldAddr Try.prog 109 (.ptr b 0) 3=some (.ptr b 3)/\evFieldAddr Try.prog 109 (.ptr b 0) 4=some (.ptr b 4):=⟨by kernel_rfl,by kernel_rfl,by kernel_rfl,by kernel_rfl,by kernel_rfl⟩
theorem Bn6 {A:AS} {b:Nat} {k:BK} {a:Act} (hb:A.blk[b]?=some ⟨actC a,k⟩) (h:a.id.length=32):evLoad Try.prog 3 (.ptr b 0) A=some (.int .i64 a.kind)/\evLoad Try.prog 3 (.ptr b 1) A=some (.int .i64 a.round)/\evLoad Try.prog 3 (.ptr b 2) A=some (.int .i64 a.num)/\evLoad Try.prog 3 (.ptr b 3) A=some (.int .i64 a.valid)/\evLoad Try.prog 23 (.ptr b 4) A=some (.agg (bc a.id)) :=
 ⟨by rw [Ab3 ag3 hb];rfl,by rw [Ab3 ag3 hb];rfl,by rw [Ab3 ag3 hb];rfl,by rw [Ab3 ag3 hb];rfl,At.load hb (o:=4) ⟨[.int .i64 a.kind,.int .i64 a.round,.int .i64 a.num,.int .i64 a.valid],[],by simp [actC],rfl⟩ AX5 AH3 (by rw [Aa5,h])⟩
set_option maxRecDepth 10000 in
set_option maxHeartbeats 16000000 in
theorem AD8 (hw:WF A) (h:IsRd A rp r cp vb fk fa) (hr:Rng r) {a:Act} (hid:a.id.length=32):∃ w A',EvF Try.prog HH 43 [.ptr rp 0,.agg (actC a)] A w A'/\RStepS A rp cp vb fk fa A' (r.Recall a):=by
 refine Aa4 rfl Try.func43 (by unfold Try.f43;rfl) Try.ntmps43 (by unfold Try.f43;rfl) (by simp) ?_
 simp only [RT,Q0,Q1,Q2,Q3,Q4,Q5,Q6,Q7,Q8]
 obtain ⟨A1,e1,f1,r1,n1⟩:=Aa9 A (actC a)
 rw [<- e1]
 have h1:=h.fr0 f1
 have w1:=f1.wf hw
 have hfa:=AC1 rp
 have fA:=BP9 A.blk.length
 have la:=Bn6 r1 hid
 unfold Rd.Recall
 by_cases q1:a.round < 0
 . simp only [RT, Q0, Q1, Q2, Q3, Q4, Q5, Q6, Q7, Q8, fA, la, decide_eq_true q1]
   rw [if_pos (.inl q1)]
   exact .of0 h f1
 by_cases q2:a.round >= 12
 . simp only [RT, Q0, Q1, Q2, Q3, Q4, Q5, Q6, Q7, Q8, fA, la, decide_eq_false q1, decide_eq_true q2]
   rw [if_pos (.inr (.inl q2))]
   exact .of0 h f1
 by_cases q3:a.id=z32
 . simp only [RT, Q0, Q1, Q2, Q3, Q4, Q5, Q6, Q7, Q8, fA, la, decide_eq_false q1, decide_eq_false q2, Am4, eqZ hid Ab2, decide_eq_true q3]
   rw [if_pos (.inr (.inr q3))]
   exact .of0 h f1
 rw [if_neg (by rintro (z | z | z);exact q1 z;exact q2 z;exact q3 z)]
 obtain ⟨i,hi⟩:=Int.eq_ofNat_of_zero_le (show 0<=a.round by omega)
 have hi12:i < 12:=by omega
 have hin:a.round.toNat=i:=by rw [hi];rfl
 obtain ⟨kv,av,b1,b2,b3⟩:=h1.box
 have ld:=Ao3 b1 h1.ok
 have hof:=B11 b1 h1.ok hi12
 have fo:=B26 rp (103+i * 34)
 have lai:evLoad Try.prog 3 (.ptr A.blk.length 1) A1=some (.int .i64 (i:Int)):=by rw [la.2.1,hi]
 have nrp:A.blk.length≠rp:=by obtain ⟨kv,av,b,_⟩:=h.box;have:=Ac3 b;omega
 by_cases k1:a.kind=1
 . rw [if_pos k1]
   rw [hin]
   simp only [RT,Q0,Q1,Q2,Q3,Q4,Q5,Q6,Q7,Q8,fA,la,decide_eq_false q1,decide_eq_false q2,Am4,eqZ hid Ab2,decide_eq_false q3,decide_eq_true k1]
   rw [BL6,Aa2 (by rfl)]
   cases qt:(r.offers i).there with
   | true =>
    rw [qt]at hof
    simp only [RT,Q0,Q1,Q2,Q3,Q4,Q5,Q6,Q7,Q8,fA,lai,hfa,Bb7 hi12,fo,hof]
    rw [if_neg (fun z=>by simp at z)]
    exact .of0 h f1
   | false =>
    rw [qt]at hof
    by_cases q4:a.valid >= 0
    rotate_left
    . simp only [RT, Q0, Q1, Q2, Q3, Q4, Q5, Q6, Q7, Q8, fA, lai, la, hfa, Bb7 hi12, fo, hof, decide_eq_false q4]
      rw [if_neg (fun z=>q4 z.1)]
      exact .of0 h f1
    by_cases q5:a.valid<=a.round
    rotate_left
    . simp only [RT, Q0, Q1, Q2, Q3, Q4, Q5, Q6, Q7, Q8, fA, lai, la, hfa, Bb7 hi12, fo, hof, decide_eq_true q4, decide_eq_false (show ¬ a.valid <= (i : Int) by omega)]
      rw [if_neg (fun z=>q5 z.2)]
      exact .of0 h f1
    obtain ⟨C,s1,s2,s3⟩:=B27 b1 h1.ok (o:=⟨true,a.valid,a.id⟩) hid hi12
    have hC:IsRd C rp { r with offers:=set1 r.offers i ⟨true,a.valid,a.id⟩ } cp vb fk fa:=h1.upd b1 b2 b3 s2 s3 rfl rfl rfl rfl { h.ok with offers:=AM4 h.ok.offers hid }
    simp only [RT,Q0,Q1,Q2,Q3,Q4,Q5,Q6,Q7,Q8,fA,lai,la,hfa,Bb7 hi12,fo,hof,decide_eq_true q4,decide_eq_true (show a.valid<=(i:Int) by omega)]
    rw [BL7,Aa2 (by rfl)]
    simp only [RT,Q0,Q1,Q2,Q3,Q4,Q5,Q6,Q7,Q8,fA,lai,la,Bn3 hid,hfa,Bb7 hi12,s1]
    rw [if_pos ⟨q4,q5⟩]
    exact RStepS.next0 hw f1 (.upd s2 hC)
 rw [if_neg k1]
 by_cases k2:a.kind=2
 rotate_left
 . rw [if_neg k2]
   simp only [RT,Q0,Q1,Q2,Q3,Q4,Q5,Q6,Q7,Q8,fA,la,decide_eq_false q1,decide_eq_false q2,Am4,eqZ hid Ab2,decide_eq_false q3,decide_eq_false k1,decide_eq_false k2]
   exact .of0 h f1
 rw [if_pos k2]
 obtain ⟨_,A2,p1,p2,rfl,p3⟩:=AM2 w1 h1.cnt a.round a.num r.me hid
 have h2:=h1.putv p2 p3
 have w2:=p2.wf w1
 have f2:Fr (rdS A1 rp vb fk fa) A1 A2:=p2.mono fun _ q=>.inr (.inl q)
 have r2:=p2.row _ _ r1 (fun ⟨j,hj,q⟩=>h1.cnt.nevar hj r1 (by injection q with q;exact q.symm))
 have la2:=Bn6 r2 hid
 simp only [RT,Q0,Q1,Q2,Q3,Q4,Q5,Q6,Q7,Q8,fA,la,decide_eq_false q1,decide_eq_false q2,Am4,eqZ hid Ab2,decide_eq_false q3,decide_eq_false k1,decide_eq_true k2]
 rw [BL8,Aa2 (by rfl)]
 simp only [RT,Q0,Q1,Q2,Q3,Q4,Q5,Q6,Q7,Q8,fA,la,hfa,ld]
 refine Aa0 p1 ?_
 by_cases qp:putC r.n r.v a.round a.num r.me a.id=0
 rotate_left
 . have ev : putV r.n r.v a.round a.num r.me a.id = r.v := by unfold putV; rw [if_neg qp]
   rw [ev]at h2
   simp only [RT,Q0,Q1,Q2,Q3,Q4,Q5,Q6,Q7,Q8,decide_eq_true (show ¬ (putC r.n r.v a.round a.num r.me a.id=0) from qp)]
   rw [if_pos qp]
   exact RStepS.next0 hw f1 (RStepS.next w1 f2 (.inl rfl) (.inl rfl) (.rfl' h2))
 rw [if_neg (show ¬ (putC r.n r.v a.round a.num r.me a.id≠0) from fun z=>z qp)]
 obtain ⟨kv2,av2,c1,c2,c3⟩:=h2.box
 have ld2:=Ao3 c1 h2.ok
 simp only [RT,Q0,Q1,Q2,Q3,Q4,Q5,Q6,Q7,Q8,decide_eq_false (show ¬ ¬ (putC r.n r.v a.round a.num r.me a.id=0) from fun z=>z qp),fA,la2,hfa,ld2]
 by_cases qn:a.round < r.now
 . simp only [RT, Q0, Q1, Q2, Q3, Q4, Q5, Q6, Q7, Q8, decide_eq_true qn]
   rw [if_pos qn]
   exact RStepS.next0 hw f1 (RStepS.next w1 f2 (.inl rfl) (.inl rfl) (.rfl' h2))
 rw [if_neg qn]
 have hnum:a.num=0∨a.num=1:=by
  unfold putC at qp
  split at qp
  . simp at qp
  . rename_i w
    have:right r.n a.round a.num r.me:=Decidable.not_not.1 fun w3=>w (.inl w3)
    exact this.2.2.1
 have wn:IntKind.i64.wrap (1+a.num)=1+a.num:=Ae1 (by omega) (by omega)
 obtain ⟨A3,s1,s2,s3⟩:=(AB6 c1 h2.ok a.round).1
 have h3:=h2.upd (r':={ r with v:=putV r.n r.v a.round a.num r.me a.id,now:=a.round }) c1 c2 c3 s2 s3 rfl rfl rfl rfl { h2.ok with }
 have c2':=c2.fr s2 (.box c1)
 have c3':=c3.fr s2 (.box c1)
 obtain ⟨A4,t1,t2,t3⟩:=(AB6 s3 h3.ok (1+a.num)).2.1
 have h4:=h3.upd (r':={ r with v:=putV r.n r.v a.round a.num r.me a.id,now:=a.round,step:=1+a.num }) s3 c2' c3' t2 t3 rfl rfl rfl rfl { h3.ok with }
 have la3:=Bn6 (s2.rowNe r2 nrp) hid
 have la4:=Bn6 (t2.rowNe (s2.rowNe r2 nrp) nrp) hid
 have w3:=s2.wf w2
 have w4:=t2.wf w3
 have step4:∀ {A':AS} {r':Rd},RStepS A4 rp cp vb fk fa A' r'->RStepS A rp cp vb fk fa A' r':=fun k=>RStepS.next0 hw f1 (RStepS.next w1 f2 (.inl rfl) (.inl rfl) (RStepS.next w2 (s2.mono fun _ q=>.inl q) (.inl rfl) (.inl rfl) (RStepS.next w3 (t2.mono fun _ q=>.inl q) (.inl rfl) (.inl rfl) k)))
 simp only [RT,Q0,Q1,Q2,Q3,Q4,Q5,Q6,Q7,Q8,decide_eq_false qn,BL9,fA,la2,wn,hfa,s1,Aa1]
 refine ⟨Aa3 (ha:=rfl) rfl la3.2.2.1 rfl Aa1,?_⟩
 simp only [RT,Q0,Q1,Q2,Q3,Q4,Q5,Q6,Q7,Q8,hfa,t1,Aa1,BM0,fA,la4]
 by_cases m1:a.num=1
 rotate_left
 . simp only [RT, Q0, Q1, Q2, Q3, Q4, Q5, Q6, Q7, Q8, decide_eq_false m1, Aa1]
   refine ⟨Ag6 rfl rfl rfl rfl Aa1,?_⟩
   rw [if_neg (fun z=>m1 z.1)]
   exact step4 (.rfl' h4)
 obtain ⟨_,A5,n1,rfl,n2⟩:=Ao5 (A:=A4)
 have r5:=n2.row0 (t2.rowNe (s2.rowNe r2 nrp) nrp)
 have la5:=Bn6 r5 hid
 simp only [RT,Q0,Q1,Q2,Q3,Q4,Q5,Q6,Q7,Q8,decide_eq_true m1,fA,la4,Aa1]
 refine Aa0 n1 ?_
 have h5:=h4.fr0 n2
 obtain ⟨kv5,av5,d1,d2,d3⟩:=h5.box
 have w5:=n2.wf w4
 by_cases m2:a.id=n32
 . simp only [RT, Q0, Q1, Q2, Q3, Q4, Q5, Q6, Q7, Q8, Aa1, eqZ hid Ag3, decide_eq_true m2]
   refine ⟨Af2 rfl rfl rfl rfl rfl la5.2.2.2.2 rfl Aa1,?_⟩
   rw [if_neg (fun z=>z.2 m2)]
   exact step4 (.of0 h4 n2)
 have wr:IntKind.i64.wrap (a.round+1)=a.round+1:=Ae1 (by omega) (by omega)
 obtain ⟨B1,x1,x2,x3⟩:=(AB6 d1 h5.ok (a.round+1)).2.2.1
 have i1:=h5.upd (r':={ r with v:=putV r.n r.v a.round a.num r.me a.id,now:=a.round,step:=1+a.num,locked:=a.round+1 }) d1 d2 d3 x2 x3 rfl rfl rfl rfl { h5.ok with }
 have d2':=d2.fr x2 (.box d1)
 have d3':=d3.fr x2 (.box d1)
 obtain ⟨B2,y1,y2,y3⟩:=(BO8 x3 i1.ok hid).1
 have i2:=i1.upd (r':={ r with v:=putV r.n r.v a.round a.num r.me a.id,now:=a.round,step:=1+a.num,locked:=a.round+1,lock:=a.id }) x3 d2' d3' y2 y3 rfl rfl rfl rfl { i1.ok with lock:=hid }
 have d2':=d2'.fr y2 (.box x3)
 have d3':=d3'.fr y2 (.box x3)
 obtain ⟨B3,z1,z2,z3⟩:=(AB6 y3 i2.ok (a.round+1)).2.2.2
 have i3:=i2.upd (r':={ r with v:=putV r.n r.v a.round a.num r.me a.id,now:=a.round,step:=1+a.num,locked:=a.round+1,lock:=a.id,valid:=a.round+1 }) y3 d2' d3' z2 z3 rfl rfl rfl rfl { i2.ok with }
 have d2':=d2'.fr z2 (.box y3)
 have d3':=d3'.fr z2 (.box y3)
 obtain ⟨B4,u1,u2,u3⟩:=(BO8 z3 i3.ok hid).2.1
 have i4:=i3.upd (r':={ r with v:=putV r.n r.v a.round a.num r.me a.id,now:=a.round,step:=1+a.num,locked:=a.round+1,lock:=a.id,valid:=a.round+1,best:=a.id }) z3 d2' d3' u2 u3 rfl rfl rfl rfl { i3.ok with best:=hid }
 have lb1:=Bn6 (x2.rowNe r5 nrp) hid
 have lb2:=Bn6 (y2.rowNe (x2.rowNe r5 nrp) nrp) hid
 have lb3:=Bn6 (z2.rowNe (y2.rowNe (x2.rowNe r5 nrp) nrp) nrp) hid
 simp only [RT,Q0,Q1,Q2,Q3,Q4,Q5,Q6,Q7,Q8,Aa1,eqZ hid Ag3,decide_eq_false m2]
 refine ⟨Af2 rfl rfl rfl rfl rfl la5.2.2.2.2 rfl Aa1,?_⟩
 simp only [RT,Q0,Q1,Q2,Q3,Q4,Q5,Q6,Q7,Q8,Bw7,fA,la5,wr,hfa,x1,Aa1]
 refine ⟨Aa3 (ha:=rfl) rfl lb1.2.2.2.2 rfl <| Aa3 (ha:=rfl) rfl lb1.2.1 rfl <| Aa3 (ha:=rfl) rfl lb1.2.2.2.2 rfl Aa1,?_⟩
 simp only [RT,Q0,Q1,Q2,Q3,Q4,Q5,Q6,Q7,Q8,hfa,y1,Aa1]
 refine ⟨Aa3 (ha:=rfl) rfl lb2.2.1 rfl <| Aa3 (ha:=rfl) rfl lb2.2.2.2.2 rfl Aa1,?_⟩
 simp only [RT,Q0,Q1,Q2,Q3,Q4,Q5,Q6,Q7,Q8,hfa,z1,Aa1]
 refine ⟨Aa3 (ha:=rfl) rfl lb3.2.2.2.2 rfl Aa1,?_⟩
 simp only [RT,Q0,Q1,Q2,Q3,Q4,Q5,Q6,Q7,Q8,hfa,u1,Aa1]
 rw [if_pos ⟨m1,m2⟩]
 have r_:∀ {X Y:AS} {s:Rd} {s':Rd},WF X->Fr (·=.row rp) X Y->RStepS Y rp cp vb fk fa B4 s'->RStepS X rp cp vb fk fa B4 s':=fun hX hf k=>RStepS.next (r':=_) hX (hf.mono fun _ q=>.inl q) (.inl rfl) (.inl rfl) k
 have wx:=x2.wf w5
 have wy:=y2.wf wx
 exact step4 (RStepS.next0 w4 n2 (r_ (s:=r) w5 x2 (r_ (s:=r) wx y2 (r_ (s:=r) wy z2 (.upd u2 i4)))))
theorem Rng.recall {r:Rd} (hr:Rng r) (a:Act):Rng (r.Recall a)/\(r.Recall a).acts=r.acts:=by
 unfold Rd.Recall
 split
 . exact ⟨hr,rfl⟩
 rename_i q
 have q1:0<=a.round/\a.round < 12:=by
  refine ⟨Int.not_lt.1 fun w=>q (.inl w),Int.not_le.1 fun w=>q (.inr (.inl w))⟩
 split
 . split
   . rename_i w
     exact ⟨{ hr with offers:=Am5 hr.offers ⟨w.2.1,by show a.valid<=1000;have:=w.2.2;omega⟩ },rfl⟩
   . exact ⟨hr,rfl⟩
 split
 . split
   . exact ⟨hr,rfl⟩
   . rename_i qp
     have qp:putC r.n r.v a.round a.num r.me a.id=0:=Decidable.not_not.1 qp
     have hnum:a.num=0∨a.num=1:=by
      unfold putC at qp
      split at qp
      . simp at qp
      . rename_i w
        have:right r.n a.round a.num r.me:=Decidable.not_not.1 fun w3=>w (.inl w3)
        exact this.2.2.1
     simp only []
     split
     . exact ⟨{ hr with },rfl⟩
     . have h1 : Rng { r with v := putV r.n r.v a.round a.num r.me a.id, now := a.round, step := 1 + a.num } := { hr with now := ⟨by show -1 <= a.round; omega, q1.2⟩, step := ⟨by show 0 <= 1 + a.num; omega, by show 1 + a.num <= 3; omega⟩ }
       split
       . exact ⟨{ h1 with locked:=⟨by show 0<=a.round+1;omega,by show a.round+1<=1000;omega⟩,valid:=⟨by show 0<=a.round+1;omega,by show a.round+1<=1000;omega⟩ },rfl⟩
       . exact ⟨h1,rfl⟩
 . exact ⟨hr,rfl⟩
end
end Go.Sv.Try
namespace Go.Sv.Try
open Go Go.Proofs
theorem B34 (n me h:Int) (cp:Nat):evBuild Try.prog 119 [(0,.int .i64 n),(1,.int .i64 me),(2,.int .i64 h),(3,.int .i64 (-1)),(4,.int .i64 3),(12,.ptr cp 0)]=some (.agg (.int .i64 n::.int .i64 me::.int .i64 h::(encR (rd0 0 0 0) .snil .snil cp).drop 3)):=by kernel_rfl
theorem BQ0 (n me:Nat) (h:Int) (cp:Nat):evBuild Try.prog 119 [(0,.int .i64 n),(1,.int .i64 me),(2,.int .i64 h),(3,.int .i64 (-1)),(4,.int .i64 3),(12,.ptr cp 0)]=some (.agg (encR (rd0 n me h) .snil .snil cp)):=B34 n me h cp
theorem Ce9 (n me:Nat) (h:Int):Rok (rd0 n me h):=⟨Ab2,Ab2,Ab2,fun _=>Ab2,fun _ _ _=>Ab2⟩
theorem Cf0 {n me:Nat} {h:Int} (hm:me < n) (h0:0<=h) (h1:h<=9223372036854775807):Rng (rd0 n me h) where
 me:=hm
 now:=⟨by show (-1:Int)<=-1;omega,by show (-1:Int) < 12;omega⟩
 height:=⟨h0,h1⟩
 valid:=⟨by show (0:Int)<=0;omega,by show (0:Int)<=1000;omega⟩
 locked:=⟨by show (0:Int)<=0;omega,by show (0:Int)<=1000;omega⟩
 step:=⟨by show (0:Int)<=3;omega,by show (3:Int)<=3;omega⟩
 known:=by show ([]:List Bts).length<=_;simp
 offers:=fun _=>⟨by show (0:Int)<=0;omega,by show (0:Int)<=1000;omega⟩
section
variable {A A' B:AS} {rp cp:Nat} {r r':Rd} {vb:Nat->Nat} {fk fa fk' fa':Option Nat} {kv av:V}
def NewR (A0:AS) (rp:Nat) (vb:Nat->Nat):Prop:=A0.blk.length<=rp/\∀ j,j < 24->A0.blk.length<=vb j
theorem RStepS.s0 {A0:AS} (hn:NewR A0 rp vb) (h:RStepS A0 rp cp vb none none A r):Fr S0 A0 A:=by
 obtain ⟨fk',h1,_⟩:=h
 refine (Fr.refl S0 A0).trans h1 fun x q=>.inr ?_
 rcases q with rfl | ⟨j,hj,rfl⟩ | q | q
 . exact hn.1
 . exact hn.2 j hj
 . exact q.elim
 . exact q.elim
abbrev InP:=Int×Int×Int×Int×Int×Bts
def eIn:Enc InP:=ePair (eInt .i64) (ePair (eInt .i64) (ePair (eInt .i64) (ePair (eInt .i64) (ePair (eInt .i64) (eB 32 (by decide))))))
def shIn:Sh:=.struct [(.int .i64,0,1),(.int .i64,1,1),(.int .i64,2,1),(.int .i64,3,1),(.int .i64,4,1),(.arr 32 (.int .u8) 1,5,32)] 37
def KV (rp:Nat) (A A':AS):Prop:=∀ (b:Nat) (cs:List V),A.blk[b]?=some ⟨cs,.var⟩->b≠rp->A'.blk[b]?=some ⟨cs,.var⟩
theorem KV.trans {C:AS} (h:KV rp A B) (k:KV rp B C):KV rp A C:=fun b cs q w=>k b cs (h b cs q w) w
theorem KV.of0 (h:Fr S0 A B):KV rp A B:=fun b cs q _=>h.row0 q
theorem IsRd.keeps (h:IsRd A rp r cp vb fk fa) (hf:Fr (rdS A rp vb fk fa) A B):KV rp A B:=fun b cs hb hne=>hf.row b _ hb (by
 rintro (q | ⟨j,hj,q⟩ | q | q)
 . injection q with q;exact hne q
 . injection q with q;exact h.cnt.nevar hj hb q.symm
 . exact Aa8 hb q
 . exact Aa8 hb q)
end
end Go.Sv.Try
namespace Go.Sv
open Go
abbrev W32:=BitVec 32
def rot (x:W32) (n:Nat):W32:=x >>> n ||| x <<< (32 - n)
def shLow (x:W32):W32:=rot x 7 ^^^ rot x 18 ^^^ x >>> 3
def shHigh (x:W32):W32:=rot x 17 ^^^ rot x 19 ^^^ x >>> 10
def shK:List W32:=[1116352408,1899447441,3049323471,3921009573,961987163,1508970993,2453635748,2870763221,3624381080,310598401,607225278,1426881987,1925078388,2162078206,2614888103,3248222580,3835390401,4022224774,264347078,604807628,770255983,1249150122,1555081692,1996064986,2554220882,2821834349,2952996808,3210313671,3336571891,3584528711,113926993,338241895,666307205,773529912,1294757372,1396182291,1695183700,1986661051,2177026350,2456956037,2730485921,2820302411,3259730800,3345764771,3516065817,3600352804,4094571909,275423344,430227734,506948616,659060556,883997877,958139571,1322822218,1537002063,1747873779,1955562222,2024104815,2227730452,2361852424,2428436474,2756734187,3204031479,3329325298]
def gw (l:List W32) (i:Nat):W32:=l.getD i 0
def gb (l:Bts) (i:Nat):Nat:=(l.getD i 0).toNat
def be4 (b:Bts) (i:Nat):W32:=BitVec.ofNat 32 (((gb b (4 * i) * 256+gb b (4 * i+1)) * 256+gb b (4 * i+2)) * 256+gb b (4 * i+3))
def wl (b:Bts):Nat->List W32
 | 0=>[]
 | i+1=>wl b i++[if i < 16 then be4 b i else gw (wl b i) (i - 16)+shLow (gw (wl b i) (i - 15))+gw (wl b i) (i - 7)+shHigh (gw (wl b i) (i - 2))]
theorem By5 (b:Bts):∀ i,(wl b i).length=i
 | 0=>rfl
 | i+1=>by rw [wl,List.length_append,By5 b i];rfl
structure S8 where
 a:W32
 b:W32
 c:W32
 d:W32
 e:W32
 f:W32
 g:W32
 h:W32
def s8l (s:S8):List W32:=[s.a,s.b,s.c,s.d,s.e,s.f,s.g,s.h]
def chs (e f g:W32):W32:=g ^^^ e &&& (f ^^^ g)
def maj (a b c:W32):W32:=a &&& b ||| c &&& (a ||| b)
def sg1 (e:W32):W32:=rot e 6 ^^^ rot e 11 ^^^ rot e 25
def sg0 (a:W32):W32:=rot a 2 ^^^ rot a 13 ^^^ rot a 22
def one8 (k w:W32) (s:S8):W32:=s.h+sg1 s.e+chs s.e s.f s.g+k+w
def two8 (s:S8):W32:=sg0 s.a+maj s.a s.b s.c
def rnd (k w:W32) (s:S8):S8:=⟨one8 k w s+two8 s,s.a,s.b,s.c,s.d+one8 k w s,s.e,s.f,s.g⟩
def rl (ws:List W32) (s:S8):Nat->S8
 | 0=>s
 | i+1=>rnd (gw shK i) (gw ws i) (rl ws s i)
def add8 (s v:S8):S8:=⟨s.a+v.a,s.b+v.b,s.c+v.c,s.d+v.d,s.e+v.e,s.f+v.f,s.g+v.g,s.h+v.h⟩
def comp (s:S8) (b:Bts):S8:=add8 s (rl (wl b 64) s 64)
def sha0:S8:=⟨1779033703,3144134277,1013904242,2773480762,1359893119,2600822924,528734635,1541459225⟩
def out8 (s:S8):Bts:=(List.range 32).map fun i=>UInt8.ofNat ((gw (s8l s) (i / 4)).toNat >>> (24 - 8 * (i % 4)))
def be8 (n:Nat):Bts:=(List.range 8).map fun i=>UInt8.ofNat (n / 256 ^ (7 - i))
def padZ (n:Nat):Nat:=(119 - n % 64) % 64
def padB (l:Bts):Bts:=l++[128]++List.replicate (padZ l.length) 0++be8 (l.length * 8)
def chunks (l:Bts):List Bts:=(List.range (l.length / 64)).map fun i=>(l.drop (64 * i)).take 64
def sha (l:Bts):Bts:=out8 ((chunks (padB l)).foldl comp sha0)
theorem Au0 (n:Nat):(be8 n).length=8:=by simp [be8]
theorem Ao9 (s:S8):(out8 s).length=32:=by simp [out8]
theorem AY3 (l:Bts):(sha l).length=32:=Ao9 _
theorem Ar9 (l:Bts):(padB l).length=l.length+1+padZ l.length+8:=by
 simp [padB,Au0];omega
theorem Ax9 (l:Bts):(chunks l).length=l.length / 64:=by simp [chunks]
theorem A74 {l:Bts} {i:Nat} {x:Bts} (h:(chunks l)[i]?=some x):i < l.length / 64/\x=(l.drop (64 * i)).take 64/\x.length=64:=by
 have hi:i < l.length / 64:=by have:=(List.getElem?_eq_some_iff.1 h).1;rwa [Ax9]at this
 unfold chunks at h
 rw [List.getElem?_map,List.getElem?_range hi]at h
 cases h
 refine ⟨hi,rfl,?_⟩
 rw [List.length_take,List.length_drop]
 omega
def wc (k:IntKind) (l:List W32):List V:=l.map fun x=>.int k (x.toNat:Int)
theorem At1 (k:IntKind) (l:List W32):(wc k l).length=l.length:=by simp [wc]
theorem By6 (k:IntKind) (l:List W32):(wc k l).all V.one=true:=by simp [wc,V.one]
theorem BQ1 {k:IntKind} {l:List W32} {i:Nat} (h:i < l.length):(wc k l)[i]?=some (.int k ((gw l i).toNat:Int)):=by
 unfold wc gw
 rw [List.getElem?_map,List.getElem?_eq_getElem h,List.getD_eq_getElem?_getD,List.getElem?_eq_getElem h];rfl
theorem AR4 {l:List V} {i:Nat} {x:V} (h:i < l.length):putAt l i [x]=l.set i x:=by
 unfold putAt
 rw [List.set_eq_take_append_cons_drop,if_pos h];simp
theorem By7 {k:IntKind} {l:List W32} {i:Nat} {x:W32} (h:i < l.length):putAt (wc k l) i [.int k (x.toNat:Int)]=wc k (l.set i x):=by
 rw [AR4 (by rw [At1];exact h)]
 unfold wc;rw [List.map_set]
theorem BQ2 {l l':List W32} {i:Nat} (h:i < l.length):gw (l++l') i=gw l i:=by
 unfold gw;rw [List.getD_eq_getElem?_getD,List.getElem?_append_left h,List.getD_eq_getElem?_getD]
theorem AC3 (n:Int):IntKind.u32.wrap n=n % 4294967296:=by simp [IntKind.wrap,IntKind.signed,IntKind.bits]
theorem As0 (n:Int):IntKind.u64.wrap n=n % 18446744073709551616:=by simp [IntKind.wrap,IntKind.signed,IntKind.bits]
theorem AM5 (x y:W32):IntKind.u32.wrap ((x.toNat:Int)+(y.toNat:Int))=((x+y).toNat:Int):=by
 rw [BitVec.toNat_add,AC3];simp
theorem Ay0 {n:Nat} (x:W32) (h:32<=n):BitVec.ofInt n (x.toNat:Int)=x.setWidth n:=by
 rw [BitVec.ofInt_natCast]
 apply BitVec.eq_of_toNat_eq
 rw [BitVec.toNat_ofNat,BitVec.toNat_setWidth]
theorem BA7 {k:IntKind} (hk:k=.u32∨k=.u64) {x:Nat} (h:x < 2 ^ k.bits):k.wrap (x:Int)=x:=by
 rcases hk with rfl | rfl
 . rw [AC3];have h:x < 4294967296:=h;omega
 . rw [As0];have h:x < 18446744073709551616:=h;omega
theorem b32 {k:IntKind} (hk:k=.u32∨k=.u64):32<=k.bits:=by rcases hk with rfl | rfl <;> decide
theorem BQ3 {k:IntKind} (hk:k=.u32∨k=.u64) (x y:W32):evBits .xor k (x.toNat:Int) (y.toNat:Int)=some (.int k ((x ^^^ y).toNat:Int)):=by
 unfold evBits
 simp only [Ay0 _ (b32 hk)]
 have hb:=b32 hk
 have e:(x.setWidth k.bits ^^^ y.setWidth k.bits).toNat=(x ^^^ y).toNat:=by
  rw [<- BitVec.setWidth_xor,BitVec.toNat_setWidth,Nat.mod_eq_of_lt]
  exact Nat.lt_of_lt_of_le (x ^^^ y).isLt (Nat.pow_le_pow_right (by omega) hb)
 rw [e,BA7 hk]
 exact Nat.lt_of_lt_of_le (x ^^^ y).isLt (Nat.pow_le_pow_right (by omega) hb)
theorem BQ4 {k:IntKind} (hk:k=.u32∨k=.u64) (x y:W32):evBits .and k (x.toNat:Int) (y.toNat:Int)=some (.int k ((x &&& y).toNat:Int)):=by
 unfold evBits
 simp only [Ay0 _ (b32 hk)]
 have hb:=b32 hk
 have e:(x.setWidth k.bits &&& y.setWidth k.bits).toNat=(x &&& y).toNat:=by
  rw [<- BitVec.setWidth_and,BitVec.toNat_setWidth,Nat.mod_eq_of_lt]
  exact Nat.lt_of_lt_of_le (x &&& y).isLt (Nat.pow_le_pow_right (by omega) hb)
 rw [e,BA7 hk]
 exact Nat.lt_of_lt_of_le (x &&& y).isLt (Nat.pow_le_pow_right (by omega) hb)
theorem B35 {k:IntKind} (hk:k=.u32∨k=.u64) (x y:W32):evBits .or k (x.toNat:Int) (y.toNat:Int)=some (.int k ((x ||| y).toNat:Int)):=by
 unfold evBits
 simp only [Ay0 _ (b32 hk)]
 have hb:=b32 hk
 have e:(x.setWidth k.bits ||| y.setWidth k.bits).toNat=(x ||| y).toNat:=by
  rw [<- BitVec.setWidth_or,BitVec.toNat_setWidth,Nat.mod_eq_of_lt]
  exact Nat.lt_of_lt_of_le (x ||| y).isLt (Nat.pow_le_pow_right (by omega) hb)
 rw [e,BA7 hk]
 exact Nat.lt_of_lt_of_le (x ||| y).isLt (Nat.pow_le_pow_right (by omega) hb)
theorem BQ5 {k:IntKind} (hk:k=.u32∨k=.u64) (x:W32) {n:Nat} (h:n<=32):evShift .shr k (x.toNat:Int) (n:Int)=some (.int k ((x >>> n).toNat:Int)):=by
 have hb:=b32 hk
 rw [A28 x.toNat n (by omega),BitVec.toNat_ushiftRight,Nat.shiftRight_eq_div_pow]
theorem A35 (x:W32) {n:Nat} (h:n<=32):evShift .shl .u32 (x.toNat:Int) (n:Int)=some (.int .u32 ((x <<< n).toNat:Int)):=by
 unfold evShift
 rw [if_neg (by omega)]
 have e:min ((n:Int).toNat) IntKind.u32.bits=n:=by rw [Int.toNat_natCast];show min n 32=n;omega
 simp only [e]
 congr 2
 rw [BitVec.toNat_shiftLeft,Nat.shiftLeft_eq,AC3]
 simp
end Go.Sv
namespace Go.Sv
open Go
theorem BQ6 (x y z w:Nat) (hx:x < 256) (hy:y < 256) (hz:z < 256) (hw:w < 256):BitVec.ofNat 32 x <<< 24 ||| BitVec.ofNat 32 y <<< 16 ||| BitVec.ofNat 32 z <<< 8 ||| BitVec.ofNat 32 w=(BitVec.ofNat 32 (((x * 256+y) * 256+z) * 256+w):W32):=by
 apply BitVec.eq_of_toNat_eq
 simp only [BitVec.toNat_or,BitVec.toNat_shiftLeft,BitVec.toNat_ofNat]
 have e1:(x % 2 ^ 32) <<< 24 % 2 ^ 32=x <<< 24:=by simp only [Nat.shiftLeft_eq];omega
 have e2:(y % 2 ^ 32) <<< 16 % 2 ^ 32=y <<< 16:=by simp only [Nat.shiftLeft_eq];omega
 have e3:(z % 2 ^ 32) <<< 8 % 2 ^ 32=z <<< 8:=by simp only [Nat.shiftLeft_eq];omega
 have e4:w % 2 ^ 32=w:=by omega
 rw [e1,e2,e3,e4]
 rw [<- Nat.shiftLeft_add_eq_or_of_lt (b:=y <<< 16) (i:=24) (by simp only [Nat.shiftLeft_eq];omega) x]
 have e5:x <<< 24+y <<< 16=(x * 256+y) <<< 16:=by simp only [Nat.shiftLeft_eq];omega
 rw [e5,<- Nat.shiftLeft_add_eq_or_of_lt (b:=z <<< 8) (i:=16) (by simp only [Nat.shiftLeft_eq];omega)]
 have e6:(x * 256+y) <<< 16+z <<< 8=((x * 256+y) * 256+z) <<< 8:=by simp only [Nat.shiftLeft_eq];omega
 rw [e6,<- Nat.shiftLeft_add_eq_or_of_lt (b:=w) (i:=8) (by omega)]
 simp only [Nat.shiftLeft_eq];omega
theorem A75 (l:Bts) (i:Nat):gb l i < 256:=UInt8.toNat_lt _
theorem BQ7 (l:Bts) (i:Nat):(BitVec.ofNat 32 (gb l i):W32).toNat=gb l i:=by
 rw [BitVec.toNat_ofNat];have:=A75 l i;omega
theorem A36 {l:List W32} {i n:Nat} (h:l.length=i) (hi:i < n) (x z:W32):(l++List.replicate (n - i) z).set i x=l++[x]++List.replicate (n - (i+1)) z:=by
 obtain ⟨k,hk⟩:∃ k,n - i=k+1:=⟨n - i - 1,by omega⟩
 rw [hk,show n - (i+1)=k by omega,List.replicate_succ,List.set_append,if_neg (by omega),<- h,Nat.sub_self]
 simp
def mx8 (s v:S8) (i:Nat):List W32:=(s8l (add8 s v)).take i++(s8l s).drop i
theorem Bd6 {s v:S8} {i:Nat} (h:i<=8):(mx8 s v i).length=8:=by simp [mx8,s8l];omega
theorem Bn7 {s v:S8} {i:Nat} (h:i < 8):gw (mx8 s v i) i=gw (s8l s) i/\(mx8 s v i).set i (gw (s8l s) i+gw (s8l v) i)=mx8 s v (i+1):=by
 have:i=0∨i=1∨i=2∨i=3∨i=4∨i=5∨i=6∨i=7:=by omega
 rcases this with rfl | rfl | rfl | rfl | rfl | rfl | rfl | rfl <;> exact ⟨rfl,rfl⟩
end Go.Sv
namespace Go.Sv.Try
open Go Go.Proofs
section
variable {A:AS} {r:Nat} {k:BK}
theorem AY4 (x y:W32):evBits .xor .u32 (x.toNat:Int) (y.toNat:Int)=some (.int .u32 ((x ^^^ y).toNat:Int)):=BQ3 (.inl rfl) x y
theorem BQ8 (x y:W32):evBits .and .u32 (x.toNat:Int) (y.toNat:Int)=some (.int .u32 ((x &&& y).toNat:Int)):=BQ4 (.inl rfl) x y
theorem B36 (x y:W32):evBits .or .u32 (x.toNat:Int) (y.toNat:Int)=some (.int .u32 ((x ||| y).toNat:Int)):=B35 (.inl rfl) x y
theorem Bn8 (x:W32) {n:Nat} (h:n<=32):evShift .shr .u32 (x.toNat:Int) (n:Int)=some (.int .u32 ((x >>> n).toNat:Int)):=BQ5 (.inl rfl) x h
theorem Cf1 (n:Int) (A:AS):cnv Try.prog 3 125 (some (.int .i64 n)) A=some (.val (.int .u64 (IntKind.u64.wrap n))):=AA0 (by decide) Try.underlying3 Try.underlying125
theorem B37 (l:Bts) (j:Nat) (A:AS):cnv Try.prog 5 142 (some (.int .u8 (gb l j:Int))) A=some (.val (.int .u32 ((BitVec.ofNat 32 (gb l j):W32).toNat:Int))):=by
 rw [AA0 (by decide) Try.underlying5 Try.underlying142,BQ7,AC3]
 have:=A75 l j
 rw [Int.emod_eq_of_lt (by omega) (by omega)]
theorem Af4 {x:W32} {n:Nat} (h1:1<=n) (h2:n<=31) {y:Int} (hy:y = -(n:Int)):EvF Try.prog HH 71 [.int .u32 (x.toNat:Int),.int .i64 y] A (.int .u32 ((rot x n).toNat:Int)) A:=by
 suffices h:∃ w A',EvF Try.prog HH 71 [.int .u32 (x.toNat:Int),.int .i64 y] A w A'/\A'=A/\w=.int .u32 ((rot x n).toNat:Int) by
  obtain ⟨w,A',h,rfl,rfl⟩:=h;exact h
 have e1:evBits .and .u64 (IntKind.u64.wrap y) 31=some (.int .u64 ((32 - n:Nat):Int)):=by
  rw [As0,hy]
  unfold evBits
  have a1:BitVec.ofInt IntKind.u64.bits (-(n:Int) % 18446744073709551616)=BitVec.ofNat IntKind.u64.bits (18446744073709551616 - n):=by
   rw [show -(n:Int) % 18446744073709551616=((18446744073709551616 - n:Nat):Int) by omega,BitVec.ofInt_natCast]
  have a2:(BitVec.ofNat IntKind.u64.bits (18446744073709551616 - n) &&& BitVec.ofInt IntKind.u64.bits 31).toNat=32 - n:=by
   show ((BitVec.ofNat 64 (18446744073709551616 - n):BitVec 64) &&& (BitVec.ofNat 64 31:BitVec 64)).toNat=32 - n
   rw [BitVec.toNat_and,BitVec.toNat_ofNat,BitVec.toNat_ofNat,Nat.mod_eq_of_lt (by omega),show (31:Nat) % 2 ^ 64=2 ^ 5 - 1 by rfl,Nat.and_two_pow_sub_one_eq_mod]
   omega
  simp only [a1,a2]
  rw [As0];congr 2;omega
 have e2:IntKind.u64.wrap (32 - ((32 - n:Nat):Int))=(n:Int):=by rw [As0];omega
 refine Aa4 rfl Try.func71 (by unfold Try.f71;rfl) Try.ntmps71 (by unfold Try.f71;rfl) (by simp) ?_
 simp only [RT,Q0,Q1,Q2,Q3,Q4,Q5,Q6,Q7,Q8,Cf1,A59,e1,A60,A35 x (n:=32 - n) (by omega),AH0,e2,Bn8 x (n:=n) (by omega),Bt9,B36]
 unfold rot
 rw [BitVec.or_comm]
theorem By8 {r j:Nat} (h:j < 64):evIndexAddr Try.prog 158 (.ptr r 0) (.int .i64 (j:Int))=some (.ptr r j):=by
 rw [Aj4 Try.underlying158 BO1 h,Nat.zero_add,Nat.mul_one]
theorem AR5 {r j:Nat} (h:j < 64):evIndexAddr Try.prog 148 (.ptr r 0) (.int .i64 (j:Int))=some (.ptr r j):=by
 rw [Aj4 Try.underlying148 sz5 h,Nat.zero_add,Nat.mul_one]
theorem ax8 {r j:Nat} (h:j < 8):evIndexAddr Try.prog 144 (.ptr r 0) (.int .i64 (j:Int))=some (.ptr r j):=by
 rw [Aj4 Try.underlying144 BO1 h,Nat.zero_add,Nat.mul_one]
theorem Cf2 (r:Nat):evIndexAddr Try.prog 144 (.ptr r 0) (.int .i64 0)=some (.ptr r 0)/\evIndexAddr Try.prog 144 (.ptr r 0) (.int .i64 1)=some (.ptr r 1)/\evIndexAddr Try.prog 144 (.ptr r 0) (.int .i64 2)=some (.ptr r 2)/\evIndexAddr Try.prog 144 (.ptr r 0) (.int .i64 3)=some (.ptr r 3)/\evIndexAddr Try.prog 144 (.ptr r 0) (.int .i64 4)=some (.ptr r 4)/\evIndexAddr Try.prog 144 (.ptr r 0) (.int .i64 5)=some (.ptr r 5)/\evIndexAddr Try.prog 144 (.ptr r 0) (.int .i64 6)=some (.ptr r 6)/\evIndexAddr Try.prog 144 (.ptr r 0) (.int .i64 7)=some (.ptr r 7) :=
 ⟨ax8 (j:=0) (by decide),ax8 (j:=1) (by decide),ax8 (j:=2) (by decide),ax8 (j:=3) (by decide),ax8 (j:=4) (by decide),ax8 (j:=5) (by decide),ax8 (j:=6) (by decide),ax8 (j:=7) (by decide)⟩
theorem ldW {l:List W32} (hb:A.blk[r]?=some ⟨wc .u32 l,k⟩) {j:Nat} (h:j < l.length):evLoad Try.prog 142 (.ptr r j) A=some (.int .u32 ((gw l j).toNat:Int)):=by
 rw [Ab3 Cb2 hb,BQ1 h]
theorem ld8 {s:S8} (hb:A.blk[r]?=some ⟨wc .u32 (s8l s),k⟩):evLoad Try.prog 142 (.ptr r 0) A=some (.int .u32 (s.a.toNat:Int))/\evLoad Try.prog 142 (.ptr r 1) A=some (.int .u32 (s.b.toNat:Int))/\evLoad Try.prog 142 (.ptr r 2) A=some (.int .u32 (s.c.toNat:Int))/\evLoad Try.prog 142 (.ptr r 3) A=some (.int .u32 (s.d.toNat:Int))/\evLoad Try.prog 142 (.ptr r 4) A=some (.int .u32 (s.e.toNat:Int))/\evLoad Try.prog 142 (.ptr r 5) A=some (.int .u32 (s.f.toNat:Int))/\evLoad Try.prog 142 (.ptr r 6) A=some (.int .u32 (s.g.toNat:Int))/\evLoad Try.prog 142 (.ptr r 7) A=some (.int .u32 (s.h.toNat:Int)) :=
 ⟨ldW hb (j:=0) (by decide:0 < 8),ldW hb (j:=1) (by decide:1 < 8),ldW hb (j:=2) (by decide:2 < 8),ldW hb (j:=3) (by decide:3 < 8),ldW hb (j:=4) (by decide:4 < 8),ldW hb (j:=5) (by decide:5 < 8),ldW hb (j:=6) (by decide:6 < 8),ldW hb (j:=7) (by decide:7 < 8)⟩
theorem ldB {l:Bts} (hb:A.blk[r]?=some ⟨bc l,k⟩) {j:Nat} (h:j < l.length):evLoad Try.prog 5 (.ptr r j) A=some (.int .u8 (gb l j:Int)):=by
 rw [Ab3 ag5 hb,A61,List.getElem?_eq_getElem h]
 unfold gb
 rw [List.getD_eq_getElem?_getD,List.getElem?_eq_getElem h];rfl
theorem stW {l:List W32} (hb:A.blk[r]?=some ⟨wc .u32 l,.var⟩) {j:Nat} (h:j < l.length) (x:W32):∃ A',evStore Try.prog 142 (.ptr r j) (.int .u32 (x.toNat:Int)) A=some A'/\Fr (·=.row r) A A'/\A'.blk[r]?=some ⟨wc .u32 (l.set j x),.var⟩:=by
 obtain ⟨A',s1,s2,s3,s4⟩:=Ac0 (P:=Try.prog) (t:=142) (o:=j) (x:=.int .u32 (x.toNat:Int)) (cs:=[.int .u32 (x.toNat:Int)]) hb rfl BO1 (by rw [At1];exact h) rfl
 rw [By7 h]at s3
 exact ⟨A',s1,s2,s3⟩
theorem Cf3:evBuild Try.prog 158 [(0,.int .u32 1116352408),(1,.int .u32 1899447441),(2,.int .u32 3049323471),(3,.int .u32 3921009573),(4,.int .u32 961987163),(5,.int .u32 1508970993),(6,.int .u32 2453635748),(7,.int .u32 2870763221),(8,.int .u32 3624381080),(9,.int .u32 310598401),(10,.int .u32 607225278),(11,.int .u32 1426881987),(12,.int .u32 1925078388),(13,.int .u32 2162078206),(14,.int .u32 2614888103),(15,.int .u32 3248222580),(16,.int .u32 3835390401),(17,.int .u32 4022224774),(18,.int .u32 264347078),(19,.int .u32 604807628),(20,.int .u32 770255983),(21,.int .u32 1249150122),(22,.int .u32 1555081692),(23,.int .u32 1996064986),(24,.int .u32 2554220882),(25,.int .u32 2821834349),(26,.int .u32 2952996808),(27,.int .u32 3210313671),(28,.int .u32 3336571891),(29,.int .u32 3584528711),(30,.int .u32 113926993),(31,.int .u32 338241895),(32,.int .u32 666307205),(33,.int .u32 773529912),(34,.int .u32 1294757372),(35,.int .u32 1396182291),(36,.int .u32 1695183700),(37,.int .u32 1986661051),(38,.int .u32 2177026350),(39,.int .u32 2456956037),(40,.int .u32 2730485921),(41,.int .u32 2820302411),(42,.int .u32 3259730800),(43,.int .u32 3345764771),(44,.int .u32 3516065817),(45,.int .u32 3600352804),(46,.int .u32 4094571909),(47,.int .u32 275423344),(48,.int .u32 430227734),(49,.int .u32 506948616),(50,.int .u32 659060556),(51,.int .u32 883997877),(52,.int .u32 958139571),(53,.int .u32 1322822218),(54,.int .u32 1537002063),(55,.int .u32 1747873779),(56,.int .u32 1955562222),(57,.int .u32 2024104815),(58,.int .u32 2227730452),(59,.int .u32 2361852424),(60,.int .u32 2428436474),(61,.int .u32 2756734187),(62,.int .u32 3204031479),(63,.int .u32 3329325298)]=some (.agg (wc .u32 shK)):=by kernel_rfl
theorem zcW:(zeroT Try.prog 158).bind V.cells=some (wc .u32 (List.replicate 64 0)):=by kernel_rfl
theorem zcS:(zeroT Try.prog 144).bind V.cells=some (wc .u32 (List.replicate 8 0)):=by kernel_rfl
theorem Cf4 (a b c d e f g h:Int):evBuild Try.prog 144 [(0,.int .u32 a),(1,.int .u32 b),(2,.int .u32 c),(3,.int .u32 d),(4,.int .u32 e),(5,.int .u32 f),(6,.int .u32 g),(7,.int .u32 h)]=some (.agg [.int .u32 a,.int .u32 b,.int .u32 c,.int .u32 d,.int .u32 e,.int .u32 f,.int .u32 g,.int .u32 h]):=by kernel_rfl
theorem B38 (l0 l:List W32) {n:Nat} {t:TypeId} (h0:l0.length=n) (h1:l.length=n) (hs:szT Try.prog t=some n):∃ A',evStore Try.prog t (.ptr A.blk.length 0) (.agg (wc .u32 l)) (A.push ⟨wc .u32 l0,.var⟩)=some A'/\Fr S0 A A'/\A'.blk[A.blk.length]?=some ⟨wc .u32 l,.var⟩:=by
 obtain ⟨A2,s1,s2,s3,s4⟩:=Ai4 (P:=Try.prog) A (z:=wc .u32 l0) (t:=t) (x:=.agg (wc .u32 l)) (cs:=wc .u32 l) rfl (by rw [At1,h1];exact hs) (by rw [At1,At1,h0,h1]) (By6 _ _)
 exact ⟨A2,s1,s2,s3⟩
end
end Go.Sv.Try
namespace Go.Sv.Try
open Go Go.Proofs
section
variable {A:AS} {r:Nat} {k:BK}
set_option maxRecDepth 20000 in
set_option maxHeartbeats 32000000 in
theorem A76 {bs bb:Nat} {s:S8} {b:Bts} (hs:A.blk[bs]?=some ⟨wc .u32 (s8l s),.var⟩) (hb:A.blk[bb]?=some ⟨bc b,.var⟩) (hl:b.length=64) (hne:bs≠bb) :
 ∃ w A',EvF Try.prog HH 65 [.ptr bs 0,.ptr bb 0] A w A'/\Fr (·=.row bs) A A'/\A'.blk[bs]?=some ⟨wc .u32 (s8l (comp s b)),.var⟩:=by
 refine Aa4 rfl Try.func65 (by unfold Try.f65;rfl) Try.ntmps65 (by unfold Try.f65;rfl) (by simp) ?_
 obtain ⟨A1,e1,f1,r4⟩:=B38 (A:=A) (List.replicate 64 0) shK (n:=64) (t:=158) rfl rfl Cb6
 simp only [RT,Q0,Q1,Q2,Q3,Q4,Q5,Q6,Q7,Q8,Cf3,zcW,e1]
 obtain ⟨b4,hb4⟩:∃ x,x=A.blk.length:=⟨_,rfl⟩
 rw [<- hb4]at r4 ⊢
 obtain ⟨A2,e2,f2,r5,n5⟩:=Aa9 A1 (wc .u32 (List.replicate 64 0))
 rw [<- e2]
 obtain ⟨b5,hb5⟩:∃ x,x=A1.blk.length:=⟨_,rfl⟩
 rw [<- hb5]at r5 ⊢
 have lts:=Ac3 hs
 have ltb:=Ac3 hb
 have lt4:b4 < A1.blk.length:=Ac3 r4
 have f12:=f1.then0 f2
 obtain ⟨W,hW⟩:∃ W:Nat->List W32,W=wl b:=⟨_,rfl⟩
 have hWl:∀ i,(W i).length=i:=fun i=>by rw [hW,By5]
 have hWs:∀ i,W (i+1)=W i++[if i < 16 then be4 b i else gw (W i) (i - 16)+shLow (gw (W i) (i - 15))+gw (W i) (i - 7)+shHigh (gw (W i) (i - 2))]:=fun i=>by rw [hW];rfl
 obtain ⟨R,hRd⟩:∃ R:Nat->S8,R=rl (W 64) s:=⟨_,rfl⟩
 have hRs:∀ i,R (i+1)=rnd (gw shK i) (gw (W 64) i) (R i):=fun i=>by rw [hRd];rfl
 have hR0:R 0=s:=by rw [hRd];rfl
 have hcomp:comp s b=add8 s (R 64):=by rw [hRd,hW];rfl
 have r5':A2.blk[b5]?=some ⟨wc .u32 (W 0++List.replicate (64 - 0) 0),.var⟩:=by rw [show W 0=[] by rw [hW];rfl,List.nil_append,Nat.sub_zero];exact r5
 refine Aa6 (fun z e B=>∃ i:Nat,z=64 - i/\i<=64/\e.get 19=.int .i64 i/\e.get 0=.ptr bs 0/\e.get 1=.ptr bb 0/\e.get 4=.ptr b4 0/\e.get 5=.ptr b5 0/\Fr (·=.row b5) A2 B/\B.blk[b5]?=some ⟨wc .u32 (W i++List.replicate (64 - i) 0),.var⟩)
  (fun z e B=>Is z (.exit 0)/\e.get 0=.ptr bs 0/\e.get 4=.ptr b4 0/\e.get 5=.ptr b5 0/\Fr (·=.row b5) A2 B/\B.blk[b5]?=some ⟨wc .u32 (W 64),.var⟩)
  ⟨_,0,rfl,by omega,rfl,rfl,rfl,rfl,rfl,.refl _ _,r5'⟩ ?_ ?_
 . rintro z e B ⟨i, rfl, hi, h19, h0, h1, h4, h5, hF, hB⟩
   simp only [RT,Q0,Q1,Q2,Q3,Q4,Q5,Q6,Q7,Q8,h19]
   refine Aa7 (fun q1=>?_) (fun q1=>?_)
   rotate_left
   . have : i = 64 := by omega
     subst this
     rw [Nat.sub_self,List.replicate_zero,List.append_nil]at hB
     simp only [RT,Q0,Q1,Q2,Q3,Q4,Q5,Q6,Q7,Q8]
     exact ⟨rfl,h0,h4,h5,hF,hB⟩
   have hi:i < 64:=by omega
   have hbB:=hF.row _ _ (f12.row0 hb) (fun q=>by cases q;omega)
   have hll:(W i++List.replicate (64 - i) (0:W32)).length=64:=by rw [List.length_append,hWl,List.length_replicate];omega
   have hwi:IntKind.i64.wrap ((i:Int)+1)=((i+1:Nat):Int):=by rw [Ae4 (by omega)]
   by_cases q16:i < 16
   . simp only [RT, Q0, Q1, Q2, Q3, Q4, Q5, Q6, Q7, Q8, h19, decide_eq_true (show ((i : Int) < 16) by omega)]
     rw [BM9,Aa2 (by rfl)]
     have w0:IntKind.i64.wrap (4 * (i:Int))=((4 * i:Nat):Int):=by rw [Ae1 (by omega) (by omega)];omega
     have w1:IntKind.i64.wrap (((4 * i:Nat):Int)+1)=((4 * i+1:Nat):Int):=by rw [Ae1 (by omega) (by omega)];omega
     have w2:IntKind.i64.wrap (((4 * i:Nat):Int)+2)=((4 * i+2:Nat):Int):=by rw [Ae1 (by omega) (by omega)];omega
     have w3:IntKind.i64.wrap (((4 * i:Nat):Int)+3)=((4 * i+3:Nat):Int):=by rw [Ae1 (by omega) (by omega)];omega
     have s24:∀ x:W32,evShift .shl .u32 (x.toNat:Int) 24=some (.int .u32 ((x <<< 24).toNat:Int)):=fun x=>A35 x (n:=24) (by decide)
     have s16:∀ x:W32,evShift .shl .u32 (x.toNat:Int) 16=some (.int .u32 ((x <<< 16).toNat:Int)):=fun x=>A35 x (n:=16) (by decide)
     have s8:∀ x:W32,evShift .shl .u32 (x.toNat:Int) 8=some (.int .u32 ((x <<< 8).toNat:Int)):=fun x=>A35 x (n:=8) (by decide)
     obtain ⟨C,t1,t2,t3⟩:=stW hB (j:=i) (by omega) (be4 b i)
     rw [A36 (hWl i) hi]at t3
     have hbe:=BQ6 (gb b (4 * i)) (gb b (4 * i+1)) (gb b (4 * i+2)) (gb b (4 * i+3)) (A75 _ _) (A75 _ _) (A75 _ _) (A75 _ _)
     simp only [RT,Q0,Q1,Q2,Q3,Q4,Q5,Q6,Q7,Q8,h1,h5,w0,w1,w2,w3,AR5 (r:=bb) (show 4 * i < 64 by omega),AR5 (r:=bb) (show 4 * i+1 < 64 by omega),AR5 (r:=bb) (show 4 * i+2 < 64 by omega),AR5 (r:=bb) (show 4 * i+3 < 64 by omega),ldB hbB (show 4 * i < b.length by omega),ldB hbB (show 4 * i+1 < b.length by omega),ldB hbB (show 4 * i+2 < b.length by omega),ldB hbB (show 4 * i+3 < b.length by omega),B37,A60,Bt9,s24,s16,s8,B36,By8 (r:=b5) hi,hbe]
     have t1':evStore Try.prog 142 (.ptr b5 i) (.int .u32 ((BitVec.ofNat 32 (((gb b (4 * i) * 256+gb b (4 * i+1)) * 256+gb b (4 * i+2)) * 256+gb b (4 * i+3)):W32).toNat:Int)) B=some C:=t1
     simp only [RT,Q0,Q1,Q2,Q3,Q4,Q5,Q6,Q7,Q8,t1',h19,hwi]
     refine ⟨64 - (i+1),by omega,i+1,rfl,by omega,rfl,h0,h1,h4,h5,hF.trans t2 fun x q=>.inl q,?_⟩
     rw [hWs,if_pos q16];exact t3
   . simp only [RT, Q0, Q1, Q2, Q3, Q4, Q5, Q6, Q7, Q8, h19, decide_eq_false (show ¬ ((i : Int) < 16) by omega)]
     have w15:IntKind.i64.wrap ((i:Int) - 15)=((i - 15:Nat):Int):=by rw [Ae1 (by omega) (by omega)];omega
     have w2:IntKind.i64.wrap ((i:Int) - 2)=((i - 2:Nat):Int):=by rw [Ae1 (by omega) (by omega)];omega
     have w16:IntKind.i64.wrap ((i:Int) - 16)=((i - 16:Nat):Int):=by rw [Ae1 (by omega) (by omega)];omega
     have w7:IntKind.i64.wrap ((i:Int) - 7)=((i - 7:Nat):Int):=by rw [Ae1 (by omega) (by omega)];omega
     have s3:∀ x:W32,evShift .shr .u32 (x.toNat:Int) 3=some (.int .u32 ((x >>> 3).toNat:Int)):=fun x=>Bn8 x (n:=3) (by decide)
     have s10:∀ x:W32,evShift .shr .u32 (x.toNat:Int) 10=some (.int .u32 ((x >>> 10).toNat:Int)):=fun x=>Bn8 x (n:=10) (by decide)
     have g:∀ j,j < i->evLoad Try.prog 142 (.ptr b5 j) B=some (.int .u32 ((gw (W i) j).toNat:Int)):=fun j hj=>by
      rw [ldW hB (by omega),BQ2 (by rw [hWl];exact hj)]
     rw [BN0,Aa2 (by rfl)]
     simp only [RT,Q0,Q1,Q2,Q3,Q4,Q5,Q6,Q7,Q8,h19,w15,w2,By8 (r:=b5) (show i - 15 < 64 by omega),By8 (r:=b5) (show i - 2 < 64 by omega),h5,g (i - 15) (by omega),g (i - 2) (by omega)]
     refine Aa0 (Af4 (n:=7) (by decide) (by decide) rfl) ?_
     simp only [RT,Q0,Q1,Q2,Q3,Q4,Q5,Q6,Q7,Q8]
     refine Aa0 (Af4 (n:=18) (by decide) (by decide) rfl) ?_
     simp only [RT,Q0,Q1,Q2,Q3,Q4,Q5,Q6,Q7,Q8,AB5,AY4,AH0,s3]
     refine Aa0 (Af4 (n:=17) (by decide) (by decide) rfl) ?_
     simp only [RT,Q0,Q1,Q2,Q3,Q4,Q5,Q6,Q7,Q8]
     refine Aa0 (Af4 (n:=19) (by decide) (by decide) rfl) ?_
     simp only [RT,Q0,Q1,Q2,Q3,Q4,Q5,Q6,Q7,Q8,AB5,AY4,AH0,s10]
     rw [Bx2,Aa2 (by rfl)]
     obtain ⟨C,t1,t2,t3⟩:=stW hB (j:=i) (by omega) (gw (W i) (i - 16)+shLow (gw (W i) (i - 15))+gw (W i) (i - 7)+shHigh (gw (W i) (i - 2)))
     rw [A36 (hWl i) hi]at t3
     unfold shLow shHigh at t1
     simp only [RT,Q0,Q1,Q2,Q3,Q4,Q5,Q6,Q7,Q8,h19,w16,w7,By8 (r:=b5) (show i - 16 < 64 by omega),By8 (r:=b5) (show i - 7 < 64 by omega),h5,g (i - 16) (by omega),g (i - 7) (by omega),AM5,By8 (r:=b5) hi,t1,hwi]
     refine ⟨64 - (i+1),by omega,i+1,rfl,by omega,rfl,h0,h1,h4,hF.trans t2 fun x q=>.inl q,?_⟩
     rw [hWs,if_neg q16];exact t3
 rintro z e B hz ⟨rfl,h0,h4,h5,hF,hB⟩
 have hsB:=hF.row _ _ (f12.row0 hs) (fun q=>by cases q;omega)
 have hkB:=hF.row _ _ (f2.row0 r4) (fun q=>by cases q;omega)
 have ltB:A2.blk.length<=B.blk.length:=hF.len
 have lst:evLoad Try.prog 144 (.ptr bs 0) B=some (.agg (wc .u32 (s8l s))):=At.load hsB (At.all _) Cb3 By2 rfl
 obtain ⟨C,u1,u2,u3⟩:=B38 (A:=B) (List.replicate 8 0) (s8l s) (n:=8) (t:=144) rfl rfl By2
 simp only [RT,Q0,Q1,Q2,Q3,Q4,Q5,Q6,Q7,Q8,h0,lst,zcS,u1]
 obtain ⟨b11,hb11⟩:∃ x,x=B.blk.length:=⟨_,rfl⟩
 rw [<- hb11]at u3 ⊢
 have hB5:=u2.row0 hB
 have hK4:=u2.row0 hkB
 have hs2:=u2.row0 hsB
 have lt5:b5 < B.blk.length:=Ac3 hB
 have lt4':b4 < B.blk.length:=Ac3 hkB
 have lts':bs < B.blk.length:=Ac3 hsB
 have ax:=Cf2 b11
 refine Aa6 (fun z e D=>∃ i:Nat,z=64 - i/\i<=64/\e.get 106=.int .i64 i/\e.get 0=.ptr bs 0/\e.get 4=.ptr b4 0/\e.get 5=.ptr b5 0/\e.get 11=.ptr b11 0/\Fr (·=.row b11) C D/\D.blk[b11]?=some ⟨wc .u32 (s8l (R i)),.var⟩)
  (fun z e D=>Is z (.exit 2)/\e.get 0=.ptr bs 0/\e.get 11=.ptr b11 0/\Fr (·=.row b11) C D/\D.blk[b11]?=some ⟨wc .u32 (s8l (R 64)),.var⟩)
  ⟨_,0,rfl,by omega,rfl,h0,h4,h5,rfl,.refl _ _,by rw [hR0];exact u3⟩ ?_ ?_
 . rintro z e D ⟨i, rfl, hi, h106, h0, h4, h5, h11, hG, hD⟩
   simp only [RT,Q0,Q1,Q2,Q3,Q4,Q5,Q6,Q7,Q8,h106]
   refine Aa7 (fun q1=>?_) (fun q1=>?_)
   rotate_left
   . have : i = 64 := by omega
     subst this
     simp only [RT,Q0,Q1,Q2,Q3,Q4,Q5,Q6,Q7,Q8]
     exact ⟨rfl,h0,h11,hG,hD⟩
   have hi:i < 64:=by omega
   have hwi:IntKind.i64.wrap ((i:Int)+1)=((i+1:Nat):Int):=by rw [Ae4 (by omega)]
   obtain ⟨v,hv⟩:∃ v,v=R i:=⟨_,rfl⟩
   rw [<- hv]at hD
   have l8:=ld8 hD
   have lw:=ldW (hG.row _ _ hB5 (fun q=>by cases q;omega)) (j:=i) (by rw [hWl];exact hi)
   have lk:=ldW (hG.row _ _ hK4 (fun q=>by cases q;omega)) (j:=i) (show i < 64 from hi)
   obtain ⟨E,v1,v2,v3,v4⟩:=Ac0 (P:=Try.prog) (t:=144) (o:=0) (x:=.agg (wc .u32 (s8l (rnd (gw shK i) (gw (W 64) i) v)))) (cs:=wc .u32 (s8l (rnd (gw shK i) (gw (W 64) i) v))) hD rfl By2 (by rw [At1,At1];exact Nat.le_refl _) (By6 _ _)
   rw [Ag5 (by rw [At1,At1];rfl)]at v3
   have v1':evStore Try.prog 144 (.ptr b11 0) (.agg [.int .u32 ((one8 (gw shK i) (gw (W 64) i) v+two8 v).toNat:Int),.int .u32 (v.a.toNat:Int),.int .u32 (v.b.toNat:Int),.int .u32 (v.c.toNat:Int),.int .u32 ((v.d+one8 (gw shK i) (gw (W 64) i) v).toNat:Int),.int .u32 (v.e.toNat:Int),.int .u32 (v.f.toNat:Int),.int .u32 (v.g.toNat:Int)]) D=some E:=v1
   unfold one8 two8 sg0 sg1 chs maj at v1'
   simp only [RT,Q0,Q1,Q2,Q3,Q4,Q5,Q6,Q7,Q8,h106]
   rw [Bx3,Aa2 (by rfl)]
   simp only [RT,Q0,Q1,Q2,Q3,Q4,Q5,Q6,Q7,Q8,h11,ax,l8,Bx4,h106,h4,h5,AB5,AY4,A59,BQ8,By8 (r:=b4) hi,By8 (r:=b5) hi,lw,lk,Aa1]
   refine Aa0 (Af4 (n:=6) (by decide) (by decide) rfl) ?_
   simp only [RT,Q0,Q1,Q2,Q3,Q4,Q5,Q6,Q7,Q8,Aa1]
   refine ⟨Aa3 (ha:=rfl) rfl l8.2.2.2.2.2.2.2 rfl (Aa3 (ha:=rfl) rfl l8.2.2.2.2.2.2.1 rfl (Aa3 (ha:=rfl) rfl l8.2.2.2.2.2.1 rfl (Aa3 (ha:=rfl) rfl l8.2.2.2.2.2.2.1 rfl (Aa3 (ha:=rfl) rfl lk rfl (Aa3 (ha:=rfl) rfl lw rfl Aa1))))),?_⟩
   refine Aa0 (Af4 (n:=11) (by decide) (by decide) rfl) ?_
   simp only [RT,Q0,Q1,Q2,Q3,Q4,Q5,Q6,Q7,Q8,Aa1]
   refine ⟨Aa3 (ha:=rfl) rfl l8.2.2.2.2.2.2.2 rfl (Aa3 (ha:=rfl) rfl l8.2.2.2.2.2.2.1 rfl (Aa3 (ha:=rfl) rfl l8.2.2.2.2.2.1 rfl (Aa3 (ha:=rfl) rfl l8.2.2.2.2.2.2.1 rfl (Aa3 (ha:=rfl) rfl lk rfl (Aa3 (ha:=rfl) rfl lw rfl Aa1))))),?_⟩
   simp only [RT,Q0,Q1,Q2,Q3,Q4,Q5,Q6,Q7,Q8,Aa1,AB5,AY4]
   refine Aa0 (Af4 (n:=25) (by decide) (by decide) rfl) ?_
   simp only [RT,Q0,Q1,Q2,Q3,Q4,Q5,Q6,Q7,Q8,Aa1]
   refine ⟨Aa3 (ha:=rfl) rfl l8.2.2.2.2.2.2.2 rfl (Aa3 (ha:=rfl) rfl l8.2.2.2.2.2.2.1 rfl (Aa3 (ha:=rfl) rfl l8.2.2.2.2.2.1 rfl (Aa3 (ha:=rfl) rfl l8.2.2.2.2.2.2.1 rfl (Aa3 (ha:=rfl) rfl lk rfl (Aa3 (ha:=rfl) rfl lw rfl Aa1))))),?_⟩
   simp only [RT,Q0,Q1,Q2,Q3,Q4,Q5,Q6,Q7,Q8,Aa1,AB5,AY4,AM5,Bx5,h11,ax,l8,A59,BQ8,Bt9,B36]
   refine Aa0 (Af4 (n:=2) (by decide) (by decide) rfl) ?_
   simp only [RT,Q0,Q1,Q2,Q3,Q4,Q5,Q6,Q7,Q8,Aa1]
   refine ⟨Aa3 (ha:=rfl) rfl l8.2.1 rfl (Aa3 (ha:=rfl) rfl l8.2.2.1 rfl (Aa3 (ha:=rfl) rfl l8.2.1 rfl Aa1)),?_⟩
   refine Aa0 (Af4 (n:=13) (by decide) (by decide) rfl) ?_
   simp only [RT,Q0,Q1,Q2,Q3,Q4,Q5,Q6,Q7,Q8,Aa1]
   refine ⟨Aa3 (ha:=rfl) rfl l8.2.1 rfl (Aa3 (ha:=rfl) rfl l8.2.2.1 rfl (Aa3 (ha:=rfl) rfl l8.2.1 rfl Aa1)),?_⟩
   simp only [RT,Q0,Q1,Q2,Q3,Q4,Q5,Q6,Q7,Q8,Aa1,AB5,AY4]
   refine Aa0 (Af4 (n:=22) (by decide) (by decide) rfl) ?_
   simp only [RT,Q0,Q1,Q2,Q3,Q4,Q5,Q6,Q7,Q8,Aa1]
   refine ⟨Aa3 (ha:=rfl) rfl l8.2.1 rfl (Aa3 (ha:=rfl) rfl l8.2.2.1 rfl (Aa3 (ha:=rfl) rfl l8.2.1 rfl Aa1)),?_⟩
   simp only [RT,Q0,Q1,Q2,Q3,Q4,Q5,Q6,Q7,Q8,Aa1,AB5,AY4,AM5,h11,ax,l8,Cf4,v1']
   simp only [RT,Q0,Q1,Q2,Q3,Q4,Q5,Q6,Q7,Q8,h106,hwi]
   refine ⟨64 - (i+1),by omega,i+1,rfl,by omega,rfl,h0,h4,h5,h11,hG.trans v2 fun x q=>.inl q,?_⟩
   rw [hRs,<- hv];exact v3
 rintro z e D hz ⟨rfl,h0,h11,hG,hD⟩
 have hsD:=hG.row _ _ hs2 (fun q=>by cases q;omega)
 have ltD:b11 < D.blk.length:=Ac3 hD
 obtain ⟨v,hv⟩:∃ v,v=R 64:=⟨_,rfl⟩
 rw [<- hv]at hD hcomp
 simp only [RT,Q0,Q1,Q2,Q3,Q4,Q5,Q6,Q7,Q8]
 refine Aa6 (fun z e E=>∃ i:Nat,z=8 - i/\i<=8/\e.get 183=.int .i64 i/\e.get 0=.ptr bs 0/\e.get 11=.ptr b11 0/\Fr (·=.row bs) D E/\E.blk[b11]?=some ⟨wc .u32 (s8l v),.var⟩/\E.blk[bs]?=some ⟨wc .u32 (mx8 s v i),.var⟩)
  (fun z e E=>Is z (.exit 4)/\Fr (·=.row bs) D E/\E.blk[bs]?=some ⟨wc .u32 (s8l (add8 s v)),.var⟩)
  ⟨_,0,rfl,by omega,rfl,h0,h11,.refl _ _,hD,hsD⟩ ?_ ?_
 . rintro z e E ⟨i, rfl, hi, h183, h0, h11, hE, hv1, hs1⟩
   simp only [RT,Q0,Q1,Q2,Q3,Q4,Q5,Q6,Q7,Q8,h183]
   refine Aa7 (fun q1=>?_) (fun q1=>?_)
   rotate_left
   . have : i = 8 := by omega
     subst this
     simp only [RT,Q0,Q1,Q2,Q3,Q4,Q5,Q6,Q7,Q8]
     exact ⟨rfl,hE,hs1⟩
   have hi:i < 8:=by omega
   have hwi:IntKind.i64.wrap ((i:Int)+1)=((i+1:Nat):Int):=by rw [Ae4 (by omega)]
   obtain ⟨m1,m2⟩:=Bn7 (s:=s) (v:=v) hi
   obtain ⟨F,t1,t2,t3⟩:=stW hs1 (j:=i) (by rw [Bd6 (by omega)];exact hi) (gw (s8l s) i+gw (s8l v) i)
   rw [m2]at t3
   have l1:=ldW hs1 (j:=i) (by rw [Bd6 (by omega)];exact hi)
   rw [m1]at l1
   simp only [RT,Q0,Q1,Q2,Q3,Q4,Q5,Q6,Q7,Q8,h183]
   rw [Bx6,Aa2 (by rfl)]
   simp only [RT,Q0,Q1,Q2,Q3,Q4,Q5,Q6,Q7,Q8,h0,h11,ax8 (r:=bs) hi,ax8 (r:=b11) hi,l1,ldW hv1 (j:=i) (show i < 8 from hi),AM5,t1]
   simp only [RT,Q0,Q1,Q2,Q3,Q4,Q5,Q6,Q7,Q8,h183,hwi]
   refine ⟨8 - (i+1),by omega,i+1,rfl,by omega,rfl,h0,h11,hE.trans t2 fun x q=>.inl q,t2.row _ _ hv1 (fun q=>by cases q;omega),t3⟩
 rintro z e E hz ⟨rfl,hE,hs1⟩
 simp only [RT,Q0,Q1,Q2,Q3,Q4,Q5,Q6,Q7,Q8]
 rw [hcomp]
 have lA:=f1.len
 have lA2:=f2.len
 exact ⟨(((f12.row_ hF (by omega)).then0 u2).row_ hG (by omega)).after0 hE,hs1⟩
end
end Go.Sv.Try
namespace Go.Sv
open Go
structure M where
 kind:Int
 who:Int
 height:Int
 round:Int
 valid:Int
 num:Int
 id:Bts
 data:Bts
 ids:List Bts
 list:List Bts
def M.heads (x:M):List Int:=[x.kind,x.who,x.height,x.round,x.valid,x.num]
def mc (x:M) (dv iv lv:V):List V:=.int .i64 x.kind::.int .i64 x.who::.int .i64 x.height::.int .i64 x.round::.int .i64 x.valid::.int .i64 x.num::(bc x.id++[dv,iv,lv])
theorem Ai6 {x:M} {dv iv lv:V} (h:x.id.length=32):(mc x dv iv lv).length=41:=by simp [mc,Aa5,h]
structure MsgIn (m:Hp) (x:M) (dv iv lv:V):Prop where
 id:x.id.length=32
 data:Slc eU8 m dv x.data
 ids:Slc eId m iv x.ids
 list:Slc (eSl eU8) m lv x.list
theorem MsgIn.mono {m m':Hp} {x:M} {dv iv lv:V} (hm:m.le m') (h:MsgIn m x dv iv lv):MsgIn m' x dv iv lv:=⟨h.id,h.data.mono hm,h.ids.mono hm,h.list.mono hm⟩
theorem AM6 {k:IntKind} {n:Int}:V.one (.int k n)=true:=rfl
theorem AI6 {m:Hp} {x:M} {dv iv lv:V} (h:MsgIn m x dv iv lv):(mc x dv iv lv).all V.one=true:=by
 simp only [mc,List.all_cons,List.all_append,Ae6,h.data.one,h.ids.one,h.list.one,AM6,List.all_nil,Bool.and_self]
def eMsg:Enc M:=⟨41,true,fun m cs x=>∃ dv iv lv,cs=mc x dv iv lv/\MsgIn m x dv iv lv,fun ⟨_,_,_,h,q⟩=>by rw [h,Ai6 q.id],fun h=>by simp at h,fun ⟨_,_,_,h,q⟩=>by rw [h];exact AI6 q,fun hm ⟨a,b,c,h,q⟩=>⟨a,b,c,h,q.mono hm⟩⟩
def lens (l:List Bts):Nat:=sumOf List.length l
def digits (n:Nat):Bts:=if h:n=0 then [] else digits (n / 256)++[UInt8.ofNat n]
termination_by n
def runB (b:Bts):Bts:=UInt8.ofNat (b.length / 65536)::UInt8.ofNat (b.length / 256)::UInt8.ofNat b.length::b
def zero32:Bts:=List.replicate 32 0
def P9 (x:M):List Bts:=[digits x.who.toNat,digits x.height.toNat,digits x.round.toNat,digits x.valid.toNat,digits x.num.toNat,if x.id=zero32 then [] else x.id,x.data,x.ids.flatten,x.list.flatMap runB]
def opt1 (t:Nat) (b:Bts):List (Nat×Bts):=if b=[] then [] else [(t,b)]
def optAll:Nat->List Bts->List (Nat×Bts)
 | _,[]=>[]
 | t,b::r=>opt1 t b++optAll (t+1) r
def fieldList (x:M):List (Nat×Bts):=optAll 1 (P9 x)
theorem AR6 (b:Bts) (l:List Bts):lens (b::l)=b.length+lens l:=rfl
end Go.Sv
namespace Go.Sv.Try
open Go Go.Proofs
theorem faM (b:Nat):evFieldAddr Try.prog 28 (.ptr b 0) 0=some (.ptr b 0)/\evFieldAddr Try.prog 28 (.ptr b 0) 1=some (.ptr b 1)/\evFieldAddr Try.prog 28 (.ptr b 0) 2=some (.ptr b 2)/\evFieldAddr Try.prog 28 (.ptr b 0) 3=some (.ptr b 3)/\evFieldAddr Try.prog 28 (.ptr b 0) 4=some (.ptr b 4)
 /\ evFieldAddr Try.prog 28 (.ptr b 0) 5=some (.ptr b 5)/\evFieldAddr Try.prog 28 (.ptr b 0) 6=some (.ptr b 6)/\evFieldAddr Try.prog 28 (.ptr b 0) 7=some (.ptr b 38)/\evFieldAddr Try.prog 28 (.ptr b 0) 8=some (.ptr b 39)/\evFieldAddr Try.prog 28 (.ptr b 0) 9=some (.ptr b 40) :=
 ⟨by kernel_rfl,by kernel_rfl,by kernel_rfl,by kernel_rfl,by kernel_rfl,by kernel_rfl,by kernel_rfl,by kernel_rfl,by kernel_rfl,by kernel_rfl⟩
theorem Bn9 {x:M} {dv iv lv:V} (h:x.id.length=32):(mc x dv iv lv)[38]?=some dv/\(mc x dv iv lv)[39]?=some iv/\(mc x dv iv lv)[40]?=some lv:=by
 have e:(bc x.id).length=32:=by rw [Aa5,h]
 have key:∀ j,(mc x dv iv lv)[38+j]?=[dv,iv,lv][j]?:=fun j=>by
  have:38+j=(32+j)+6:=by omega
  rw [this]
  show (bc x.id++[dv,iv,lv])[32+j]?=_
  rw [List.getElem?_append_right (by omega),e];congr 1;omega
 exact ⟨key 0,key 1,key 2⟩
theorem ldM {x:M} {dv iv lv:V} {A:AS} {b:Nat} {k:BK} (hb:A.blk[b]?=some ⟨mc x dv iv lv,k⟩) (h:x.id.length=32) :
 evLoad Try.prog 3 (.ptr b 0) A=some (.int .i64 x.kind)/\evLoad Try.prog 3 (.ptr b 1) A=some (.int .i64 x.who)/\evLoad Try.prog 3 (.ptr b 2) A=some (.int .i64 x.height)/\evLoad Try.prog 3 (.ptr b 3) A=some (.int .i64 x.round)
 /\ evLoad Try.prog 3 (.ptr b 4) A=some (.int .i64 x.valid)/\evLoad Try.prog 3 (.ptr b 5) A=some (.int .i64 x.num)/\evLoad Try.prog 23 (.ptr b 6) A=some (.agg (bc x.id))/\evLoad Try.prog 24 (.ptr b 38) A=some dv
 /\ evLoad Try.prog 25 (.ptr b 39) A=some iv/\evLoad Try.prog 26 (.ptr b 40) A=some lv/\evLoad Try.prog 28 (.ptr b 0) A=some (.agg (mc x dv iv lv)):=by
 have hl:=Ai6 (dv:=dv) (iv:=iv) (lv:=lv) h
 obtain ⟨e1,e2,e3⟩:=Bn9 (dv:=dv) (iv:=iv) (lv:=lv) h
 refine ⟨?_,?_,?_,?_,?_,?_,?_,?_,?_,?_,?_⟩
 . rw [Ab3 ag3 hb];rfl
 . rw [Ab3 ag3 hb];rfl
 . rw [Ab3 ag3 hb];rfl
 . rw [Ab3 ag3 hb];rfl
 . rw [Ab3 ag3 hb];rfl
 . rw [Ab3 ag3 hb];rfl
 . rw [As7 AX5 AH3]
   unfold AS.range
   rw [hb]
   simp only [hl]
   rw [if_pos (by decide)]
   have:(List.drop 6 (mc x dv iv lv)).take 32=bc x.id:=by
    show (bc x.id++[dv,iv,lv]).take 32=_
    rw [List.take_left' (by rw [Aa5,h])]
   rw [this];rfl
 . rw [Ab3 BO4 hb,e1]
 . rw [Ab3 B19 hb,e2]
 . rw [Ab3 Cd3 hb,e3]
 . rw [As7 BO5 Bm9]
   unfold AS.range
   rw [hb]
   simp only [hl]
   rw [if_pos (by decide)]
   rw [List.drop_zero,List.take_of_length_le (by rw [hl];decide)];rfl
end Go.Sv.Try
namespace Go.Sv.Try
open Go Go.Proofs
end Go.Sv.Try
namespace Go.Sv.Try
open Go Go.Proofs
theorem eqI {l r:Bts} (hl:l.length=32) (hr:r.length=32):evEq Try.prog 23 (.agg (bc l)) (.agg (bc r))=some (decide (l=r)) :=
 A62 (n:=32) (by kernel_rfl) AX5 (by kernel_rfl) hl hr
def RJ (S:Loc->Prop) (A:AS) (lo bx:Nat) (J D:Nat->AS->Prop) (x:M) (j:Nat) (z:Ex) (e:Env) (B:AS):Prop :=
 Fr S A B/\((z=.normal/\e.get 0=.yield lo/\e.get 1=.ptr bx 0/\J (optAll 1 ((P9 x).take j)).length B)∨(z=.ret/\∃ i,i < (fieldList x).length/\D i B))
theorem RJ.ok {S:Loc->Prop} {A:AS} {lo bx:Nat} {J D:Nat->AS->Prop} {x:M} {j:Nat} {e:Env} {B:AS} (h1:Fr S A B) (h2:e.get 0=.yield lo) (h3:e.get 1=.ptr bx 0) (h4:J (optAll 1 ((P9 x).take j)).length B):RJ S A lo bx J D x j .normal e B:=⟨h1,.inl ⟨rfl,h2,h3,h4⟩⟩
theorem RJ.stop {S:Loc->Prop} {A:AS} {lo bx:Nat} {J D:Nat->AS->Prop} {x:M} {j:Nat} {e:Env} {B:AS} (h1:Fr S A B) (h2:∃ i,i < (fieldList x).length/\D i B):RJ S A lo bx J D x j .ret e B:=⟨h1,.inr ⟨rfl,h2⟩⟩
end Go.Sv.Try
namespace Go.Sv.Try
open Go Go.Proofs
structure Sized (x:M):Prop where
 ids:x.ids.length<=9223372036854775807
 data:x.data.length<=9223372036854775807
 list:x.list.length<=9223372036854775807
 each:∀ b∈x.list,b.length<=9223372036854775807
end Go.Sv.Try
namespace Go.Sv.Try
open Go Go.Proofs
end Go.Sv.Try
namespace Go.Sv.Try
open Go Go.Proofs
end Go.Sv.Try
namespace Go.Sv.Try
open Go Go.Proofs
theorem Reads.bytes (n:Nat) (hn:0 < n):Reads (eB n hn) (.arr n (.int .u8) 1) (fun _=>True) (fun _=>1):=by
 intro A d cs h
 cases h with
 | @arr n sz e l vs hl hv hh =>
  obtain ⟨r,h1,h2⟩:=Ap7 (R:=fun i (d:Dat) (x:UInt8)=>cs[i]?=some (.int .u8 x.toNat)) l 0 fun i d q=>by
   obtain ⟨x,q1,_⟩:=Reads.u8 A d _ (hh i d q)
   refine ⟨x,?_⟩
   have q1:(cs.drop (i * 1)).take 1=[.int .u8 x.toNat]:=q1
   rw [Nat.mul_one,List.take_one,List.head?_drop]at q1
   rw [Nat.zero_add]
   cases hc:cs[i]? with
   | none=>rw [hc]at q1;simp at q1
   | some c=>rw [hc]at q1;simpa using q1
  refine ⟨r,⟨AP7 (by rw [Aa5];omega) fun i x hx=>?_,by omega⟩,trivial,by simp [Dat.bulk]⟩
  rw [A61]at hx
  cases hr:r[i]? with
  | none=>rw [hr]at hx;simp at hx
  | some y =>
   rw [hr]at hx;simp at hx;subst hx
   have hi:=(List.getElem?_eq_some_iff.1 hr).1
   have:=h2 i l[i] y (List.getElem?_eq_getElem (by omega)) hr
   rwa [Nat.zero_add]at this
def shM:Sh:=.struct [(.int .i64,0,1),(.int .i64,1,1),(.int .i64,2,1),(.int .i64,3,1),(.int .i64,4,1),(.int .i64,5,1),(.arr 32 (.int .u8) 1,6,32),(.sl (.int .u8) 1,38,1),(.sl (.arr 32 (.int .u8) 1) 32,39,1),(.sl (.sl (.int .u8) 1) 1,40,1)] 41
def bulkM (x:M):Nat:=x.data.length+x.ids.length+x.list.length+lens x.list
theorem AD9:∀ l:List Bts,lens l<=sumOf (fun b=>sumOf (fun _=>1) b+1) l
 | []=>by simp [lens,sumOf]
 | x::l=>by
  have:=AD9 l
  have h2:=Ad7 (μ:=fun _:UInt8=>1) (fun _=>Nat.le_refl _) x
  simp only [AR6,sumOf];omega
theorem Reads.msg:Reads eMsg shM (fun x=>Sized x/\∀ n∈x.heads,IntIn .i64 n) bulkM:=by
 intro A d cs hd
 unfold shM at hd
 cases hd with
 | @struct fs total l vs hl hv hh =>
  match l,hl with
  | [d0,d1,d2,d3,d4,d5,d6,d7,d8,d9],_ =>
   obtain ⟨n0,p0,q0,_⟩:=Reads.int .i64 A _ _ (hh 0 _ _ rfl rfl)
   obtain ⟨n1,p1,q1,_⟩:=Reads.int .i64 A _ _ (hh 1 _ _ rfl rfl)
   obtain ⟨n2,p2,q2,_⟩:=Reads.int .i64 A _ _ (hh 2 _ _ rfl rfl)
   obtain ⟨n3,p3,q3,_⟩:=Reads.int .i64 A _ _ (hh 3 _ _ rfl rfl)
   obtain ⟨n4,p4,q4,_⟩:=Reads.int .i64 A _ _ (hh 4 _ _ rfl rfl)
   obtain ⟨n5,p5,q5,_⟩:=Reads.int .i64 A _ _ (hh 5 _ _ rfl rfl)
   obtain ⟨id,⟨p6,p6'⟩,_,_⟩:=Reads.bytes 32 (by decide) A _ _ (hh 6 _ _ rfl rfl)
   obtain ⟨data,⟨dv,p7,p7'⟩,⟨q7,_⟩,b7⟩:=Reads.u8.sl A _ _ (hh 7 _ _ rfl rfl)
   obtain ⟨ids,⟨iv,p8,p8'⟩,⟨q8,_⟩,b8⟩:=(Reads.bytes 32 (by decide)).sl A _ _ (hh 8 _ _ rfl rfl)
   obtain ⟨list,⟨lv,p9,p9'⟩,⟨q9,q9'⟩,b9⟩:=Reads.u8.sl.sl A _ _ (hh 9 _ _ rfl rfl)
   have e:cs=mc ⟨n0,n1,n2,n3,n4,n5,id,data,ids,list⟩ dv iv lv:=by
    have step:∀ a k,cs.drop a=(cs.drop a).take k++cs.drop (a+k):=fun a k=>by
     conv=>lhs;rw [<- List.take_append_drop k (cs.drop a)]
     rw [List.drop_drop]
    have p0:(cs.drop 0).take 1=[.int .i64 n0]:=p0
    have p1:(cs.drop 1).take 1=[.int .i64 n1]:=p1
    have p2:(cs.drop 2).take 1=[.int .i64 n2]:=p2
    have p3:(cs.drop 3).take 1=[.int .i64 n3]:=p3
    have p4:(cs.drop 4).take 1=[.int .i64 n4]:=p4
    have p5:(cs.drop 5).take 1=[.int .i64 n5]:=p5
    have p6:(cs.drop 6).take 32=bc id:=p6
    have p7:(cs.drop 38).take 1=[dv]:=p7
    have p8:(cs.drop 39).take 1=[iv]:=p8
    have p9:(cs.drop 40).take 1=[lv]:=p9
    have e0:=step 0 1;have e1:=step 1 1;have e2:=step 2 1;have e3:=step 3 1;have e4:=step 4 1;have e5:=step 5 1
    have e6:=step 6 32;have e7:=step 38 1;have e8:=step 39 1;have e9:=step 40 1
    have e10:cs.drop 41=[]:=List.drop_eq_nil_of_le (by omega)
    rw [p0]at e0;rw [p1]at e1;rw [p2]at e2;rw [p3]at e3;rw [p4]at e4;rw [p5]at e5;rw [p6]at e6;rw [p7]at e7;rw [p8]at e8;rw [p9]at e9
    rw [e10]at e9;rw [e9]at e8;rw [e8]at e7;rw [e7]at e6;rw [e6]at e5;rw [e5]at e4;rw [e4]at e3;rw [e3]at e2;rw [e2]at e1;rw [e1]at e0
    rw [List.drop_zero]at e0
    rw [e0];rfl
   refine ⟨⟨n0,n1,n2,n3,n4,n5,id,data,ids,list⟩,⟨dv,iv,lv,e,⟨p6',p7',p8',p9'⟩⟩,⟨⟨q8,q7,q9,fun b hb=>(q9' b hb).1⟩,?_⟩,?_⟩
   . simp only [M.heads, List.mem_cons, List.mem_nil_iff, or_false, forall_eq_or_imp, forall_eq]
     exact ⟨q0,q1,q2,q3,q4,q5⟩
   . have h7 := Ad7 (μ := fun _ : UInt8 => 1) (fun _ => Nat.le_refl _) data
     have h8:=Ad7 (μ:=fun _:Bts=>1) (fun _=>Nat.le_refl _) ids
     have h9:=Ad7 (μ:=fun b:Bts=>sumOf (fun _=>1) b+1) (fun _=>by omega) list
     have h10:=AD9 list
     have h11:list.length+lens list<=sumOf (fun b:Bts=>sumOf (fun _=>1) b+1) list:=by
      clear h9 h10 b9 q9 q9' p9' e
      induction list with
      | nil=>simp [lens,sumOf]
      | cons b l ih =>
       have h2:=Ad7 (μ:=fun _:UInt8=>1) (fun _=>Nat.le_refl _) b
       simp only [AR6,sumOf,List.length_cons];omega
     have b7:sumOf (fun _=>1) data+1<=d7.bulk:=b7
     have b8:sumOf (fun _=>1) ids+1<=d8.bulk:=b8
     have b9:sumOf (fun b:Bts=>sumOf (fun _=>1) b+1) list+1<=d9.bulk:=b9
     simp only [bulkM,Dat.bulk,bulks]
     omega
end Go.Sv.Try
namespace Go.Sv
open Go
def takeB:Bts->Option (Bts×Bts)
 | a::b::c::r=>if a.toNat * 65536+b.toNat * 256+c.toNat > r.length then none else some (r.take (a.toNat * 65536+b.toNat * 256+c.toNat),r.drop (a.toNat * 65536+b.toNat * 256+c.toNat))
 | _=>none
theorem Av2 {s x r:Bts} (h:takeB s=some (x,r)):s.length=x.length+r.length+3/\x.length<=16777215:=by
 match s,h with
 | a::b::c::q,h =>
  simp only [takeB]at h
  split at h
  . simp at h
  . simp only [Option.some.injEq, Prod.mk.injEq] at h
    obtain ⟨rfl,rfl⟩:=h
    have h1:=a.toNat_lt;have h2:=b.toNat_lt;have h3:=c.toNat_lt
    simp only [List.length_cons,List.length_take,List.length_drop]
    omega
def runsOf (s:Bts):Option (List Bts):=if s=[] then some [] else match h:takeB s with
 | none=>none
 | some (x,r)=>(runsOf r).map (x::·)
termination_by s.length
decreasing_by have:=Av2 h;omega
def chunk32 (s:Bts):List Bts:=if s=[] then [] else s.take 32::chunk32 (s.drop 32)
termination_by s.length
decreasing_by
 rename_i h
 have:s.length≠0:=fun q=>h (List.eq_nil_of_length_eq_zero q)
 simp only [List.length_drop];omega
def valOf (s:Bts):Nat:=s.foldl (fun n x=>n * 256+x.toNat) 0
def numOf (s:Bts):Option Nat:=if s=[]∨s[0]?=some 0∨s.length > 6∨valOf s > 1099511627776 then none else some (valOf s)
def setNum (m:M) (t:Nat) (n:Int):M:=match t with
 | 1=>{ m with who:=n }
 | 2=>{ m with height:=n }
 | 3=>{ m with round:=n }
 | 4=>{ m with valid:=n }
 | _=>{ m with num:=n }
def putM (m:M) (t:Nat) (x:Bts):Except Int M :=
 if x=[] then .error 23
 else if t < 6 then (match numOf x with | none=>.error 23 | some n=>.ok (setNum m t n))
 else if t=6 then (if x.length≠32∨x=zero32 then .error 23 else .ok { m with id:=x })
 else if t=7 then .ok { m with data:=x }
 else if t=8 then (if x.length % 32≠0 then .error 23 else .ok { m with ids:=m.ids++chunk32 x })
 else (match runsOf x with | none=>.error 20 | some l=>.ok { m with list:=m.list++l })
def items (last:Nat) (s:Bts):List (Nat×Bts)×Int:=match s with
 | []=>([],0)
 | t::r=>if t.toNat<=last∨t.toNat > 9 then ([],21) else match h:takeB r with
  | none=>([],20)
  | some (x,r')=>((t.toNat,x)::(items t.toNat r').1,(items t.toNat r').2)
termination_by s.length
decreasing_by
 all_goals (have:=Av2 h;simp only [List.length_cons];omega)
theorem Av3 (last:Nat):items last []=([],0):=by rw [items]
theorem AR7 {last:Nat} {t:UInt8} {r:Bts} (h:t.toNat<=last∨t.toNat > 9):items last (t::r)=([],21):=by rw [items,if_pos h]
theorem AE0 {last:Nat} {t:UInt8} {r:Bts} (h:¬ (t.toNat<=last∨t.toNat > 9)) (hr:takeB r=none):items last (t::r)=([],20):=by
 rw [items,if_neg h];split
 . rfl
 . rename_i q;rw [hr]at q;simp at q
theorem AI7 {last:Nat} {t:UInt8} {r x r':Bts} (h:¬ (t.toNat<=last∨t.toNat > 9)) (hr:takeB r=some (x,r')):items last (t::r)=((t.toNat,x)::(items t.toNat r').1,(items t.toNat r').2):=by
 rw [items,if_neg h];split
 . rename_i q;rw [hr]at q;simp at q
 . rename_i q;rw [hr]at q;cases q;rfl
def putAll (m:M):List (Nat×Bts)->Except Int M
 | []=>.ok m
 | (t,x)::l=>match putM m t x with
  | .error e=>.error e
  | .ok m'=>putAll m' l
theorem AI8 {m m':M}:∀ {l r:List (Nat×Bts)},putAll m l=.ok m'->putAll m (l++r)=putAll m' r
 | [],r,h=>by simp [putAll]at h;subst h;rfl
 | (t,x)::l,r,h=>by
  simp only [putAll,List.cons_append]at h ⊢
  split at h
  . simp at h
  . rename_i q;exact AI8 h
def restM (m:M) (last:Nat) (s:Bts):Except Int M:=match putAll m (items last s).1 with
 | .error e=>.error e
 | .ok m'=>if (items last s).2≠0 then .error (items last s).2 else .ok m'
def msg0 (k:Int):M:=⟨k,0,0,0,0,0,zero32,[],[],[]⟩
theorem A37:∀ (n:Nat) (s:Bts) (last:Nat),s.length<=n->∀ f∈(items last s).1,last < f.1/\f.1<=9:=by
 intro n
 induction n with
 | zero =>
  intro s last hs f hf
  have:s=[]:=List.eq_nil_of_length_eq_zero (by omega)
  subst this;rw [Av3]at hf;simp at hf
 | succ n ih =>
  intro s last hs f hf
  match s with
  | []=>rw [Av3]at hf;simp at hf
  | t::r =>
   by_cases h:t.toNat<=last∨t.toNat > 9
   . rw [AR7 h]at hf;simp at hf
   . cases hr : takeB r with
     | none=>rw [AE0 h hr]at hf;simp at hf
     | some p =>
      obtain ⟨x,r'⟩:=p
      rw [AI7 h hr]at hf
      rcases List.mem_cons.1 hf with rfl | hf
      . exact ⟨by simp only [];omega,by simp only [];omega⟩
      . have hl := Av2 hr
        have:=ih r' t.toNat (by simp only [List.length_cons]at hs;omega) f hf
        omega
theorem A77:∀ (n:Nat) (s:Bts) (last i:Nat) (f g:Nat×Bts),s.length<=n->(items last s).1[i]?=some f->(items last s).1[i+1]?=some g->f.1 < g.1:=by
 intro n
 induction n with
 | zero =>
  intro s last i f g hs hf
  have:s=[]:=List.eq_nil_of_length_eq_zero (by omega)
  subst this;rw [Av3]at hf;simp at hf
 | succ n ih =>
  intro s last i f g hs hf hg
  match s with
  | []=>rw [Av3]at hf;simp at hf
  | t::r =>
   by_cases h:t.toNat<=last∨t.toNat > 9
   . rw [AR7 h]at hf;simp at hf
   . cases hr : takeB r with
     | none=>rw [AE0 h hr]at hf;simp at hf
     | some p =>
      obtain ⟨x,r'⟩:=p
      rw [AI7 h hr]at hf hg
      have hl:=Av2 hr
      simp only [List.length_cons]at hs
      cases i with
      | zero =>
       simp at hf hg;subst hf
       have:=A37 n r' t.toNat (by omega) g (List.mem_of_getElem? (by simpa using hg))
       exact this.1
      | succ i=>exact ih r' t.toNat i f g (by omega) (by simpa using hf) (by simpa using hg)
theorem AY5 {m m' m'':M} {l:List (Nat×Bts)} {i:Nat} {f:Nat×Bts} (h:putAll m (l.take i)=.ok m') (hf:l[i]?=some f) (hp:putM m' f.1 f.2=.ok m''):putAll m (l.take (i+1))=.ok m'':=by
 rw [List.take_add_one,hf,AI8 h]
 obtain ⟨t,x⟩:=f
 simp only [Option.toList_some,putAll,hp]
end Go.Sv
namespace Go.Sv.Try
open Go Go.Proofs
theorem BA8 {m:Hp} {A:AS} {v:V} {l:Bts} (h:Slc eU8 m v l) (hm:m.on A) {i:Nat} {x:UInt8} (hx:l[i]?=some x):∃ b o,evIndexAddr Try.prog 24 v (.int .i64 (i:Int))=some (.ptr b o)/\evLoad Try.prog 5 (.ptr b o) A=some (.int .u8 x.toNat):=by
 obtain ⟨b,o,w,h1,h2,h3⟩:=h.at (P:=Try.prog) (k:=.i64) hm Try.underlying24 sz5 ag5 hx
 rw [B77]at h3
 subst h3
 exact ⟨b,o,h1,h2⟩
end Go.Sv.Try
namespace Go.Sv
open Go
theorem Av4 {l:Bts} {k:Nat} (h:k < l.length / 64):(chunks l)[k]?=some ((l.drop (64 * k)).take 64):=by
 unfold chunks;rw [List.getElem?_map,List.getElem?_range h];rfl
section
variable (L:Bts)
theorem A78 {k:Nat} (h:k < L.length / 64):(chunks (padB L))[k]?=some ((L.drop (64 * k)).take 64):=by
 rw [Av4 (by rw [Ar9];omega)]
 unfold padB
 rw [List.append_assoc,List.append_assoc,List.drop_append_of_le_length (by omega),List.take_append_of_le_length (by rw [List.length_drop];omega)]
theorem A38:(padB L).drop (64 * (L.length / 64))=L.drop (64 * (L.length / 64))++([128]++List.replicate (padZ L.length) 0++be8 (L.length * 8)):=by
 unfold padB
 rw [List.append_assoc,List.append_assoc,List.drop_append_of_le_length (by omega),List.append_assoc]
theorem Bd7 (h:L.length % 64 < 56):(chunks (padB L))[L.length / 64]?=some (L.drop (64 * (L.length / 64))++[128]++List.replicate (55 - L.length % 64) 0++be8 (L.length * 8))/\(chunks (padB L)).length=L.length / 64+1:=by
 have hz:padZ L.length=55 - L.length % 64:=by unfold padZ;omega
 constructor
 . rw [Av4 (by rw [Ar9, hz]; omega), A38, List.take_of_length_le (by simp [Au0, hz]; omega), hz]
   simp only [List.append_assoc]
 . rw [Ax9,Ar9,hz];omega
theorem Bd8 (h:56<=L.length % 64):(chunks (padB L))[L.length / 64]?=some (L.drop (64 * (L.length / 64))++[128]++List.replicate (63 - L.length % 64) 0)/\(chunks (padB L))[L.length / 64+1]?=some (List.replicate 56 0++be8 (L.length * 8))/\(chunks (padB L)).length=L.length / 64+2:=by
 have hz:padZ L.length=(63 - L.length % 64)+56:=by unfold padZ;omega
 have hl:(L.drop (64 * (L.length / 64))++[128]++List.replicate (63 - L.length % 64) (0:UInt8)).length=64:=by simp;omega
 have e:(padB L).drop (64 * (L.length / 64))=(L.drop (64 * (L.length / 64))++[128]++List.replicate (63 - L.length % 64) 0)++(List.replicate 56 0++be8 (L.length * 8)):=by
  rw [A38,hz,<- List.replicate_append_replicate];simp only [List.append_assoc]
 refine ⟨?_,?_,?_⟩
 . rw [Av4 (by rw [Ar9,hz];omega),e,List.take_left' hl]
 . rw [Av4 (by rw [Ar9,hz];omega),show 64 * (L.length / 64+1)=64 * (L.length / 64)+64 by omega,<- List.drop_drop,e,List.drop_left' hl,List.take_of_length_le (by simp [Au0])]
 . rw [Ax9,Ar9,hz];omega
end
def Blk64 (p w:Bts):Prop:=w.length=64/\w.take (p.length % 64)=p.drop (64 * (p.length / 64))
theorem take_set {α:Type} (w:List α) {n:Nat} {x:α} (h:n < w.length):(w.set n x).take (n+1)=w.take n++[x]:=by
 rw [List.take_set,List.take_add_one,List.getElem?_eq_getElem h]
 rw [List.set_append,if_neg (by rw [List.length_take];omega)]
 rw [show n - (w.take n).length=0 by rw [List.length_take];omega];rfl
theorem Blk64.step {p w:Bts} (h:Blk64 p w) (x:UInt8):((p.length+1) % 64≠0->Blk64 (p++[x]) (w.set (p.length % 64) x))/\((p.length+1) % 64=0->w.set (p.length % 64) x=((p++[x]).drop (64 * (p.length / 64))).take 64/\Blk64 (p++[x]) (w.set (p.length % 64) x)/\(p++[x]).length / 64=p.length / 64+1):=by
 have e1:(w.set (p.length % 64) x).take (p.length % 64+1)=(p++[x]).drop (64 * (p.length / 64)):=by
  rw [take_set _ (by rw [h.1];omega),h.2,List.drop_append_of_le_length (by omega)]
 refine ⟨fun q=>⟨by rw [List.length_set];exact h.1,?_⟩,fun q=>⟨?_,⟨by rw [List.length_set];exact h.1,?_⟩,?_⟩⟩
 . rw [List.length_append, List.length_singleton, show (p.length + 1) % 64 = p.length % 64 + 1 by omega, show (p.length + 1) / 64 = p.length / 64 by omega]
   exact e1
 . have hl : (w.set (p.length % 64) x).length = 64 := by rw [List.length_set]; exact h.1
   have e2:(w.set (p.length % 64) x).take (p.length % 64+1)=w.set (p.length % 64) x:=List.take_of_length_le (by omega)
   rw [<- e1,e2,List.take_of_length_le (by omega)]
 . rw [List.length_append,List.length_singleton,q,List.take_zero,List.drop_of_length_le (by rw [List.length_append,List.length_singleton];omega)]
 . rw [List.length_append,List.length_singleton];omega
theorem Bd9 {w:Bts} {i:Nat} {x:UInt8} (h:i < w.length):putAt (bc w) i [.int .u8 (x.toNat:Int)]=bc (w.set i x):=by
 rw [AR4 (by rw [Aa5];exact h)]
 unfold bc;rw [List.map_set]
def cntB (q:Bts) (n i:Nat):Bts:=q++List.replicate (8 - i) 0++(be8 n).drop (8 - i)
theorem Be0 {q:Bts} {n i:Nat} (hq:q.length=56) (hi:i < 8):(cntB q n i).set (63 - i) (UInt8.ofNat (n / 256 ^ i))=cntB q n (i+1):=by
 unfold cntB
 have hr:List.replicate (8 - i) (0:UInt8)=List.replicate (7 - i) 0++[0]:=by
  rw [show 8 - i=(7 - i)+1 by omega,List.replicate_succ']
 have hd:(be8 n).drop (8 - (i+1))=UInt8.ofNat (n / 256 ^ i)::(be8 n).drop (8 - i):=by
  rw [show 8 - i=(8 - (i+1))+1 by omega]
  rw [List.drop_eq_getElem_cons (by rw [Au0];omega)]
  congr 1
  unfold be8
  rw [List.getElem_map,List.getElem_range]
  rw [show 7 - (8 - (i+1))=i by omega]
 rw [hd,hr,List.append_assoc,List.append_assoc,List.set_append,if_neg (by omega),hq,show 63 - i - 56=7 - i by omega,List.set_append,if_neg (by simp),List.length_replicate,Nat.sub_self,show 8 - (i+1)=7 - i by omega]
 simp
theorem AR8 {q:Bts} {n:Nat}:cntB q n 0=q++List.replicate 8 0:=by
 unfold cntB;rw [List.drop_of_length_le (by rw [Au0];omega)];simp
theorem Bo0 {q:Bts} {n:Nat}:cntB q n 8=q++be8 n:=by unfold cntB;simp
theorem Bo1 {q:Bts} {n i:Nat} (hq:q.length=56) (hi:i<=8):(cntB q n i).length=64:=by
 unfold cntB;simp only [List.length_append,List.length_replicate,List.length_drop,Au0,hq];omega
theorem Bo2 {P:Program} {A:AS} {t e:TypeId} {b b' o' n n':Nat} {cells cs:List V} (hu:P.underlying t=some (.slice e)) (hs:szT P e=some 1) (hb:A.blk[b]?=some ⟨cells,.var⟩) (hr:A.range b' o' n'=some cs) (hl:cs.length=n') (h1:cs.all V.one=true) (hn:n'<=n) (hc:n'<=cells.length) :
 ∃ A',evCopy P t (.sl b 0 n 1) (.sl b' o' n' 1) A=some (.int .i64 (n':Int),A')/\Fr (·=.row b) A A'/\A'.blk[b]?=some ⟨cs++cells.drop n',.var⟩:=by
 have ho:0+cs.length<=cells.length:=by omega
 refine ⟨A.setBlk b (putAt cells 0 cs),?_,Fr.setBlk hb (Ad9 ho),?_⟩
 . unfold evCopy
   simp only [hu,hs]
   rw [if_pos ⟨trivial,trivial⟩,Nat.min_eq_left hn,Nat.mul_one,hr]
   simp only []
   unfold AS.put
   rw [hb]
   simp only []
   rw [if_pos ⟨ho,h1⟩];rfl
 . rw [Aj9, hb]
   simp [putAt,hl]
theorem BQ9 {P:Program} {A:AS} {t e:TypeId} {n b o z j:Nat} {k:Blk} {kd:IntKind} (hu:P.underlying t=some (.array n e)) (hs:szT P e=some (z+1)) (hb:A.blk[b]?=some k) (hl:o+n * (z+1)<=k.cells.length) (hj:j<=n) :
 evSlice P t (.ptr b o) none (some (.int kd (j:Int))) none A=some (.sl b o j (z+1)):=by
 unfold evSlice
 have e2:(j:Int)<=n:=by omega
 simp only [hu,hs,boundV]
 unfold AS.range
 rw [hb];simp [hl,e2]
end Go.Sv
namespace Go.Sv.Try
open Go Go.Proofs
section
variable {A:AS} {r:Nat} {k:BK}
def b64:Bts:=List.replicate 64 0
theorem Ay1:b64.length=64:=by simp [b64]
theorem zcB:(zeroT Try.prog 148).bind V.cells=some (bc b64):=by kernel_rfl
theorem BR0:evBuild Try.prog 148 []=some (.agg (bc b64)):=by kernel_rfl
theorem stB {l:Bts} (hb:A.blk[r]?=some ⟨bc l,.var⟩) {j:Nat} (h:j < l.length) (x:UInt8):∃ A',evStore Try.prog 5 (.ptr r j) (.int .u8 (x.toNat:Int)) A=some A'/\Fr (·=.row r) A A'/\A'.blk[r]?=some ⟨bc (l.set j x),.var⟩:=by
 obtain ⟨A',s1,s2,s3,s4⟩:=Ac0 (P:=Try.prog) (t:=5) (o:=j) (x:=.int .u8 (x.toNat:Int)) (cs:=[.int .u8 (x.toNat:Int)]) hb rfl sz5 (by rw [Aa5];exact h) rfl
 rw [Bd9 h]at s3
 exact ⟨A',s1,s2,s3⟩
theorem Cc2 (l:Bts) (h:l.length=64):∃ A',evStore Try.prog 148 (.ptr A.blk.length 0) (.agg (bc l)) (A.push ⟨bc b64,.var⟩)=some A'/\Fr S0 A A'/\A'.blk[A.blk.length]?=some ⟨bc l,.var⟩:=by
 obtain ⟨A2,s1,s2,s3,s4⟩:=Ai4 (P:=Try.prog) A (z:=bc b64) (t:=148) (x:=.agg (bc l)) (cs:=bc l) rfl (by rw [Aa5,h];exact BO2) (by rw [Aa5,Aa5,h,Ay1]) (Ae6 _)
 exact ⟨A2,s1,s2,s3⟩
theorem Cf5 {l l':Bts} (hb:A.blk[r]?=some ⟨bc l,.var⟩) (h:l.length=64) (h':l'.length=64):∃ A',evStore Try.prog 148 (.ptr r 0) (.agg (bc l')) A=some A'/\Fr (·=.row r) A A'/\A'.blk[r]?=some ⟨bc l',.var⟩:=by
 obtain ⟨A',s1,s2,s3,s4⟩:=Ac0 (P:=Try.prog) (t:=148) (o:=0) (x:=.agg (bc l')) (cs:=bc l') hb rfl (by rw [Aa5,h'];exact BO2) (by rw [Aa5,Aa5];omega) (Ae6 _)
 rw [Ag5 (by rw [Aa5,Aa5];omega)]at s3
 exact ⟨A',s1,s2,s3⟩
theorem B39 {l:Bts} (hb:A.blk[r]?=some ⟨bc l,k⟩) (h:l.length=64):evLoad Try.prog 148 (.ptr r 0) A=some (.agg (bc l)):=At.load hb (At.all _) Cb4 BO2 (by rw [Aa5,h])
theorem B40 (n:Nat) (h:n<=9223372036854775807) (A:AS):cnv Try.prog 3 156 (some (.int .i64 (n:Int))) A=some (.val (.int .u64 (n:Int))):=by
 rw [AA0 (by decide) Try.underlying3 Try.underlying156,As0];congr 3;omega
theorem BR1 (n:Nat) (A:AS):cnv Try.prog 156 5 (some (.int .u64 (n:Int))) A=some (.val (.int .u8 ((UInt8.ofNat n).toNat:Int))):=by
 rw [AA0 (by decide) Try.underlying156 Try.underlying5]
 congr 3
theorem B41 {l:Bts} {i n:Nat} (h:l.length=i) (hi:i < n) (x:UInt8):(l++List.replicate (n - i) 0).set i x=l++[x]++List.replicate (n - (i+1)) 0:=by
 obtain ⟨k,hk⟩:∃ k,n - i=k+1:=⟨n - i - 1,by omega⟩
 rw [hk,show n - (i+1)=k by omega,List.replicate_succ,List.set_append,if_neg (by omega),<- h,Nat.sub_self]
 simp
def ownT (N:Nat):Loc->Prop:=fun z=>∃ b,z=.row b/\N<=b
def argB (_:AS) (args:List V) (x:Bts):Prop:=args=[.agg (bc x)]
set_option maxRecDepth 10000 in
set_option maxHeartbeats 32000000 in
theorem AY6 {m:Hp} {bx:Nat} {v:V} {ls:List Bts} {S:Loc->Prop} (hm:m.on A) (hS:∀ b,S (.row b)->m b=none/\b≠bx/\b < A.blk.length) (hb:A.blk[bx]?=some ⟨[v],.var⟩) (h:Slc (eSl eU8) m v ls) (hL:ls.flatten.length<=1000000000000) (hLn:ls.length<=1000000000000) :
 GoesG Try.prog HH 70 [] [.ptr bx 0] A S (ownT A.blk.length) (fun _=>False) (fun _=>True) (fun _=>True) argB (chunks (padB ls.flatten)):=by
 intro lo J D hJ hD hstep hJ0
 refine Aa4 rfl Try.func70 (by unfold Try.f70;rfl) Try.ntmps70 (by unfold Try.f70;rfl) (by simp) ?_
 obtain ⟨L,hLd⟩:∃ L,L=ls.flatten:=⟨_,rfl⟩
 rw [<- hLd]at hL hstep ⊢
 obtain ⟨ch,hch⟩:∃ c,c=chunks (padB L):=⟨_,rfl⟩
 rw [<- hch]at hstep ⊢
 obtain ⟨N,hN⟩:∃ n,n=A.blk.length:=⟨_,rfl⟩
 have hJ':∀ {i:Nat} {B C:AS} {b:Nat},J i B->Fr (·=.row b) B C->N<=b->J i C:=fun q w z=>hJ _ _ _ q (w.mono fun x y=>⟨_,y,by rw [<- hN];exact z⟩)
 have hJ0':∀ {i:Nat} {B C:AS},J i B->Fr S0 B C->J i C:=fun q w=>hJ _ _ _ q (w.mono fun x y=>y.elim)
 have hfold:∀ {B C:AS} {b:Nat},Fr S A B->Fr (·=.row b) B C->N<=b->Fr S A C:=fun q w z=>q.trans w fun x y=>by subst y;exact .inr (show A.blk.length<=_ by rw [<- hN];exact z)
 have row_keep:∀ {B C:AS} {b:Nat} {cs:List V},Fr S B C->B.blk[b]?=some ⟨cs,.var⟩->N<=b->C.blk[b]?=some ⟨cs,.var⟩:=fun q w z=>q.row _ _ w fun y=>by have:=(hS _ y).2.2;omega
 have hld:∀ {B},Fr S A B->evLoad Try.prog 26 (.ptr bx 0) B=some v:=fun q=>Ab0 Cd3 (q.row _ _ hb fun w=>(hS _ w).2.1 rfl)
 have hmB:∀ {B},Fr S A B->m.on B:=fun q=>hm.fr q fun b w=>(hS b w).1
 obtain ⟨A1,e1,f1,r1,n1⟩:=Aa9 A (bc b64)
 simp only [RT,Q0,Q1,Q2,Q3,Q4,Q5,Q6,Q7,Q8,zcB,<- e1]
 rw [<- hN]at r1 n1 ⊢
 have hf1:Fr S A A1:=f1.mono fun _ q=>q.elim
 have hlen:=fun B=>h.len (P:=Try.prog) Try.underlying26 B
 simp only [RT,Q0,Q1,Q2,Q3,Q4,Q5,Q6,Q7,Q8,hld hf1,hlen]
 refine Aa6 (fun z e B=>∃ (i:Nat) (p w:Bts),z=ls.length - i/\i<=ls.length/\e.get 13=.int .i64 i/\e.get 0=.yield lo/\e.get 3=.ptr N 0/\e.get 4=.int .i64 (p.length:Int)/\e.get 11=v/\e.get 12=.int .i64 ls.length/\p=(ls.take i).flatten/\Fr S A B/\B.blk[N]?=some ⟨bc w,.var⟩/\Blk64 p w/\J (p.length / 64) B/\N < B.blk.length)
  (fun z e B=>Fr S A B/\((Is z (.exit 0)/\∃ w:Bts,e.get 0=.yield lo/\e.get 3=.ptr N 0/\e.get 4=.int .i64 (L.length:Int)/\B.blk[N]?=some ⟨bc w,.var⟩/\Blk64 L w/\J (L.length / 64) B/\N < B.blk.length)∨(Is z .ret/\∃ i,i < ch.length/\D i B)))
  ⟨_,0,[],b64,rfl,by omega,rfl,rfl,rfl,rfl,rfl,rfl,rfl,hf1,r1,⟨Ay1,rfl⟩,hJ0' hJ0 f1,by omega⟩ ?_ ?_
 . rintro z e B ⟨i, p, w, rfl, hi, h13, h0, h3, h4, h11, h12, hp, hf, hw, hbk, hj, hNB⟩
   simp only [RT,Q0,Q1,Q2,Q3,Q4,Q5,Q6,Q7,Q8,h12,h13]
   refine Aa7 (fun q1=>?_) (fun q1=>?_)
   rotate_left
   . have : i = ls.length := by omega
     subst this
     rw [List.take_length]at hp
     simp only [RT,Q0,Q1,Q2,Q3,Q4,Q5,Q6,Q7,Q8]
     rw [hLd,<- hp]
     exact ⟨hf,.inl ⟨rfl,w,h0,h3,h4,hw,hbk,hj,hNB⟩⟩
   obtain ⟨x,hx⟩:=Ag4 (l:=ls) (i:=i) (by omega)
   obtain ⟨b,o,xv,g3,g4,g5⟩:=h.at (P:=Try.prog) (k:=.i64) (hmB hf) Try.underlying26 B18 BO4 hx
   have g5:=BU3.1 g5
   have hxl:=fun B=>g5.len (P:=Try.prog) Try.underlying24 B
   have hwi:IntKind.i64.wrap ((i:Int)+1)=((i+1:Nat):Int):=by
    rw [Ae4 (by omega)]
   have hpx:(ls.take (i+1)).flatten=p++x:=by rw [Ac4 hx,List.flatten_append,hp];simp
   have hpre:∃ rest,L=p++x++rest:=⟨(ls.drop (i+1)).flatten,by rw [hLd,<- hpx,<- List.flatten_append,List.take_append_drop]⟩
   obtain ⟨rest,hrest⟩:=hpre
   have hxL:x.length<=L.length:=by rw [hrest];simp only [List.length_append];omega
   simp only [RT,Q0,Q1,Q2,Q3,Q4,Q5,Q6,Q7,Q8,h11,h13,g3,g4,hxl]
   refine Aa6 (fun z e B=>∃ (j:Nat) (w:Bts),z=x.length - j/\j<=x.length/\e.get 19=.int .i64 j/\e.get 13=.int .i64 i/\e.get 0=.yield lo/\e.get 3=.ptr N 0/\e.get 4=.int .i64 ((p++x.take j).length:Int)/\e.get 11=v/\e.get 12=.int .i64 ls.length/\e.get 17=xv/\e.get 18=.int .i64 x.length/\Fr S A B/\B.blk[N]?=some ⟨bc w,.var⟩/\Blk64 (p++x.take j) w/\J ((p++x.take j).length / 64) B/\N < B.blk.length)
    (fun z e B=>Fr S A B/\((Is z (.exit 2)/\∃ w:Bts,e.get 13=.int .i64 i/\e.get 0=.yield lo/\e.get 3=.ptr N 0/\e.get 4=.int .i64 ((p++x).length:Int)/\e.get 11=v/\e.get 12=.int .i64 ls.length/\B.blk[N]?=some ⟨bc w,.var⟩/\Blk64 (p++x) w/\J ((p++x).length / 64) B/\N < B.blk.length)∨(Is z .ret/\∃ i,i < ch.length/\D i B)))
    ⟨_,0,w,rfl,by omega,rfl,h13,h0,h3,by rw [List.take_zero,List.append_nil];exact h4,h11,h12,rfl,rfl,hf,hw,by rw [List.take_zero,List.append_nil];exact hbk,by rw [List.take_zero,List.append_nil];exact hj,hNB⟩ ?_ ?_
   . clear hw hbk hj hNB h13 h0 h3 h4 h11 h12 hf g4 g3
     rintro z e B ⟨j,w,rfl,hjx,h19,h13,h0,h3,h4,h11,h12,h17,h18,hf,hw,hbk,hj,hNB⟩
     simp only [RT,Q0,Q1,Q2,Q3,Q4,Q5,Q6,Q7,Q8,h18,h19]
     refine Aa7 (fun q2=>?_) (fun q2=>?_)
     rotate_left
     . have : j = x.length := by omega
       subst this
       rw [List.take_length]at hbk hj h4
       simp only [RT,Q0,Q1,Q2,Q3,Q4,Q5,Q6,Q7,Q8]
       exact ⟨hf,.inl ⟨rfl,w,h13,h0,h3,h4,h11,h12,hw,hbk,hj,hNB⟩⟩
     obtain ⟨y,hy⟩:=Ag4 (l:=x) (i:=j) (by omega)
     obtain ⟨b2,o2,g3,g4⟩:=BA8 g5 (hmB hf) hy
     have hxs:x.take (j+1)=x.take j++[y]:=Ac4 hy
     have hpj:p++x.take (j+1)=p++x.take j++[y]:=by rw [hxs,List.append_assoc]
     have hpre2:∃ r2,L=p++x.take j++[y]++r2:=⟨x.drop (j+1)++rest,by rw [hrest,<- hpj,List.append_assoc,List.append_assoc,<- List.append_assoc (x.take (j+1)),List.take_append_drop]⟩
     obtain ⟨r2,hr2⟩:=hpre2
     obtain ⟨q,hq⟩:∃ q,q=p++x.take j:=⟨_,rfl⟩
     rw [<- hq]at h4 hbk hj hr2
     have hLl:L.length=q.length+1+r2.length:=by rw [hr2];simp only [List.length_append,List.length_singleton]
     have wq:IntKind.i64.wrap ((q.length:Int)+1)=((q.length+1:Nat):Int):=by rw [Ae4 (by omega)]
     have wj:IntKind.i64.wrap ((j:Int)+1)=((j+1:Nat):Int):=by rw [Ae4 (by omega)]
     have rm:∀ n:Nat,evBin Try.prog .rem 3 (.int .i64 (n:Int)) (.int .i64 64)=some (.int .i64 ((n % 64:Nat):Int)):=fun n=>by rw [AB4,if_neg (by omega)];rfl
     obtain ⟨C,s1,s2,s3⟩:=stB hw (j:=q.length % 64) (by rw [hbk.1];omega) y
     have hC:=hfold hf s2 (Nat.le_refl _)
     have hjC:=hJ' hj s2 (Nat.le_refl _)
     have hNC:N < C.blk.length:=Ac3 s3
     obtain ⟨st1,st2⟩:=hbk.step y
     have hw64:(w.set (q.length % 64) y).length=64:=by rw [List.length_set];exact hbk.1
     by_cases q64:(q.length+1) % 64=0
     . obtain ⟨u1, u2, u3⟩ := st2 q64
       have hck:ch[q.length / 64]?=some (w.set (q.length % 64) y):=by
        rw [hch,A78 L (by omega),u1,hr2]
        congr 1
        rw [List.append_assoc,List.drop_append_of_le_length (by omega),List.drop_append_of_le_length (by omega),<- List.append_assoc,List.take_append_of_le_length (by rw [List.length_append,List.length_drop];simp;omega)]
       obtain ⟨bb,E,y1,y2,y3,y4⟩:=hstep _ _ C _ hck hjC hC trivial rfl
       simp only [RT,Q0,Q1,Q2,Q3,Q4,Q5,Q6,Q7,Q8,h17,h19,g3,g4,h4,rm,h3,AR5 (r:=N) (show q.length % 64 < 64 by omega),s1,wq,decide_eq_true (show (((q.length+1) % 64:Nat):Int)=0 by omega),h0,B39 s3 hw64]
       refine ⟨_,E,y1,?_⟩
       simp only [RT,Q0,Q1,Q2,Q3,Q4,Q5,Q6,Q7,Q8]
       have hE:=hC.thn y2
       cases bb with
       | true =>
        simp only [RT,Q0,Q1,Q2,Q3,Q4,Q5,Q6,Q7,Q8,h19,wj]
        refine ⟨x.length - (j+1),by omega,j+1,w.set (q.length % 64) y,rfl,by omega,?_⟩
        rw [hpj,<- hq]
        have lq:(q++[y]).length=q.length+1:=by simp
        have z1:=row_keep y2 s3 (Nat.le_refl _)
        have z2:=(y3 rfl).1
        rw [<- u3]at z2
        have z3:N < E.blk.length:=Ac3 z1
        exact ⟨rfl,h13,h0,h3,by rw [lq],h11,h12,h17,h18,hE,z1,u2,z2,z3⟩
       | false =>
        simp only [RT,Q0,Q1,Q2,Q3,Q4,Q5,Q6,Q7,Q8]
        exact ⟨hE,.inr ⟨rfl,_,(List.getElem?_eq_some_iff.1 hck).1,y4 rfl⟩⟩
     . have hbk2 := st1 q64
       simp only [RT,Q0,Q1,Q2,Q3,Q4,Q5,Q6,Q7,Q8,h17,h19,g3,g4,h4,rm,h3,AR5 (r:=N) (show q.length % 64 < 64 by omega),s1,wq,decide_eq_false (show ¬ ((((q.length+1) % 64:Nat):Int)=0) by omega)]
       simp only [RT,Q0,Q1,Q2,Q3,Q4,Q5,Q6,Q7,Q8,h19,wj]
       refine ⟨x.length - (j+1),by omega,j+1,w.set (q.length % 64) y,rfl,by omega,?_⟩
       rw [hpj,<- hq]
       have lq:(q++[y]).length=q.length+1:=by simp
       exact ⟨rfl,h13,h0,by rw [lq],h11,h12,h18,hC,s3,hbk2,by rw [lq,show (q.length+1) / 64=q.length / 64 by omega];exact hjC,hNC⟩
   . rintro z e B hz ⟨hf, ⟨rfl, w, h13, h0, h3, h4, h11, h12, hw, hbk, hj, hNB⟩ | ⟨rfl, hd⟩⟩
     . simp only [RT, Q0, Q1, Q2, Q3, Q4, Q5, Q6, Q7, Q8, h13, hwi]
       refine ⟨ls.length - (i+1),by omega,i+1,p++x,w,rfl,by omega,?_⟩
       exact ⟨rfl,h0,h3,h4,h11,h12,hpx.symm,hf,hw,hbk,hj,hNB⟩
     . simp only [RT, Q0, Q1, Q2, Q3, Q4, Q5, Q6, Q7, Q8]
       exact ⟨hf,.inr ⟨rfl,hd⟩⟩
 rintro z e B hz ⟨hf,⟨rfl,w,h0,h3,h4,hw,hbk,hj,hNB⟩ | ⟨rfl,hd⟩⟩
 rotate_left
 . simp only [RT, Q0, Q1, Q2, Q3, Q4, Q5, Q6, Q7, Q8]
   exact ⟨hf,.inr hd⟩
 obtain ⟨r,hr⟩:∃ r,r=L.length % 64:=⟨_,rfl⟩
 have hr64:r < 64:=by omega
 obtain ⟨n8,hn8⟩:∃ n,n=L.length * 8:=⟨_,rfl⟩
 obtain ⟨B1,s1,s2,s3⟩:=Cc2 (A:=B) b64 Ay1
 obtain ⟨b9,hb9⟩:∃ b,b=B.blk.length:=⟨_,rfl⟩
 rw [<- hb9]at s1 s3
 have hN9:N<=b9/\N≠b9:=by omega
 have rm:∀ n:Nat,evBin Try.prog .rem 3 (.int .i64 (n:Int)) (.int .i64 64)=some (.int .i64 ((n % 64:Nat):Int)):=fun n=>by rw [AB4,if_neg (by omega)];rfl
 have hw1:=s2.row0 hw
 have hwl:(bc w).length=64:=by rw [Aa5];exact hbk.1
 have sl1:=Bl3 (P:=Try.prog) (A:=B1) (t:=148) (n:=64) (b:=b9) (o:=0) (z:=0) Try.underlying148 sz5 s3 (by show 0+64 * 1<=(bc b64).length;rw [Aa5,Ay1];exact Nat.le_refl _)
 have sl2:=BQ9 (P:=Try.prog) (A:=B1) (t:=148) (n:=64) (b:=N) (o:=0) (z:=0) (j:=r) (kd:=.i64) Try.underlying148 sz5 hw1 (by show 0+64 * 1<=(bc w).length;rw [hwl];exact Nat.le_refl _) (by omega)
 have hrg:B1.range N 0 r=some (bc (w.take r)):=by
  unfold AS.range
  rw [hw1]
  simp only []
  rw [if_pos (by rw [hwl];omega),List.drop_zero]
  unfold bc;rw [List.map_take]
 obtain ⟨B2,c1,c2,c3⟩:=Bo2 (P:=Try.prog) (t:=24) (n:=64) (n':=r) Try.underlying24 sz5 s3 hrg (by rw [Aa5,List.length_take,hbk.1];omega) (Ae6 _) (by omega) (by rw [Aa5,Ay1];omega)
 have c3:B2.blk[b9]?=some ⟨bc (w.take r++List.replicate (64 - r) 0),.var⟩:=by
  rw [c3];congr 2
  unfold bc b64
  rw [List.map_append,<- List.map_drop,List.drop_replicate]
 have hwr:(w.take r).length=r:=by rw [List.length_take,hbk.1];omega
 obtain ⟨B3,d1,d2,d3⟩:=stB c3 (j:=r) (by rw [List.length_append,hwr,List.length_replicate];omega) 128
 rw [B41 hwr hr64,show w.take r=L.drop (64 * (L.length / 64)) by rw [hr];exact hbk.2,show 64 - (r+1)=63 - r by omega]at d3
 have d1:evStore Try.prog 5 (.ptr b9 r) (.int .u8 128) B2=some B3:=d1
 have hf3:Fr S A B3:=hfold (hfold (hf.then0 s2) c2 hN9.1) d2 hN9.1
 have hj3:J (L.length / 64) B3:=hJ' (hJ' (hJ0' hj s2) c2 hN9.1) d2 hN9.1
 have hdl:(L.drop (64 * (L.length / 64))).length=r:=by rw [List.length_drop];omega
 simp only [RT,Q0,Q1,Q2,Q3,Q4,Q5,Q6,Q7,Q8,BR0,zcB,s1,<- hb9]
 rw [Bx9,Aa2 (by rfl)]
 simp only [RT,Q0,Q1,Q2,Q3,Q4,Q5,Q6,Q7,Q8,sl1,h4,rm,<- hr,h3,sl2,c1,AR5 (r:=b9) hr64,d1]
 refine Al0 (fun z e C=>Fr S A C/\((Is z .normal/\∃ (q:Bts) (kk:Nat),q.length=56/\kk+1=ch.length/\ch[kk]?=some (q++be8 n8)/\J kk C/\C.blk[b9]?=some ⟨bc (cntB q n8 0),.var⟩/\e.get 0=.yield lo/\e.get 4=.int .i64 (L.length:Int)/\e.get 9=.ptr b9 0)∨(Is z .ret/\∃ i,i < ch.length/\D i C))) ?_ ?_
 . refine Aa7 (fun q1 => ?_) (fun q1 => ?_)
   . obtain ⟨k1, k2, k3⟩ := Bd8 L (by omega)
     rw [<- hch]at k1 k2 k3
     rw [<- hr]at k1
     have hl64:(L.drop (64 * (L.length / 64))++[128]++List.replicate (63 - r) (0:UInt8)).length=64:=by simp only [List.length_append,hdl,List.length_singleton,List.length_replicate];omega
     obtain ⟨bb,E,y1,y2,y3,y4⟩:=hstep _ _ B3 _ k1 hj3 hf3 trivial rfl
     simp only [RT,Q0,Q1,Q2,Q3,Q4,Q5,Q6,Q7,Q8,h0,B39 d3 hl64]
     refine ⟨_,E,y1,?_⟩
     simp only [RT,Q0,Q1,Q2,Q3,Q4,Q5,Q6,Q7,Q8]
     have hE:=hf3.thn y2
     cases bb with
     | true =>
      have z1:=row_keep y2 d3 hN9.1
      obtain ⟨G,g1,g2,g3⟩:=Cf5 z1 hl64 Ay1
      simp only [RT,Q0,Q1,Q2,Q3,Q4,Q5,Q6,Q7,Q8,BR0,g1]
      have zB:G.blk[b9]?=some ⟨bc (cntB (List.replicate 56 0) n8 0),.var⟩:=by rw [g3,AR8,List.replicate_append_replicate];rfl
      have zJ:=hJ' (y3 rfl).1 g2 hN9.1
      have z56:(List.replicate 56 (0:UInt8)).length=56:=by simp
      have zk:L.length / 64+1+1=ch.length:=by omega
      rw [<- hn8]at k2
      refine ⟨hfold hE g2 hN9.1,.inl ⟨rfl,List.replicate 56 0,L.length / 64+1,?_⟩⟩
      and_intros <;> first | rfl | assumption
     | false =>
      simp only [RT,Q0,Q1,Q2,Q3,Q4,Q5,Q6,Q7,Q8]
      exact ⟨hE,.inr ⟨rfl,_,(List.getElem?_eq_some_iff.1 k1).1,y4 rfl⟩⟩
   . obtain ⟨k1, k2⟩ := Bd7 L (by omega)
     rw [<- hch]at k1 k2
     rw [<- hr]at k1
     simp only [RT,Q0,Q1,Q2,Q3,Q4,Q5,Q6,Q7,Q8]
     have zB:B3.blk[b9]?=some ⟨bc (cntB (L.drop (64 * (L.length / 64))++[128]++List.replicate (55 - r) 0) n8 0),.var⟩:=by
      rw [d3,AR8,List.append_assoc _ (List.replicate (55 - r) 0),List.replicate_append_replicate,show 63 - r=55 - r+8 by omega]
     have z56:(L.drop (64 * (L.length / 64))++[128]++List.replicate (55 - r) (0:UInt8)).length=56:=by simp only [List.length_append,hdl,List.length_singleton,List.length_replicate];omega
     have zk:L.length / 64+1=ch.length:=by omega
     rw [<- hn8]at k1
     refine ⟨hf3,.inl ⟨rfl,L.drop (64 * (L.length / 64))++[128]++List.replicate (55 - r) 0,L.length / 64,?_⟩⟩
     and_intros <;> first | rfl | assumption
 rintro z e C ⟨hfC,⟨rfl,q,kk,hq,hkk,hck,hjC,hC,h0,h4,h9⟩ | ⟨rfl,hd⟩⟩
 rotate_left
 . simp only [RT, Q0, Q1, Q2, Q3, Q4, Q5, Q6, Q7, Q8]
   exact ⟨hfC,.inr hd⟩
 simp only [RT,Q0,Q1,Q2,Q3,Q4,Q5,Q6,Q7,Q8]
 refine Aa6 (fun z e E=>∃ i:Nat,z=8 - i/\i<=8/\e.get 57=.int .i64 i/\e.get 0=.yield lo/\e.get 4=.int .i64 (L.length:Int)/\e.get 9=.ptr b9 0/\Fr S A E/\J kk E/\E.blk[b9]?=some ⟨bc (cntB q n8 i),.var⟩)
  (fun z e E=>Is z (.exit 4)/\e.get 0=.yield lo/\e.get 9=.ptr b9 0/\Fr S A E/\J kk E/\E.blk[b9]?=some ⟨bc (q++be8 n8),.var⟩)
  ⟨_,0,rfl,by omega,rfl,h0,h4,h9,hfC,hjC,hC⟩ ?_ ?_
 . clear hC hjC hfC h0 h4 h9
   rintro z e E ⟨i,rfl,hi,h57,h0,h4,h9,hfE,hjE,hE⟩
   simp only [RT,Q0,Q1,Q2,Q3,Q4,Q5,Q6,Q7,Q8,h57]
   refine Aa7 (fun q2=>?_) (fun q2=>?_)
   rotate_left
   . have : i = 8 := by omega
     subst this
     rw [Bo0]at hE
     simp only [RT,Q0,Q1,Q2,Q3,Q4,Q5,Q6,Q7,Q8]
     exact ⟨rfl,h0,h9,hfE,hjE,hE⟩
   have hi:i < 8:=by omega
   have w63:IntKind.i64.wrap (63 - (i:Int))=((63 - i:Nat):Int):=by rw [Ae1 (by omega) (by omega)];omega
   have w8:IntKind.i64.wrap (8 * (i:Int))=((8 * i:Nat):Int):=by rw [Ae1 (by omega) (by omega)];omega
   have wi:IntKind.i64.wrap ((i:Int)+1)=((i+1:Nat):Int):=by rw [Ae4 (by omega)]
   have sh3:evShift .shl .u64 (L.length:Int) 3=some (.int .u64 (n8:Int)):=by
    show some (V.int .u64 (IntKind.u64.wrap ((L.length:Int) * 2 ^ 3)))=_
    rw [As0];congr 2;omega
   have shr:evShift .shr .u64 (n8:Int) ((8 * i:Nat):Int)=some (.int .u64 ((n8 / 256 ^ i:Nat):Int)):=by
    rw [A28 n8 (8 * i) (by show 8 * i<=64;omega),Nat.pow_mul]
   have hcl:(cntB q n8 i).length=64:=Bo1 hq (by omega)
   obtain ⟨G,t1,t2,t3⟩:=stB hE (j:=63 - i) (by rw [hcl];omega) (UInt8.ofNat (n8 / 256 ^ i))
   rw [Be0 hq hi]at t3
   simp only [RT,Q0,Q1,Q2,Q3,Q4,Q5,Q6,Q7,Q8,h57,w63,h4,B40 L.length (by omega),A60,sh3,w8,AH0,shr,BR1,h9,AR5 (r:=b9) (show 63 - i < 64 by omega),t1]
   simp only [RT,Q0,Q1,Q2,Q3,Q4,Q5,Q6,Q7,Q8,h57,wi]
   exact ⟨8 - (i+1),by omega,i+1,rfl,by omega,rfl,h0,hfold hfE t2 hN9.1,hJ' hjE t2 hN9.1,t3⟩
 rintro z e E hz ⟨rfl,h0,h9,hfE,hjE,hE⟩
 obtain ⟨bb,G,y1,y2,y3,y4⟩:=hstep _ _ E _ hck hjE hfE trivial rfl
 simp only [RT,Q0,Q1,Q2,Q3,Q4,Q5,Q6,Q7,Q8,h0,h9,B39 hE (show (q++be8 n8).length=64 by rw [List.length_append,hq,Au0])]
 refine ⟨_,G,y1,?_⟩
 simp only [RT,Q0,Q1,Q2,Q3,Q4,Q5,Q6,Q7,Q8]
 refine ⟨hfE.thn y2,?_⟩
 cases bb with
 | true =>
  have:=(y3 rfl).1
  rw [hkk]at this
  exact .inl this
 | false=>exact .inr ⟨_,(List.getElem?_eq_some_iff.1 hck).1,y4 rfl⟩
end
end Go.Sv.Try
namespace Go.Sv
open Go
theorem GoesG.monoT {τ:Type} {P:Program} {H:Hints} {h:FuncId} {first cap:List V} {A0:AS} {S T T':Loc->Prop} {K:Nat->Prop} {Pre Fin:AS->Prop} {AR:AS->List V->τ->Prop} {xs:List τ} (g:GoesG P H h first cap A0 S T K Pre Fin AR xs) (ht:∀ x,T x->T' x):GoesG P H h first cap A0 S T' K Pre Fin AR xs :=
 fun l J D h1 h2 h3 h4=>g l J D (fun i A A' q w=>h1 i A A' q (w.mono ht)) h2 h3 h4
theorem Be1 {s:S8} {i:Nat} (h:i < 32):((out8 s).take i++List.replicate (32 - i) 0).set i (UInt8.ofNat ((gw (s8l s) (i / 4)).toNat >>> (24 - 8 * (i % 4))))=(out8 s).take (i+1)++List.replicate (32 - (i+1)) 0:=by
 obtain ⟨k,hk⟩:∃ k,32 - i=k+1:=⟨32 - i - 1,by omega⟩
 have hl:((out8 s).take i).length=i:=by rw [List.length_take,Ao9];omega
 rw [hk,show 32 - (i+1)=k by omega,List.replicate_succ,List.set_append,if_neg (by omega),hl,Nat.sub_self,List.take_add_one]
 unfold out8
 rw [List.getElem?_map,List.getElem?_range h]
 simp
end Go.Sv
namespace Go.Sv.Try
open Go Go.Proofs
section
variable {A:AS} {r:Nat} {k:BK}
theorem AY7 {v:V} (hv:v.one=true):∃ w A',EvF Try.prog HH 64 [v] A w A'/\w=.fn 70 [] [.ptr A.blk.length 0]/\Fr S0 A A'/\A'.blk[A.blk.length]?=some ⟨[v],.var⟩:=by
 refine Aa4 rfl Try.func64 (by unfold Try.f64;rfl) Try.ntmps64 (by unfold Try.f64;rfl) (by simp) ?_
 simp only [RT,Q0,Q1,Q2,Q3,Q4,Q5,Q6,Q7,Q8,one_cells hv]
 exact ⟨Fr.pushVar A _,Ab8 A _⟩
theorem B42:evBuild Try.prog 144 [(0,.int .u32 1779033703),(1,.int .u32 3144134277),(2,.int .u32 1013904242),(3,.int .u32 2773480762),(4,.int .u32 1359893119),(5,.int .u32 2600822924),(6,.int .u32 528734635),(7,.int .u32 1541459225)]=some (.agg (wc .u32 (s8l sha0))):=by kernel_rfl
def z32s:Bts:=List.replicate 32 0
theorem Bb8:(zeroT Try.prog 23).bind V.cells=some (bc z32s):=by kernel_rfl
theorem Cf6 {r j:Nat} (h:j < 32):evIndexAddr Try.prog 23 (.ptr r 0) (.int .i64 (j:Int))=some (.ptr r j):=by
 rw [Aj4 Try.underlying23 sz5 h,Nat.zero_add,Nat.mul_one]
theorem ldI {l:Bts} (hb:A.blk[r]?=some ⟨bc l,k⟩) (h:l.length=32):evLoad Try.prog 23 (.ptr r 0) A=some (.agg (bc l)):=At.load hb (At.all _) AX5 AH3 (by rw [Aa5,h])
theorem BR2 {l l':Bts} (hb:A.blk[r]?=some ⟨bc l,.var⟩) (h:l.length=32) (h':l'.length=32):∃ A',evStore Try.prog 23 (.ptr r 0) (.agg (bc l')) A=some A'/\Fr (·=.row r) A A'/\A'.blk[r]?=some ⟨bc l',.var⟩:=by
 obtain ⟨A',s1,s2,s3,s4⟩:=Ac0 (P:=Try.prog) (t:=23) (o:=0) (x:=.agg (bc l')) (cs:=bc l') hb rfl (by rw [Aa5,h'];exact AH3) (by rw [Aa5,Aa5];omega) (Ae6 _)
 rw [Ag5 (by rw [Aa5,Aa5];omega)]at s3
 exact ⟨A',s1,s2,s3⟩
theorem BR3 (l:Bts) (h:l.length=32):∃ A',evStore Try.prog 23 (.ptr A.blk.length 0) (.agg (bc l)) (A.push ⟨bc z32s,.var⟩)=some A'/\Fr S0 A A'/\A'.blk[A.blk.length]?=some ⟨bc l,.var⟩:=by
 obtain ⟨A2,s1,s2,s3,s4⟩:=Ai4 (P:=Try.prog) A (z:=bc z32s) (t:=23) (x:=.agg (bc l)) (cs:=bc l) rfl (by rw [Aa5,h];exact AH3) (by rw [Aa5,Aa5,h];rfl) (Ae6 _)
 exact ⟨A2,s1,s2,s3⟩
theorem BR4 (n:Nat) (A:AS):cnv Try.prog 142 5 (some (.int .u32 (n:Int))) A=some (.val (.int .u8 ((UInt8.ofNat n).toNat:Int))):=by
 rw [AA0 (by decide) Try.underlying142 Try.underlying5]
 congr 3
set_option maxRecDepth 10000 in
set_option maxHeartbeats 16000000 in
theorem A79 {m:Hp} {v:V} {ls:List Bts} (hw:WF A) (hm:m.on A) (h:Slc (eSl eU8) m v ls) (hL:ls.flatten.length<=1000000000000) (hLn:ls.length<=1000000000000) :
 ∃ w A',EvF Try.prog HH 53 [v] A w A'/\Fr S0 A A'/\w=.agg (bc (sha ls.flatten)):=by
 refine Aa4 rfl Try.func53 (by unfold Try.f53;rfl) Try.ntmps53 (by unfold Try.f53;rfl) (by simp) ?_
 obtain ⟨L,hLd⟩:∃ L,L=ls.flatten:=⟨_,rfl⟩
 obtain ⟨ch,hch⟩:∃ c,c=chunks (padB L):=⟨_,rfl⟩
 obtain ⟨A1,e1,f1,r1,n1⟩:=Aa9 A (bc z32s)
 obtain ⟨b1,hb1⟩:∃ b,b=A.blk.length:=⟨_,rfl⟩
 obtain ⟨A2,e2,f2,r2⟩:=B38 (A:=A1) (List.replicate 8 0) (s8l sha0) (n:=8) (t:=144) rfl rfl By2
 obtain ⟨bs,hbs⟩:∃ b,b=A1.blk.length:=⟨_,rfl⟩
 have hmA2:m.on A2:=(hm.fr0 f1).fr0 f2
 obtain ⟨_,A3,k3,rfl,f3,r3⟩:=AY7 (A:=A2) h.one
 obtain ⟨bx,hbx⟩:∃ b,b=A2.blk.length:=⟨_,rfl⟩
 simp only [RT,Q0,Q1,Q2,Q3,Q4,Q5,Q6,Q7,Q8,Bb8,<- e1,B42,zcS,e2]
 refine Aa0 k3 ?_
 rw [<- hbs]at r2
 rw [<- hbx]at r3
 rw [<- hb1]at r1
 rw [<- hbs,<- hbx,<- hb1]
 have l2:=Ac3 r2
 have l1:=Ac3 r1
 have l3:=Ac3 r3
 have l23:=f3.len
 have l12:=f2.len
 have fA3:=(f1.then0 f2).then0 f3
 have r1':=f3.row0 (f2.row0 r1)
 have r2':=f3.row0 r2
 have hms:∀ b,A.blk.length<=b->m b=none:=fun b hb=>hm.fresh hb
 simp only [RT,Q0,Q1,Q2,Q3,Q4,Q5,Q6,Q7,Q8]
 refine Bl5 (S:=(·=.row bs)) (T:=ownT A3.blk.length) (K:=fun _=>False) (Pre:=fun _=>True) (Fin:=fun _=>True) (AR:=argB) (xs:=ch)
  (fun i B=>B.blk[bs]?=some ⟨wc .u32 (s8l ((ch.take i).foldl comp sha0)),.var⟩) (fun B=>B.blk[bs]?=some ⟨wc .u32 (s8l (ch.foldl comp sha0)),.var⟩)
  rfl (fun q=>by cases q) (fun q=>by obtain ⟨b,q,_⟩:=q;cases q) ?_ r2' ?_ ?_ Try.func53 Try.ntmps53 (by simp) ?_ ?_ ?_
 . intro A0 hf0
   rw [hch,hLd]
   refine GoesG.monoT (AY6 ((hm.fr0 fA3).fr0 hf0) ?_ (hf0.row0 r3) h hL hLn) fun x ⟨b,q1,q2⟩=>⟨b,q1,by have:=hf0.len;omega⟩
   rintro b (q | q)
   . cases q
     have:=hf0.len
     exact ⟨hms _ (by omega),by omega,by omega⟩
   . cases q
 . intro i B C q hf
   exact hf.row _ _ q (by rintro (⟨b,y1,y2⟩ | y);cases y1;omega;cases y)
 . intro B C q hf
   exact hf.row _ _ q (by intro y;cases y)
 . rintro i x B args hi hI hfB _ rfl
   refine ⟨_,rfl,?_⟩
   have hx64:x.length=64:=by rw [hch]at hi;exact (A74 hi).2.2
   obtain ⟨C,s1,s2,s3⟩:=Cc2 (A:=B) x hx64
   simp only [RT,Q0,Q1,Q2,Q3,Q4,Q5,Q6,Q7,Q8,zcB,s1]
   refine ⟨rfl,s2.mono fun _ q=>q.elim,fun B1 hB1=>?_⟩
   have hsB:=Ac3 hI
   obtain ⟨w,E,t1,t2,t3⟩:=A76 (hB1.row _ _ (s2.row0 hI) (fun q=>by cases q)) (hB1.row _ _ s3 (fun q=>by cases q)) hx64 (by omega)
   refine Aa0 t1 ?_
   simp only [RT,Q0,Q1,Q2,Q3,Q4,Q5,Q6,Q7,Q8]
   refine ⟨t2,.inl ⟨rfl,?_,fun r q=>q.elim⟩⟩
   rw [t3,Ac4 hi,List.foldl_append];rfl
 . intro B q _
   rwa [List.take_length]at q
 . intro B hE hfB
   obtain ⟨s,hs⟩:∃ s,s=ch.foldl comp sha0:=⟨_,rfl⟩
   rw [<- hs]at hE
   obtain ⟨C,e5,f5,r5,n5⟩:=Aa9 B (bc z32s)
   obtain ⟨b5,hb5⟩:∃ b,b=B.blk.length:=⟨_,rfl⟩
   simp only [RT,Q0,Q1,Q2,Q3,Q4,Q5,Q6,Q7,Q8,Bb8,<- e5]
   rw [<- hb5]at r5 ⊢
   have hEs:=f5.row0 hE
   have lbs:=Ac3 hE
   have hfC:Fr S0 A C:=(fA3.row_ hfB (by omega)).then0 f5
   have hr1C:=f5.row0 (hfB.row _ _ r1' (fun q=>by cases q;omega))
   have lb1:b1 < B.blk.length:=Ac3 (hfB.row _ _ r1' (fun q=>by cases q;omega))
   refine Aa6 (fun z e E=>∃ i:Nat,z=32 - i/\i<=32/\e.get 12=.int .i64 i/\e.get 2=.ptr b1 0/\e.get 3=.ptr bs 0/\e.get 5=.ptr b5 0/\Fr (·=.row b5) C E/\E.blk[b5]?=some ⟨bc ((out8 s).take i++List.replicate (32 - i) 0),.var⟩)
    (fun z e E=>Is z (.exit 2)/\e.get 2=.ptr b1 0/\e.get 5=.ptr b5 0/\Fr (·=.row b5) C E/\E.blk[b5]?=some ⟨bc (out8 s),.var⟩)
    ⟨_,0,rfl,by omega,rfl,rfl,rfl,rfl,.refl _ _,r5⟩ ?_ ?_
   . rintro z e E ⟨i, rfl, hi, h12, h2, h3, h5, hf, hB⟩
     simp only [RT,Q0,Q1,Q2,Q3,Q4,Q5,Q6,Q7,Q8,h12]
     refine Aa7 (fun q1=>?_) (fun q1=>?_)
     rotate_left
     . have : i = 32 := by omega
       subst this
       rw [List.take_of_length_le (by rw [Ao9];exact Nat.le_refl _),Nat.sub_self,List.replicate_zero,List.append_nil]at hB
       simp only [RT,Q0,Q1,Q2,Q3,Q4,Q5,Q6,Q7,Q8]
       exact ⟨rfl,h2,h5,hf,hB⟩
     have hi:i < 32:=by omega
     have wi:IntKind.i64.wrap ((i:Int)+1)=((i+1:Nat):Int):=by rw [Ae4 (by omega)]
     have q4:evBin Try.prog .quo 3 (.int .i64 (i:Int)) (.int .i64 4)=some (.int .i64 ((i / 4:Nat):Int)):=by
      rw [AL6,if_neg (by omega),show ((i:Int)).tdiv 4=((i / 4:Nat):Int) from rfl,Ae1 (by omega) (by omega)]
     have r4:evBin Try.prog .rem 3 (.int .i64 (i:Int)) (.int .i64 4)=some (.int .i64 ((i % 4:Nat):Int)):=by
      rw [AB4,if_neg (by omega)];rfl
     have w8:IntKind.i64.wrap (8 * ((i % 4:Nat):Int))=((8 * (i % 4):Nat):Int):=by rw [Ae1 (by omega) (by omega)];omega
     have w24:IntKind.i64.wrap (24 - ((8 * (i % 4):Nat):Int))=((24 - 8 * (i % 4):Nat):Int):=by rw [Ae1 (by omega) (by omega)];omega
     have lS:=ldW (hf.row _ _ hEs (fun q=>by cases q;omega)) (j:=i / 4) (show i / 4 < 8 by omega)
     obtain ⟨G,t1,t2,t3⟩:=stB hB (j:=i) (by rw [List.length_append,List.length_take,Ao9,List.length_replicate];omega) (UInt8.ofNat ((gw (s8l s) (i / 4)).toNat >>> (24 - 8 * (i % 4))))
     rw [Be1 hi]at t3
     have t1':evStore Try.prog 5 (.ptr b5 i) (.int .u8 ((UInt8.ofNat ((gw (s8l s) (i / 4) >>> (24 - 8 * (i % 4))).toNat)).toNat:Int)) E=some G:=by rw [BitVec.toNat_ushiftRight];exact t1
     simp only [RT,Q0,Q1,Q2,Q3,Q4,Q5,Q6,Q7,Q8,h12,q4,r4,w8,w24,h3,ax8 (r:=bs) (show i / 4 < 8 by omega),lS,AH0,Bn8 _ (n:=24 - 8 * (i % 4)) (by omega),BR4,h5,Cf6 (r:=b5) hi,t1']
     simp only [RT,Q0,Q1,Q2,Q3,Q4,Q5,Q6,Q7,Q8,h12,wi]
     refine ⟨32 - (i+1),by omega,i+1,rfl,by omega,rfl,h2,hf.trans t2 fun x q=>.inl q,t3⟩
   rintro z e E hz ⟨rfl,h2,h5,hf,hB⟩
   have hr1E:=hf.row _ _ hr1C (fun q=>by cases q;omega)
   obtain ⟨G,t1,t2,t3⟩:=BR2 hr1E (by simp [z32s]) (Ao9 s)
   simp only [RT,Q0,Q1,Q2,Q3,Q4,Q5,Q6,Q7,Q8,h5,ldI hB (Ao9 s),h2,t1,ldI t3 (Ao9 s)]
   refine ⟨(hfC.row_ hf (by omega)).row_ t2 (by omega),?_⟩
   rw [hs,hch,hLd];rfl
end
end Go.Sv.Try
namespace Go.Sv
open Go
end Go.Sv
namespace Go.Sv.Try
open Go Go.Proofs
section
variable {A:AS} {r:Nat} {k:BK}
theorem B43:bsl Try.prog 24 1 (some [(0,.int .u8 0)])=some (.newSl (bc [0]) 1 1):=by kernel_rfl
end
end Go.Sv.Try
namespace Go.Sv
open Go
section
variable {P:Program} {t:TypeId}
end
end Go.Sv
namespace Go.Sv.Try
open Go Go.Proofs
section
variable {A:AS} {r:Nat} {k:BK}
theorem stU {l:List W32} (hs:Sole A r r) (hb:A.blk[r]?=some ⟨wc .u64 l,.arr r 0⟩) {j:Nat} (h:j < l.length) (x:W32):∃ A',evStore Try.prog 156 (.ptr r j) (.int .u64 (x.toNat:Int)) A=some A'/\Fr (·=.row r) A A'/\A'.blk[r]?=some ⟨wc .u64 (l.set j x),.arr r 0⟩/\Sole A' r r:=by
 obtain ⟨A',s1,s2,s3,s4,s5⟩:=As9 (P:=Try.prog) (t:=156) (o:=j) (x:=.int .u64 (x.toNat:Int)) (cs:=[.int .u64 (x.toNat:Int)]) hs hb rfl Cb5 (by rw [At1];exact h) rfl
 rw [By7 h]at s3
 exact ⟨A',s1,s2,s3,s5⟩
structure RW (A B:AS) (bk bh bw:Nat) (s:S8) (l:List W32):Prop where
 fr:Fr S0 A B
 k:B.blk[bk]?=some ⟨wc .u64 shK,.arr bk 0⟩
 h:B.blk[bh]?=some ⟨wc .u64 (s8l s),.arr bh 0⟩
 hs:Sole B bh bh
 w:B.blk[bw]?=some ⟨wc .u64 l,.arr bw 0⟩
 ws:Sole B bw bw
theorem RW.store {B:AS} {bk bh bw:Nat} {s:S8} {l:List W32} (h:RW A B bk bh bw s l) (h1:bk≠bw) (h2:bh≠bw) (h3:A.blk.length<=bw) {j:Nat} (hj:j < l.length) (x:W32):∃ C,evStore Try.prog 156 (.ptr bw j) (.int .u64 (x.toNat:Int)) B=some C/\RW A C bk bh bw s (l.set j x):=by
 obtain ⟨C,s1,s2,s3,s4⟩:=stU h.ws h.w hj x
 exact ⟨C,s1,h.fr.row_ s2 h3,s2.row _ _ h.k (fun q=>by cases q;exact h1 rfl),s2.row _ _ h.h (fun q=>by cases q;exact h2 rfl),h.hs.fr s2 (fun q=>by cases q),s3,s4⟩
theorem RW.s0 {B C:AS} {bk bh bw:Nat} {s:S8} {l:List W32} (h:RW A B bk bh bw s l) (hf:Fr S0 B C):RW A C bk bh bw s l :=
 ⟨h.fr.then0 hf,hf.row0 h.k,hf.row0 h.h,h.hs.fr hf (fun q=>q),hf.row0 h.w,h.ws.fr hf (fun q=>q)⟩
end
end Go.Sv.Try
namespace Go.Sv.Try
open Go Go.Proofs
section
variable {A:AS} {r:Nat} {k:BK}
end
end Go.Sv.Try
namespace Go.Sv
open Go
abbrev Peaks:=List (Nat×List Bts)
def Pk.cat (L:Peaks):List Bts:=L.flatMap (·.2)
def Pk.ok (L:Peaks):Prop:=(∀ p∈L,p.2.length=2 ^ p.1)/\L.Pairwise (fun p q=>q.1 < p.1)
theorem Pk.cat_cons (p:Nat×List Bts) (L:Peaks):Pk.cat (p::L)=p.2++Pk.cat L:=rfl
theorem Pk.lt:∀ {L:Peaks} {k:Nat},Pk.ok L->(∀ p∈L,p.1 < k)->(Pk.cat L).length < 2 ^ k
 | [],k,_,_=>by show 0 < 2 ^ k;exact Nat.pow_pos (by decide)
 | p::L,k,h,hk=>by
  have h1:=List.pairwise_cons.1 h.2
  have h2:=Pk.lt (L:=L) (k:=p.1) ⟨fun q hq=>h.1 q (by simp [hq]),h1.2⟩ h1.1
  have h3:=hk p (by simp)
  rw [Pk.cat_cons,List.length_append,h.1 p (by simp)]
  have:2 ^ (p.1+1)<=2 ^ k:=Nat.pow_le_pow_right (by decide) h3
  rw [Nat.pow_succ]at this;omega
theorem Pk.push {M:Peaks} {j:Nat} {c:List Bts} (h:Pk.ok M) (hj:∀ p∈M,j<=p.1) (hc:c.length=2 ^ j) (hn:¬ ∃ c' M',M=M'++[(j,c')]):Pk.ok (M++[(j,c)]):=by
 refine ⟨fun p hp=>?_,?_⟩
 . rcases List.mem_append.1 hp with hp | hp
   . exact h.1 p hp
   . rw [List.mem_singleton.1 hp];exact hc
 . rw [List.pairwise_append]
   refine ⟨h.2,by simp,fun a ha b hb=>?_⟩
   rw [List.mem_singleton.1 hb]
   show j < a.1
   have h1:=hj a ha
   rcases Nat.lt_or_ge j a.1 with q | q
   . exact q
   . exfalso
     obtain ⟨M1,M2,e⟩:=List.append_of_mem ha
     cases M2 with
     | nil=>exact hn ⟨a.2,M1,by rw [e,show j=a.1 by omega]⟩
     | cons b M2 =>
      have hpw:=h.2
      rw [e,List.pairwise_append]at hpw
      have h2:=(List.pairwise_cons.1 hpw.2.1).1 b (by simp)
      have h3:=hj b (by rw [e];simp)
      omega
end Go.Sv
namespace Go.Sv
open Go
theorem Be2 {m:Hp} {b:Nat} {l:Bts} {n:Nat} (h:m b=some (bc l)) (hn:l.length=n):Slc eU8 m (.sl b 0 n 1) l:=by
 subst hn
 refine .inr ⟨b,0,bc l,rfl,h,by simp [eU8,Aa5],fun i x hx=>?_⟩
 show ((bc l).drop (0+i * 1)).take 1=_
 rw [Nat.mul_one,Nat.zero_add,List.take_one,List.head?_drop,A61,hx];rfl
theorem Cc3 {τ:Type} {E:Enc τ} {m:Hp} {b n:Nat} {vs:List V} {ls:List (List τ)} (h:m b=some vs) (hn:ls.length=n) (hl:vs.length=n) (hs:∀ (i:Nat) x,ls[i]?=some x->∃ v,vs[i]?=some v/\Slc E m v x):Slc (eSl E) m (.sl b 0 n 1) ls:=by
 subst hn
 refine .inr ⟨b,0,vs,rfl,h,by show 0+ls.length * 1<=_;omega,fun i x hx=>?_⟩
 obtain ⟨v,h1,h2⟩:=hs i x hx
 refine ⟨v,?_,h2⟩
 show (vs.drop (0+i * 1)).take 1=_
 rw [Nat.mul_one,Nat.zero_add,List.take_one,List.head?_drop,h1];rfl
end Go.Sv
namespace Go.Sv.Try
open Go Go.Proofs
section
variable {A:AS} {r:Nat} {k:BK}
theorem By9 (b o n z b' o' n' z':Nat):bsl Try.prog 26 2 (some [(0,.sl b o n z),(1,.sl b' o' n' z')])=some (.newSl [.sl b o n z,.sl b' o' n' z'] 2 1):=by kernel_rfl
theorem BR5 (b o n z:Nat):bsl Try.prog 26 2 (some [(0,.sl b o n z),(1,.snil)])=some (.newSl [.sl b o n z,.snil] 2 1):=by kernel_rfl
theorem B44 {b o n z:Nat} {v:V} (h:v=.snil∨∃ b o n z,v=.sl b o n z):bsl Try.prog 26 2 (some [(0,.sl b o n z),(1,v)])=some (.newSl [.sl b o n z,v] 2 1):=by
 rcases h with rfl | ⟨_,_,_,_,rfl⟩
 . exact BR5 _ _ _ _
 . exact By9 _ _ _ _ _ _ _ _
theorem AM7 {τ:Type} {E:Enc τ} {m:Hp} {v:V} {l:List τ} (h:Slc E m v l):v=.snil∨∃ b o n z,v=.sl b o n z:=by
 rcases h with ⟨rfl,_⟩ | ⟨b,o,cs,rfl,_⟩
 . exact .inl rfl
 . exact .inr ⟨_,_,_,_,rfl⟩
end
end Go.Sv.Try
namespace Go.Sv
open Go
def len4 (n:Nat):Bts:=[UInt8.ofNat (n / 2 ^ 24),UInt8.ofNat (n / 2 ^ 16),UInt8.ofNat (n / 2 ^ 8),UInt8.ofNat n]
def forB (ps:List Bts):List Bts:=ps.flatMap fun p=>[len4 p.length,p]
def forH (pu:Bts) (ps:List Bts):Bts:=sha (pu++0::(forB ps).flatten)
theorem Be3 (ps:List Bts) (p:Bts):forB (ps++[p])=forB ps++[len4 p.length,p]:=by unfold forB;rw [List.flatMap_append];simp
theorem A39 (ps:List Bts):(forB ps).length=2 * ps.length:=by
 induction ps with
 | nil=>rfl
 | cons p ps ih=>show ([len4 p.length,p]++forB ps).length=_;rw [List.length_append,ih];simp;omega
theorem AR9 {n:Nat}:∀ {ps:List Bts},(∀ p∈ps,p.length<=n)->(forB ps).flatten.length<=ps.length * (n+4)
 | [],_=>by simp [forB]
 | p::ps,h=>by
  have ih:=AR9 (ps:=ps) fun q hq=>h q (by simp [hq])
  have hp:=h p (by simp)
  show ([len4 p.length,p]++forB ps).flatten.length<=_
  rw [List.flatten_append,List.length_append,List.length_cons,Nat.succ_mul]
  have:([len4 p.length,p]:List Bts).flatten.length=4+p.length:=by simp [len4];omega
  omega
def Away (m:Hp) (A:AS) (fo:Option Nat):Prop:=∀ b,inFamO A fo (.row b)->m b=none
theorem Away.fr {m:Hp} {A B:AS} {S:Loc->Prop} {fo fo':Option Nat} (h:Away m A fo) (hw:WF A) (hm:m.on A) (hf:Fr S A B) (hg:Gr A fo fo'):Away m B fo':=fun b q=>by
 rcases BI6 hw hf hg q with q | q
 . exact h b q
 . exact hm.fresh q
noncomputable def withArr (m:Hp) (A:AS):Hp:=fun b=>match m b with | some cs=>some cs | none=>arrHp A b
theorem A80 (m:Hp) (A:AS):m.le (withArr m A):=fun b cs q=>by unfold withArr;rw [q]
theorem A81 {m:Hp} {A:AS} (h:m.on A):(withArr m A).on A:=fun b cs q=>by
 unfold withArr at q
 cases z:m b with
 | some c=>rw [z]at q;cases q;exact h b _ z
 | none=>rw [z]at q;exact A63 A b cs q
theorem AY8 {m:Hp} {A:AS} (h:m.on A) {b f base:Nat} {cs:List V} (q:A.blk[b]?=some ⟨cs,.arr f base⟩):withArr m A b=some cs:=by
 unfold withArr
 cases z:m b with
 | some c =>
  obtain ⟨k,y⟩:=h b c z
  rw [q]at y;cases y;rfl
 | none=>show arrHp A b=_;unfold arrHp;rw [q]
theorem CellsR.two {τ:Type} {E:Enc τ} {m:Hp} {x y:τ} {c d:List V} (h:E.R m c x) (h':E.R m d y):CellsR E m (c++d) [x,y]:=(CellsR.single h).app (CellsR.single h')
end Go.Sv
namespace Go.Sv.Try
open Go Go.Proofs
section
variable {A:AS} {r:Nat} {k:BK}
theorem B45 (a b c d:Int):bsl Try.prog 24 4 (some [(0,.int .u8 a),(1,.int .u8 b),(2,.int .u8 c),(3,.int .u8 d)])=some (.newSl [.int .u8 a,.int .u8 b,.int .u8 c,.int .u8 d] 4 1):=by kernel_rfl
theorem BR6 (n:Nat) (A:AS):cnv Try.prog 3 5 (some (.int .i64 (n:Int))) A=some (.val (.int .u8 ((UInt8.ofNat n).toNat:Int))):=by
 rw [AA0 (by decide) Try.underlying3 Try.underlying5]
 congr 3
theorem B46 (n j:Nat) (h:j<=64):evShift .shr .i64 (n:Int) (j:Int)=some (.int .i64 ((n / 2 ^ j:Nat):Int)):=A28 (k:=.i64) n j h
set_option maxRecDepth 10000 in
set_option maxHeartbeats 16000000 in
theorem AY9 {m:Hp} {v:V} {pu:Bts} {ps:List Bts} (hw:WF A) (hm:m.on A) (hs:Slc (eSl eU8) m v ps) (hpu:pu.length<=1000) (hn:ps.length<=100) (hl:∀ p∈ps,p.length<=1000000000) :
 ∃ w A',EvF Try.prog HH 35 [.str pu,v] A w A'/\Fr S0 A A'/\w=.agg (bc (forH pu ps)):=by
 refine Aa4 rfl Try.func35 (by unfold Try.f35;rfl) Try.ntmps35 (by unfold Try.f35;rfl) (by simp) ?_
 have hlen:=fun B=>hs.len (P:=Try.prog) Try.underlying26 B
 obtain ⟨A1,e1,f1,r1,n1⟩:=Aa9 A (bc z32s)
 obtain ⟨b1,hb1⟩:∃ b,b=A.blk.length:=⟨_,rfl⟩
 rw [<- hb1]at r1 n1
 have hcv:=AW8 (P:=Try.prog) (A:=A1) (l:=pu) (s:=9) (d:=24) (by decide) Try.underlying9 Try.underlying24 Try.underlying5
 have hcv:cnv Try.prog 9 24 (some (.str pu)) A1=some (.newSl (bc pu) pu.length 1):=hcv
 obtain ⟨b2,hb2⟩:∃ b,b=A1.blk.length:=⟨_,rfl⟩
 obtain ⟨A2,e2⟩:∃ B,B=A1.push ⟨bc pu,.arr b2 0⟩:=⟨_,rfl⟩
 obtain ⟨b3,hb3⟩:∃ b,b=A2.blk.length:=⟨_,rfl⟩
 obtain ⟨A3,e3⟩:∃ B,B=A2.push ⟨bc [0],.arr b3 0⟩:=⟨_,rfl⟩
 obtain ⟨b4,hb4⟩:∃ b,b=A3.blk.length:=⟨_,rfl⟩
 obtain ⟨A4,e4⟩:∃ B,B=A3.push ⟨[.sl b2 0 pu.length 1,.sl b3 0 1 1],.arr b4 0⟩:=⟨_,rfl⟩
 have f2:Fr S0 A1 A2:=by rw [e2,hb2];exact Fr.pushArr A1 _
 have f3:Fr S0 A2 A3:=by rw [e3,hb3];exact Fr.pushArr A2 _
 have f4:Fr S0 A3 A4:=by rw [e4,hb4];exact Fr.pushArr A3 _
 have r2:A2.blk[b2]?=some ⟨bc pu,.arr b2 0⟩:=by rw [e2,hb2];exact Ab8 A1 _
 have r3:A3.blk[b3]?=some ⟨bc [0],.arr b3 0⟩:=by rw [e3,hb3];exact Ab8 A2 _
 have n2:A2.blk.length=b2+1:=by rw [e2,Ac1,hb2]
 have n3:A3.blk.length=b3+1:=by rw [e3,Ac1,hb3]
 have f14:=((f1.then0 f2).then0 f3).then0 f4
 have hm3:=hm.fr0 ((f1.then0 f2).then0 f3)
 obtain ⟨m0,hm0⟩:∃ m',m'=(m.put b2 (bc pu)).put b3 (bc [0]):=⟨_,rfl⟩
 have q2:m b2=none:=hm.fresh (by omega)
 have q3:(m.put b2 (bc pu)) b3=none:=by unfold Hp.put;rw [if_neg (by omega)];exact hm.fresh (by omega)
 have le0:m.le m0:=by rw [hm0];exact Hp.le_trans (Hp.le_put q2) (Hp.le_put q3)
 have on0:m0.on A3:=by rw [hm0];exact (hm3.put (f3.row0 r2)).put r3
 have g2:m0 b2=some (bc pu):=by rw [hm0];unfold Hp.put;rw [if_neg (by omega),if_pos rfl]
 have g3:m0 b3=some (bc [0]):=by rw [hm0];exact Hp.put_get _ _ _
 have hL0:Lst (eSl eU8) m0 A4 (.sl b4 0 2 1) [pu,[0]] (some b4):=by
  rw [e4,hb4]
  exact Lst.row (l:=[pu,[0]]) (CellsR.two (E:=eSl eU8) (c:=[.sl b2 0 pu.length 1]) (d:=[.sl b3 0 1 1]) ⟨_,rfl,Be2 g2 rfl⟩ ⟨_,rfl,Be2 g3 rfl⟩)
 have w3:WF A3:=((f1.then0 f2).then0 f3).wf hw
 have aw0:Away m0 A4 (some b4):=Away.fr (fo:=none) (fun b q=>q.elim) w3 on0 f4 (.inr ⟨rfl,b4,rfl,by omega⟩)
 simp only [RT,Q0,Q1,Q2,Q3,Q4,Q5,Q6,Q7,Q8,Bb8,<- e1,<- hb1,hcv,<- hb2,<- e2,B43,<- hb3,<- e3,By9,<- hb4,<- e4,hlen]
 refine Aa6 (fun z e B=>∃ (i:Nat) (w:V) (fo:Option Nat) (m':Hp),z=ps.length - i/\i<=ps.length/\e.get 15=.int .i64 i/\e.get 4=.ptr b1 0/\e.get 13=v/\e.get 14=.int .i64 ps.length/\e.get 5=w/\Fr S0 A B/\B.blk[b1]?=some ⟨bc z32s,.var⟩/\m.le m'/\m'.on B/\Away m' B fo/\Lst (eSl eU8) m' B w (pu::[0]::forB (ps.take i)) fo/\∀ f,fo=some f->A.blk.length<=f)
  (fun z e B=>Is z (.exit 0)/\∃ (w:V) (fo:Option Nat) (m':Hp),e.get 4=.ptr b1 0/\e.get 5=w/\Fr S0 A B/\B.blk[b1]?=some ⟨bc z32s,.var⟩/\m'.on B/\Lst (eSl eU8) m' B w (pu::[0]::forB ps) fo/\Away m' B fo)
  ⟨_,0,_,some b4,m0,rfl,by omega,rfl,rfl,rfl,rfl,rfl,f14,f4.row0 (f3.row0 (f2.row0 r1)),le0,on0.fr0 f4,aw0,hL0,fun f q=>by cases q;omega⟩ ?_ ?_
 . rintro z e B ⟨i, w, fo, m', rfl, hi, h15, h4, h13, h14, h5, hf, rB, le1, on1, aw1, hL, hfo⟩
   simp only [RT,Q0,Q1,Q2,Q3,Q4,Q5,Q6,Q7,Q8,h15,h14]
   refine Aa7 (fun q1=>?_) (fun q1=>?_)
   rotate_left
   . have : i = ps.length := by omega
     subst this
     rw [List.take_length]at hL
     simp only [RT,Q0,Q1,Q2,Q3,Q4,Q5,Q6,Q7,Q8]
     exact ⟨rfl,w,fo,m',h4,h5,hf,rB,on1,hL,aw1⟩
   obtain ⟨p,hp⟩:=Ag4 (l:=ps) (i:=i) (by omega)
   have hpl:=hl p (List.mem_of_getElem? hp)
   obtain ⟨b,o,c,g3,g4,g5⟩:=hs.at (P:=Try.prog) (k:=.i64) (hm.fr0 hf) Try.underlying26 B18 BO4 hp
   rw [BU3]at g5
   have hcl:=fun B=>g5.len (P:=Try.prog) Try.underlying24 B
   have wB:=hf.wf hw
   obtain ⟨b5,hb5⟩:∃ b,b=B.blk.length:=⟨_,rfl⟩
   obtain ⟨C,e5⟩:∃ X,X=B.push ⟨bc (len4 p.length),.arr b5 0⟩:=⟨_,rfl⟩
   obtain ⟨b6,hb6⟩:∃ b,b=C.blk.length:=⟨_,rfl⟩
   obtain ⟨D,e6⟩:∃ X,X=C.push ⟨[.sl b5 0 4 1,c],.arr b6 0⟩:=⟨_,rfl⟩
   have f5:Fr S0 B C:=by rw [e5,hb5];exact Fr.pushArr B _
   have f6:Fr S0 C D:=by rw [e6,hb6];exact Fr.pushArr C _
   have r5:C.blk[b5]?=some ⟨bc (len4 p.length),.arr b5 0⟩:=by rw [e5,hb5];exact Ab8 B _
   have r6:D.blk[b6]?=some ⟨[.sl b5 0 4 1,c],.arr b6 0⟩:=by rw [e6,hb6];exact Ab8 C _
   have n5:C.blk.length=b5+1:=by rw [e5,Ac1,hb5]
   have on2:=(on1.fr0 f5).fr0 f6
   obtain ⟨m2,hm2⟩:∃ x,x=(m'.put b5 (bc (len4 p.length))).put b6 [.sl b5 0 4 1,c]:=⟨_,rfl⟩
   have q5:m' b5=none:=on1.fresh (by omega)
   have q6:(m'.put b5 (bc (len4 p.length))) b6=none:=by unfold Hp.put;rw [if_neg (by omega)];exact on1.fresh (by omega)
   have le2:m'.le m2:=by rw [hm2];exact Hp.le_trans (Hp.le_put q5) (Hp.le_put q6)
   have on3:m2.on D:=by rw [hm2];exact (on2.put (f6.row0 r5)).put r6
   have y5:m2 b5=some (bc (len4 p.length)):=by rw [hm2];unfold Hp.put;rw [if_neg (by omega),if_pos rfl]
   have y6:m2 b6=some [.sl b5 0 4 1,c]:=by rw [hm2];exact Hp.put_get _ _ _
   have hs2:Slc (eSl eU8) m2 (.sl b6 0 2 1) [len4 p.length,p]:=Cc3 y6 rfl rfl fun j z hz=>by
    match j,hz with
    | 0,hz=>cases hz;exact ⟨_,rfl,Be2 y5 rfl⟩
    | 1,hz=>cases hz;exact ⟨_,rfl,g5.mono (Hp.le_trans le1 le2)⟩
    | j+2,hz=>simp at hz
   have hL2:=(hL.fr0 (f5.then0 f6)).mono le2
   have fBD:=f5.then0 f6
   have fAD:=hf.then0 fBD
   have wD:=fAD.wf hw
   have aw2:Away m2 D fo:=fun b q=>by
    have hq:=q
    have e0:∀ b,b≠b5->b≠b6->m2 b=m' b:=fun b z1 z2=>by rw [hm2];unfold Hp.put;rw [if_neg z2,if_neg z1]
    have fam:∀ f,fo=some f->f < b5:=fun f z=>by have:=hL.famLt f z;omega
    by_cases z5:b=b5
    . exfalso
      cases fo with
      | none=>exact hq
      | some f =>
       obtain ⟨k,base,y1,y2⟩:=hq
       rw [z5,f6.row0 r5]at y1;cases y1;cases y2
       exact absurd (fam b5 rfl) (by omega)
    by_cases z6:b=b6
    . exfalso
      cases fo with
      | none=>exact hq
      | some f =>
       obtain ⟨k,base,y1,y2⟩:=hq
       rw [z6,r6]at y1;cases y1;cases y2
       exact absurd (fam b6 rfl) (by omega)
    rw [e0 b z5 z6]
    rcases Ad5 fBD q with q | q
    . exact aw1 b q
    . exact on1.fresh q
   obtain ⟨cs',s1,s2⟩:=hs2.src (P:=Try.prog) (tx:=26) Try.underlying26 on3
   have hll:(pu::[0]::forB (ps.take i)).length=2+2 * i:=by rw [List.length_cons,List.length_cons,A39,List.length_take,Nat.min_eq_left hi];omega
   obtain ⟨w',E,fo',p1,p2,p3,p4⟩:=hL2.app (P:=Try.prog) (t:=26) (tx:=26) Ck1 wD s1 s2 (by rw [hll];simp;omega) (by rw [hll];simp;omega)
   have hfE:Fr S0 A E:=fAD.newFam hw p3 hfo
   have hcat:(pu::[0]::forB (ps.take i))++[len4 p.length,p]=pu::[0]::forB (ps.take (i+1)):=by rw [Ac4 hp,Be3];rfl
   rw [hcat]at p2
   have wi:IntKind.i64.wrap ((i:Int)+1)=((i+1:Nat):Int):=by rw [Ae4 (by omega)]
   have h24:evShift .shr .i64 (p.length:Int) 24=some (.int .i64 ((p.length / 2 ^ 24:Nat):Int)):=B46 p.length 24 (by decide)
   have h16:evShift .shr .i64 (p.length:Int) 16=some (.int .i64 ((p.length / 2 ^ 16:Nat):Int)):=B46 p.length 16 (by decide)
   have h8:evShift .shr .i64 (p.length:Int) 8=some (.int .i64 ((p.length / 2 ^ 8:Nat):Int)):=B46 p.length 8 (by decide)
   have hb4':bsl Try.prog 24 4 (some [(0,.int .u8 ((UInt8.ofNat (p.length / 2 ^ 24)).toNat:Int)),(1,.int .u8 ((UInt8.ofNat (p.length / 2 ^ 16)).toNat:Int)),(2,.int .u8 ((UInt8.ofNat (p.length / 2 ^ 8)).toNat:Int)),(3,.int .u8 ((UInt8.ofNat p.length).toNat:Int))])=some (.newSl (bc (len4 p.length)) 4 1):=B45 _ _ _ _
   simp only [RT,Q0,Q1,Q2,Q3,Q4,Q5,Q6,Q7,Q8,h13,h15,g3,g4,hcl,h5,AH0,h24,h16,h8,BR6,hb4',<- hb5,<- e5,B44 (AM7 g5),<- hb6,<- e6,p1,wi]
   have on4:m2.on E:=on3.fr p3 aw2
   have aw3:Away m2 E fo':=aw2.fr wD on3 p3 p4
   have rE:=p3.row _ _ (f6.row0 (f5.row0 rB)) (Aa8 (f6.row0 (f5.row0 rB)))
   have hfo':∀ f,fo'=some f->A.blk.length<=f:=fun f q=>by
    rcases p4.or q with y | y
    . exact hfo f y
    . have:=fAD.len;omega
   have le3:=Hp.le_trans le1 le2
   refine ⟨ps.length - (i+1),by omega,i+1,w',fo',m2,rfl,by omega,?_⟩
   and_intros <;> first | rfl | assumption
 . rintro z e B hz ⟨rfl, w, fo, m', h4, h5, hf, rB, on1, hL, aw1⟩
   have hsl:Slc (eSl eU8) (withArr m' B) w (pu::[0]::forB ps):=hL.slc (A80 _ _) fun b cs f base _ q=>AY8 on1 q
   have hfl:(pu::[0]::forB ps).flatten=pu++0::(forB ps).flatten:=by simp
   have hfl2:=AR9 (n:=1000000000) hl
   obtain ⟨_,C,k1,f5,rfl⟩:=A79 (hf.wf hw) (A81 on1) hsl (by rw [hfl,List.length_append,List.length_cons];have:ps.length * (1000000000+4)<=100 * 1000000004:=Nat.mul_le_mul hn (Nat.le_refl _);omega) (by rw [List.length_cons,List.length_cons,A39];omega)
   rw [hfl]at k1
   obtain ⟨D,u1,u2,u3⟩:=BR2 (f5.row0 rB) (by simp [z32s]) (AY3 (pu++0::(forB ps).flatten))
   simp only [RT,Q0,Q1,Q2,Q3,Q4,Q5,Q6,Q7,Q8,h5]
   refine Aa0 k1 ?_
   simp only [RT,Q0,Q1,Q2,Q3,Q4,Q5,Q6,Q7,Q8,h4,u1,ldI u3 (AY3 _)]
   exact ⟨(hf.then0 f5).row_ u2 (by omega),rfl⟩
end
end Go.Sv.Try
namespace Go.Sv
open Go
abbrev DueP:=Int×Int×Int
def dueC (x:DueP):List V:=[.int .i64 x.1,.int .i64 x.2.1,.int .i64 x.2.2]
def eDue:Enc DueP:=⟨3,true,fun _ cs x=>cs=dueC x,fun h=>by rw [h];rfl,fun h=>by simp at h,fun h=>by rw [h];rfl,fun _ h=>h⟩
def delayI (r:Int):Int:=3+2 * max 0 (min r 1000)
theorem Bo3 (r:Int):3<=delayI r/\delayI r<=2003:=by unfold delayI;omega
structure Co where
 rd:Rd
 now:Int
 tim:List DueP
 bat:List (Bts×Bts)
 gave:List Int
 done:Bts
 over:Bool
def timSet (now:Int) (l:List DueP) (r s:Int):List DueP:=if l.length >= 40 then l else l++[(now+delayI r,r,s)]
def coC (rp:Nat) (n me:Int) (h:Int) (now:Int) (tv dv:V) (mb mg:Nat) (over:Bool):List V:=[.ptr rp 0,.int .i64 now,tv,.int .i64 n,.int .i64 me,.int .i64 h,.map mb,.map mg,dv,.bool over]
end Go.Sv
namespace Go.Sv.Try
open Go Go.Proofs
section
variable {A B C:AS} {cb rp mb mg:Nat} {n me h now:Int} {tv dv:V} {over:Bool} {k:BK} {l:List DueP} {ft:Option Nat}
theorem Ao4 (b:Nat):evFieldAddr Try.prog 77 (.ptr b 0) 0=some (.ptr b 0)/\evFieldAddr Try.prog 77 (.ptr b 0) 1=some (.ptr b 1)/\evFieldAddr Try.prog 77 (.ptr b 0) 2=some (.ptr b 3)/\evFieldAddr Try.prog 77 (.ptr b 0) 3=some (.ptr b 4)/\evFieldAddr Try.prog 77 (.ptr b 0) 4=some (.ptr b 5)/\evFieldAddr Try.prog 77 (.ptr b 0) 5=some (.ptr b 6)/\evFieldAddr Try.prog 77 (.ptr b 0) 6=some (.ptr b 7)/\evFieldAddr Try.prog 77 (.ptr b 0) 7=some (.ptr b 8)/\evFieldAddr Try.prog 77 (.ptr b 0) 8=some (.ptr b 9) :=
 ⟨by kernel_rfl,by kernel_rfl,by kernel_rfl,by kernel_rfl,by kernel_rfl,by kernel_rfl,by kernel_rfl,by kernel_rfl,by kernel_rfl⟩
theorem B12 (b:Nat):evFieldAddr Try.prog 75 (.ptr b 1) 0=some (.ptr b 1)/\evFieldAddr Try.prog 75 (.ptr b 1) 1=some (.ptr b 2):=⟨by kernel_rfl,by kernel_rfl⟩
theorem Aq0 (hb:A.blk[cb]?=some ⟨coC rp n me h now tv dv mb mg over,k⟩):evLoad Try.prog 68 (.ptr cb 0) A=some (.ptr rp 0)/\evLoad Try.prog 3 (.ptr cb 1) A=some (.int .i64 now)/\evLoad Try.prog 73 (.ptr cb 2) A=some tv/\evLoad Try.prog 3 (.ptr cb 3) A=some (.int .i64 n)/\evLoad Try.prog 3 (.ptr cb 4) A=some (.int .i64 me)/\evLoad Try.prog 3 (.ptr cb 5) A=some (.int .i64 h)/\evLoad Try.prog 71 (.ptr cb 6) A=some (.map mb)/\evLoad Try.prog 72 (.ptr cb 7) A=some (.map mg)/\evLoad Try.prog 24 (.ptr cb 8) A=some dv/\evLoad Try.prog 4 (.ptr cb 9) A=some (.bool over) :=
 ⟨by rw [Ab3 Cj0 hb];rfl,by rw [Ab3 ag3 hb];rfl,by rw [Ab3 Ca3 hb];rfl,by rw [Ab3 ag3 hb];rfl,by rw [Ab3 ag3 hb];rfl,by rw [Ab3 ag3 hb];rfl,by rw [Ab3 Cj1 hb];rfl,by rw [Ab3 Cj2 hb];rfl,by rw [Ab3 BO4 hb];rfl,by rw [Ab3 ag4 hb];rfl⟩
theorem B47 (hb:A.blk[cb]?=some ⟨coC rp n me h now tv dv mb mg over,.var⟩) {w:V} (hw:w.one=true):∃ A',evStore Try.prog 73 (.ptr cb 2) w A=some A'/\Fr (·=.row cb) A A'/\A'.blk[cb]?=some ⟨coC rp n me h now w dv mb mg over,.var⟩:=by
 obtain ⟨A',s1,s2,s3,s4⟩:=Ac0 (P:=Try.prog) (t:=73) (o:=2) (x:=w) (cs:=[w]) hb (one_cells hw) Cd6 (by simp [coC]) (by simp [hw])
 exact ⟨A',s1,s2,s3⟩
theorem Cf7 (hb:A.blk[cb]?=some ⟨coC rp n me h now tv dv mb mg over,.var⟩) {w:V} (hw:w.one=true):∃ A',evStore Try.prog 24 (.ptr cb 8) w A=some A'/\Fr (·=.row cb) A A'/\A'.blk[cb]?=some ⟨coC rp n me h now tv w mb mg over,.var⟩:=by
 obtain ⟨A',s1,s2,s3,s4⟩:=Ac0 (P:=Try.prog) (t:=24) (o:=8) (x:=w) (cs:=[w]) hb (one_cells hw) B18 (by simp [coC]) (by simp [hw])
 exact ⟨A',s1,s2,s3⟩
theorem BR7 (hb:A.blk[cb]?=some ⟨coC rp n me h now tv dv mb mg over,.var⟩) (w:Bool):∃ A',evStore Try.prog 4 (.ptr cb 9) (.bool w) A=some A'/\Fr (·=.row cb) A A'/\A'.blk[cb]?=some ⟨coC rp n me h now tv dv mb mg w,.var⟩:=by
 obtain ⟨A',s1,s2,s3,s4⟩:=Ac0 (P:=Try.prog) (t:=4) (o:=9) (x:=.bool w) (cs:=[.bool w]) hb rfl sz4 (by simp [coC]) rfl
 exact ⟨A',s1,s2,s3⟩
theorem B48 (hb:A.blk[cb]?=some ⟨coC rp n me h now tv dv mb mg over,.var⟩) (w:Int):∃ A',evStore Try.prog 3 (.ptr cb 1) (.int .i64 w) A=some A'/\Fr (·=.row cb) A A'/\A'.blk[cb]?=some ⟨coC rp n me h w tv dv mb mg over,.var⟩:=by
 obtain ⟨A',s1,s2,s3,s4⟩:=Ac0 (P:=Try.prog) (t:=3) (o:=1) (x:=.int .i64 w) (cs:=[.int .i64 w]) hb rfl sz3 (by simp [coC]) rfl
 exact ⟨A',s1,s2,s3⟩
theorem BA9 (a b:Int):evMM (fun x y=>if y < x then y else x) [.int .i64 a,.int .i64 b]=some (.int .i64 (min a b)):=by
 show foldMM _ _ _ _=_
 simp only [foldMM,if_true]
 congr 2
 split <;> omega
theorem BB0 (a b:Int):evMM (fun x y=>if y > x then y else x) [.int .i64 a,.int .i64 b]=some (.int .i64 (max a b)):=by
 show foldMM _ _ _ _=_
 simp only [foldMM,if_true]
 congr 2
 split <;> omega
theorem A82 (r:Int):EvF Try.prog HH 59 [.int .i64 r] A (.int .i64 (delayI r)) A:=by
 suffices h:∃ w A',EvF Try.prog HH 59 [.int .i64 r] A w A'/\A'=A/\w=.int .i64 (delayI r) by
  obtain ⟨w,A',h,rfl,rfl⟩:=h;exact h
 refine Aa4 rfl Try.func59 (by unfold Try.f59;rfl) Try.ntmps59 (by unfold Try.f59;rfl) (by simp) ?_
 have w1:IntKind.i64.wrap (2 * max 0 (min r 1000))=2 * max 0 (min r 1000):=Ae1 (by omega) (by omega)
 have w2:IntKind.i64.wrap (3+2 * max 0 (min r 1000))=delayI r:=Ae1 (by omega) (by omega)
 simp only [RT,Q0,Q1,Q2,Q3,Q4,Q5,Q6,Q7,Q8,BA9,BB0,w1,w2]
theorem BR8 (a b c:Int):evBuild Try.prog 130 [(0,.int .i64 a),(1,.int .i64 b),(2,.int .i64 c)]=some (.agg (dueC (a,b,c))):=by kernel_rfl
theorem Bz0 (x:DueP):bsl Try.prog 73 1 (some [(0,.agg (dueC x))])=some (.newSl (dueC x) 1 3):=by kernel_rfl
set_option maxRecDepth 10000 in
set_option maxHeartbeats 8000000 in
theorem Bo4 (hw:WF A) (hb:A.blk[cb]?=some ⟨coC rp n me h now tv dv mb mg over,.var⟩) (hl:Lst eDue Hp.emp A tv l ft) (hll:l.length<=100) (hn0:0<=now) (hn:now<=1000000000) (R S:Int) :
 ∃ w A',EvF Try.prog HH 45 [.ptr cb 1,.int .i64 R,.int .i64 S] A w A'/\Fr (fun z=>z=.row cb∨inFamO A ft z) A A'/\∃ tv' ft',A'.blk[cb]?=some ⟨coC rp n me h now tv' dv mb mg over,.var⟩/\Lst eDue Hp.emp A' tv' (timSet now l R S) ft'/\Gr A ft ft':=by
 refine Aa4 rfl Try.func45 (by unfold Try.f45;rfl) Try.ntmps45 (by unfold Try.f45;rfl) (by simp) ?_
 have fa:=B12 cb
 have ld:=Aq0 hb
 have hlen:=fun B=>hl.len (P:=Try.prog) Try.underlying73 B
 by_cases c:(l.length:Int) >= 40
 . simp only [RT, Q0, Q1, Q2, Q3, Q4, Q5, Q6, Q7, Q8, fa, ld, hlen, decide_eq_true c]
   have e:timSet now l R S=l:=by unfold timSet;rw [if_pos (by omega)]
   rw [e]
   exact ⟨.refl _ _,tv,ft,hb,hl,.inl rfl⟩
 have e:timSet now l R S=l++[(now+delayI R,R,S)]:=by unfold timSet;rw [if_neg (by omega)]
 have hd:=Bo3 R
 have wi:IntKind.i64.wrap (now+delayI R)=now+delayI R:=Ae1 (by omega) (by omega)
 obtain ⟨v4,D,ft',p1,p2,p3,p4⟩:=hl.push (P:=Try.prog) (t:=73) (tx:=73) (n:=3) rfl Ce0 Try.underlying73 hw (y:=(now+delayI R,R,S)) (cs':=dueC (now+delayI R,R,S)) rfl (by omega) (by omega)
 have hbD:=p3.row _ _ hb (Aa8 hb)
 obtain ⟨E,s1,s2,s3⟩:=B47 hbD p2.one
 simp only [RT,Q0,Q1,Q2,Q3,Q4,Q5,Q6,Q7,Q8,fa,ld,hlen,decide_eq_false c,BM1,Aa1]
 refine Aa0 (A82 R) ?_
 simp only [RT,Q0,Q1,Q2,Q3,Q4,Q5,Q6,Q7,Q8,Aa1]
 refine ⟨Aa3 (ha:=rfl) rfl ld.2.2.1 rfl (Aa3 (ha:=rfl) rfl ld.2.1 rfl Aa1),?_⟩
 simp only [RT,Q0,Q1,Q2,Q3,Q4,Q5,Q6,Q7,Q8,fa,wi,BR8,Bz0,p1,s1,Aa1]
 rw [<- e]at p2
 exact ⟨p3.mono (fun z q=>.inr q) |>.trans s2 (fun z q=>.inl (.inl q)),v4,ft',s3,p2.fr s2 (.box hbD),p4⟩
set_option maxRecDepth 10000 in
theorem A83 (hb:A.blk[cb]?=some ⟨coC rp n me h now tv dv mb mg over,.var⟩) :
 ∃ w A',EvF Try.prog HH 46 [.ptr cb 1] A w A'/\Fr (·=.row cb) A A'/\A'.blk[cb]?=some ⟨coC rp n me h now .snil dv mb mg over,.var⟩:=by
 refine Aa4 rfl Try.func46 (by unfold Try.f46;rfl) Try.ntmps46 (by unfold Try.f46;rfl) (by simp) ?_
 obtain ⟨E,s1,s2,s3⟩:=B47 (w:=.snil) hb rfl
 simp only [RT,Q0,Q1,Q2,Q3,Q4,Q5,Q6,Q7,Q8,B12 cb,s1]
 exact ⟨s2,s3⟩
end
end Go.Sv.Try
namespace Go.Sv.Try
open Go Go.Proofs
section
variable {A B C:AS} {rp cp:Nat} {r r':Rd} {vb:Nat->Nat} {fk fa:Option Nat}
theorem BR9 (g k:Nat->V):evBuild Try.prog 81 [(0,.agg ((List.range 32).map g)),(1,.agg ((List.range 32).map k))]=some (.agg ((List.range 32).map g++(List.range 32).map k)):=by kernel_rfl
theorem B49 {x y:Bts} (hx:x.length=32) (hy:y.length=32):evBuild Try.prog 81 [(0,.agg (bc x)),(1,.agg (bc y))]=some (.agg (bc (x++y))):=by
 obtain ⟨g,hg⟩:=Ac9 (l:=bc x) (n:=32) (by rw [Aa5,hx])
 obtain ⟨k,hk⟩:=Ac9 (l:=bc y) (n:=32) (by rw [Aa5,hy])
 rw [BA1,hg,hk];exact BR9 g k
theorem Cf8:(zeroT Try.prog 81).bind V.cells=some (bc (z32++z32)):=Cj6
theorem B50 {A:AS} {b:Nat} {x y:Bts} (h:A.blk[b]?=some ⟨bc x,.var⟩) (hx:x.length=64) (hy:y.length=64):∃ A',evStore Try.prog 81 (.ptr b 0) (.agg (bc y)) A=some A'/\Fr (·=.row b) A A'/\A'.blk[b]?=some ⟨bc y,.var⟩:=by
 obtain ⟨A',s1,s2,s3,s4⟩:=Ac0 (P:=Try.prog) (t:=81) (o:=0) (x:=.agg (bc y)) (cs:=bc y) h rfl (by rw [Aa5,hy];exact Cd8) (by rw [Aa5,Aa5];omega) (Ae6 _)
 exact ⟨A',s1,s2,by rw [s3,Ag5 (by rw [Aa5,Aa5,hx,hy])]⟩
theorem Cf9 {A:AS} {b:Nat} {k:BK} {x:Bts} (h:A.blk[b]?=some ⟨bc x,k⟩) (hx:x.length=64):evLoad Try.prog 81 (.ptr b 0) A=some (.agg (bc x)):=At.load h (At.all _) Cj5 Cd8 (by rw [Aa5,hx])
def own (r:Rd) (R:Int):Bts:=getV r.n r.v R 0 r.me++getV r.n r.v R 1 r.me
set_option maxRecDepth 10000 in
set_option maxHeartbeats 8000000 in
theorem Bo5 (hw:WF A) (h:IsRd A rp r cp vb fk fa) (R:Int):∃ w A',EvF Try.prog HH 26 [.ptr rp 0,.int .i64 R] A w A'/\Fr S0 A A'/\w=.agg (bc (own r R)):=by
 refine Aa4 rfl Try.func26 (by unfold Try.f26;rfl) Try.ntmps26 (by unfold Try.f26;rfl) (by simp) ?_
 simp only [RT,Q0,Q1,Q2,Q3,Q4,Q5,Q6,Q7,Q8,Cf8]
 obtain ⟨A1,e1,f1,r1,n1⟩:=Aa9 A (bc (z32++z32))
 rw [<- e1]
 have h1:=h.fr0 f1
 obtain ⟨kv,av,b1,b2,b3⟩:=h1.box
 have ld:=Ao3 b1 h.ok
 obtain ⟨_,A2,k1,k2,rfl⟩:=AM1 h1.cnt R 0 r.me
 have h2:=h1.fr0 k2
 obtain ⟨_,_,c1,_⟩:=h2.box
 have ld2:=Ao3 c1 h.ok
 obtain ⟨_,A3,m1,m2,rfl⟩:=AM1 h2.cnt R 1 r.me
 have l0:=Ao7 (n:=r.n) h.cnt.len R 0 r.me
 have l1:=Ao7 (n:=r.n) h.cnt.len R 1 r.me
 obtain ⟨A4,s1,s2,s3⟩:=B50 (m2.row0 (k2.row0 r1)) (by decide) (y:=getV r.n r.v R 0 r.me++getV r.n r.v R 1 r.me) (by rw [List.length_append,l0,l1])
 simp only [RT,Q0,Q1,Q2,Q3,Q4,Q5,Q6,Q7,Q8,BK3,AC1 rp,ld,Aa1]
 refine Aa0 k1 ?_
 simp only [RT,Q0,Q1,Q2,Q3,Q4,Q5,Q6,Q7,Q8,Aa1]
 refine ⟨Aa3 (ha:=rfl) rfl (ld2.2.2.2.2.2.2.2.2.2.2.2.1) rfl <| Aa3 (ha:=rfl) rfl ld2.2.1 rfl Aa1,?_⟩
 refine Aa0 m1 ?_
 simp only [RT,Q0,Q1,Q2,Q3,Q4,Q5,Q6,Q7,Q8,B49 l0 l1,s1,Cf9 s3 (by rw [List.length_append,l0,l1]),Aa1]
 exact ⟨((f1.then0 k2).then0 m2).row_ s2 (Nat.le_refl _),rfl⟩
end
end Go.Sv.Try
namespace Go.Sv
open Go
def batchT:Bts:=[98,97,116,99,104]
def batchI (b:Bts):Bts:=forH batchT [b]
theorem Ad6 (b:Bts):(batchI b).length=32:=AY3 _
end Go.Sv
namespace Go.Sv.Try
open Go Go.Proofs
section
variable {A B C:AS} {rp cp:Nat} {r r':Rd} {vb:Nat->Nat} {fk fa:Option Nat}
theorem B51 {v:V} (h:v=.snil∨∃ b o n z,v=.sl b o n z):bsl Try.prog 26 1 (some [(0,v)])=some (.newSl [v] 1 1):=by
 rcases h with rfl | ⟨_,_,_,_,rfl⟩ <;> kernel_rfl
theorem Ay2 {m:Hp} {v:V} {b:Bts} (hw:WF A) (hm:m.on A) (hv:Slc eU8 m v b) (hb:b.length<=1000000000) :
 ∃ w A',EvF Try.prog HH 16 [v] A w A'/\Fr S0 A A'/\w=.agg (bc (batchI b)):=by
 refine Aa4 rfl Try.func16 (by unfold Try.f16;rfl) Try.ntmps16 (by unfold Try.f16;rfl) (by simp) ?_
 obtain ⟨A1,e1,f1,r1,n1⟩:=Aa9 A (bc z32s)
 obtain ⟨b1,hb1⟩:∃ b,b=A.blk.length:=⟨_,rfl⟩
 rw [<- hb1]at r1 n1
 obtain ⟨b2,hb2⟩:∃ b,b=A1.blk.length:=⟨_,rfl⟩
 obtain ⟨A2,e2⟩:∃ B,B=A1.push ⟨[v],.arr b2 0⟩:=⟨_,rfl⟩
 have f2:Fr S0 A1 A2:=by rw [e2,hb2];exact Fr.pushArr A1 _
 have r2:A2.blk[b2]?=some ⟨[v],.arr b2 0⟩:=by rw [e2,hb2];exact Ab8 A1 _
 have f12:=f1.then0 f2
 have q2:m b2=none:=hm.fresh (by omega)
 have hs:Slc (eSl eU8) (m.put b2 [v]) (.sl b2 0 1 1) [b]:=Cc3 (Hp.put_get _ _ _) rfl rfl fun i z hz=>by
  match i,hz with
  | 0,hz=>cases hz;exact ⟨_,rfl,hv.mono (Hp.le_put q2)⟩
  | i+1,hz=>simp at hz
 obtain ⟨_,A3,k3,f3,rfl⟩:=AY9 (pu:=batchT) (f12.wf hw) ((hm.fr0 f12).put r2) hs (by decide) (by simp) (fun p hp=>by rw [List.mem_singleton.1 hp];exact hb)
 have k3:EvF Try.prog HH 35 [.str [98,97,116,99,104],.sl b2 0 1 1] A2 (.agg (bc (batchI b))) A3:=k3
 obtain ⟨A4,u1,u2,u3⟩:=BR2 (f3.row0 (f2.row0 r1)) (by simp [z32s]) (Ad6 b)
 simp only [RT,Q0,Q1,Q2,Q3,Q4,Q5,Q6,Q7,Q8,Bb8,<- e1,<- hb1,B51 (AM7 hv),<- hb2,<- e2]
 refine Aa0 k3 ?_
 simp only [RT,Q0,Q1,Q2,Q3,Q4,Q5,Q6,Q7,Q8,u1,ldI u3 (Ad6 b)]
 exact (f12.then0 f3).row_ u2 (by omega)
end
end Go.Sv.Try
namespace Go.Sv
open Go
def offI (r:Rd) (R:Int):Ofr:=if R < 0∨R >= 12 then off0 else r.offers R.toNat
end Go.Sv
namespace Go.Sv.Try
open Go Go.Proofs
section
variable {A B C:AS} {rp cp:Nat} {r r':Rd} {vb:Nat->Nat} {fk fa:Option Nat}
theorem B52 {b:Nat} {x y:Ofr} (h:A.blk[b]?=some ⟨offC x,.var⟩) (hx:x.id.length=32) (hy:y.id.length=32):∃ A',evStore Try.prog 85 (.ptr b 0) (.agg (offC y)) A=some A'/\Fr (·=.row b) A A'/\A'.blk[b]?=some ⟨offC y,.var⟩:=by
 obtain ⟨A',s1,s2,s3,s4⟩:=Ac0 (P:=Try.prog) (t:=85) (o:=0) (x:=.agg (offC y)) (cs:=offC y) h rfl (by rw [Ad0 hy];exact BN8) (by rw [Ad0 hx,Ad0 hy];omega) (AL9 y)
 exact ⟨A',s1,s2,by rw [s3,Ag5 (by rw [Ad0 hx,Ad0 hy])]⟩
theorem BB1 {b:Nat} {k:BK} {x:Ofr} (h:A.blk[b]?=some ⟨offC x,k⟩) (hx:x.id.length=32):evLoad Try.prog 85 (.ptr b 0) A=some (.agg (offC x)):=At.load h (At.all _) Ca4 BN8 (Ad0 hx)
theorem Bz1:evBuild Try.prog 85 []=some (.agg (offC off0)):=by kernel_rfl
theorem AC4 (h:Rok r) (R:Int):(offI r R).id.length=32:=by
 unfold offI;split
 . rfl
 . exact h.offers _
set_option maxRecDepth 10000 in
set_option maxHeartbeats 8000000 in
theorem AE1 (hw:WF A) (h:IsRd A rp r cp vb fk fa) (R:Int):∃ w A',EvF Try.prog HH 28 [.ptr rp 0,.int .i64 R] A w A'/\Fr S0 A A'/\w=.agg (offC (offI r R)):=by
 refine Aa4 rfl Try.func28 (by unfold Try.f28;rfl) Try.ntmps28 (by unfold Try.f28;rfl) (by simp) ?_
 obtain ⟨A1,e1,f1,r1,n1⟩:=Aa9 A (offC off0)
 obtain ⟨b4,hb4⟩:∃ b,b=A.blk.length:=⟨_,rfl⟩
 rw [<- hb4]at r1 n1
 have h0:off0.id.length=32:=rfl
 have hol:=AC4 h.ok R
 obtain ⟨A2,s1,s2,s3⟩:=B52 r1 h0 hol
 by_cases c1:R < 0
 . have e : offI r R = off0 := if_pos (.inl c1)
   rw [e]at s1 s3 hol ⊢
   simp only [RT,Q0,Q1,Q2,Q3,Q4,Q5,Q6,Q7,Q8,BP7,<- hb4,<- e1,decide_eq_true c1,Bz1,s1,BB1 s3 hol]
   exact f1.row_ s2 (by omega)
 by_cases c2:R >= 12
 . have e : offI r R = off0 := if_pos (.inr c2)
   rw [e]at s1 s3 hol ⊢
   simp only [RT,Q0,Q1,Q2,Q3,Q4,Q5,Q6,Q7,Q8,BP7,<- hb4,<- e1,decide_eq_false c1,decide_eq_true c2,Bz1,s1,BB1 s3 hol]
   exact f1.row_ s2 (by omega)
 obtain ⟨i,rfl⟩:=Int.eq_ofNat_of_zero_le (show 0<=R by omega)
 have hi:i < 12:=by omega
 have e:offI r (i:Int)=r.offers i:=if_neg (by omega)
 rw [e]at s1 s3 hol ⊢
 obtain ⟨kv,av,b1,b2,b3⟩:=(h.fr0 f1).box
 have ldo:evLoad Try.prog 85 (.ptr rp (103+i * 34)) A1=some (.agg (offC (r.offers i))):=At.load b1 (B10 h.ok hi) Ca4 BN8 (Ad0 hol)
 simp only [RT,Q0,Q1,Q2,Q3,Q4,Q5,Q6,Q7,Q8,BP7,<- hb4,<- e1,decide_eq_false c1,decide_eq_false c2,AC1 rp,Bb7 hi,ldo,s1,BB1 s3 hol]
 exact f1.row_ s2 (by omega)
set_option maxRecDepth 10000 in
theorem A84 (hw:WF A) (h:IsRd A rp r cp vb fk fa) (R K w:Int):∃ u A',EvF Try.prog HH 31 [.ptr rp 0,.int .i64 R,.int .i64 K,.int .i64 w] A u A'/\Fr S0 A A'/\u=.agg (bc (getV r.n r.v R K w)):=by
 refine Aa4 rfl Try.func31 (by unfold Try.f31;rfl) Try.ntmps31 (by unfold Try.f31;rfl) (by simp) ?_
 obtain ⟨A1,e1,f1,r1,n1⟩:=Aa9 A (bc z32)
 obtain ⟨b4,hb4⟩:∃ b,b=A.blk.length:=⟨_,rfl⟩
 rw [<- hb4]at r1 n1
 have h1:=h.fr0 f1
 obtain ⟨kv,av,b1,b2,b3⟩:=h1.box
 have ld:=Ao3 b1 h.ok
 obtain ⟨_,A2,k1,k2,rfl⟩:=AM1 h1.cnt R K w
 have hl:=Ao7 (n:=r.n) h.cnt.len R K w
 obtain ⟨A3,s1,s2,s3⟩:=AH4 (k2.row0 r1) Ab2 hl
 simp only [RT,Q0,Q1,Q2,Q3,Q4,Q5,Q6,Q7,Q8,A32,<- hb4,<- e1,AC1 rp,ld]
 refine Aa0 k1 ?_
 simp only [RT,Q0,Q1,Q2,Q3,Q4,Q5,Q6,Q7,Q8,s1,Ai5 s3 hl]
 exact (f1.then0 k2).row_ s2 (by omega)
set_option maxRecDepth 10000 in
theorem A85 (hw:WF A) (h:IsRd A rp r cp vb fk fa):∃ u A',EvF Try.prog HH 40 [.ptr rp 0] A u A'/\Fr S0 A A'/\u=.tup [.int .i64 r.valid,.agg (bc r.best)]:=by
 refine Aa4 rfl Try.func40 (by unfold Try.f40;rfl) Try.ntmps40 (by unfold Try.f40;rfl) (by simp) ?_
 obtain ⟨A1,e1,f1,r1,n1⟩:=Aa9 A (bc z32)
 obtain ⟨b4,hb4⟩:∃ b,b=A.blk.length:=⟨_,rfl⟩
 rw [<- hb4]at r1 n1
 have h1:=h.fr0 f1
 obtain ⟨kv,av,b1,b2,b3⟩:=h1.box
 have ld:=Ao3 b1 h.ok
 obtain ⟨A3,s1,s2,s3⟩:=AH4 r1 Ab2 h.ok.best
 simp only [RT,Q0,Q1,Q2,Q3,Q4,Q5,Q6,Q7,Q8,A32,<- hb4,<- e1]
 rw [BL3,Aa2 (by rfl)]
 simp only [RT,Q0,Q1,Q2,Q3,Q4,Q5,Q6,Q7,Q8,AC1 rp,ld,s1,Ai5 s3 h.ok.best]
 exact f1.row_ s2 (by omega)
end
end Go.Sv.Try
