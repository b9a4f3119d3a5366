/- A part of the proof (O71 O72 Vu Vx). -/
import Derived.ProofKit
import Derived.OpenShut
import Derived.Test.YtfmdmlfhigocaaaOR12
import Derived.Test.YtfmdmlfhigocaaaOR44
import Derived.Test.YtfmdmlfhigocaaaOR54
set_option linter.unusedSimpArgs false
set_option linter.unusedVariables false
open Nat renaming reduceShiftRight → cy, reduceMod → cJ, reduceEqDiff → dV, reduceBEq → gV
open Int renaming reduceNatCast' → kd
set_option maxRecDepth 100000
set_option maxHeartbeats 80000000
namespace Go.Proofs.Ytfmdmlfhigocaaa
open Go.VL
variable{t:List Int}{p:eJ}
theorem Ki {t:List Int}{Bs:List (List Bool)}{C:List au}{b c:Nat}:∀(k p:Nat) (st:eG) (gb:Nat) (fO:Option kA),(∀m,fO=some m->m.c.length=c)->∀m,(nZ t Bs C b c k p st gb fO).1=some m->m.c.length=c
 |0,_,_,_,_,h=>h
 |k+1,p,st,gb,fO,h=>by
  rw[nZ];split
  ·exact h
  ·refine Ki k _ _ _ _ (λm hm=>?_);unfold rb at hm;split at hm
   ·cases hm;simp [Ja]
   ·exact h m hm
theorem Kq{Bs:List (List Bool)}{C:List au}{p c:Nat}:∀m,(gk t Bs C p c).1=some m->m.c.length=c:=Ki _ _ _ _ _ (λm hm=>by cases hm)
theorem ET (ht:t.length<=65536) (CS:t.all (eE p.aF)=true):dz p t=fj p:=by
 rw[z9];unfold dz;by_cases h:Ct p=0
 ·rw[ap (by rw[h];simp),bd,ap (by rw[CS];simp),h]
 ·rw[be h]
theorem G8 (ht:t.length<=65536) (CS:t.all (eE p.aF)=true) (hc:x8 p t=true) (ha:fj p=0) {i:Int} (h0:0<=i) (h1:i<=t.length) :
  gU p t i (-1) 20000=0/\∀f,20000<=f->f<=1099511627776->gU p t i 1 f=0/\allM p t i 1 f=(allM p t i (-1) 20000).take 1/\jI p t i 1 f<=20000:=by
 have hv:cz p=0:=by rw[z9]at ha;exact(mQ ha).1
 unfold x8 at hc;rw[hv,show decide ((0:Int)≠0)=false from rfl,ajx,ajo]at hc;have hE:=of_decide_eq_true (hc i.toNat (List.mem_range.2 ae));rw[Int.toNat_of_nonneg h0]at hE;refine⟨hE,λf f0 f1=>?_⟩;obtain⟨p1,p2,p3⟩:=NC (n:=1) (ajc _) hE;have ck:=zf hE;have p1:gU p t i 1 20000=0:=p1;have p2:allM p t i 1 20000=(allM p t i (-1) 20000).take 1:=p2;have p3:jI p t i 1 20000<=jI p t i (-1) 20000:=p3;obtain⟨f1',f2,f3,_⟩:=Rw (f':=f) p1 ae f1;exact⟨f1',f2.trans p2,ae⟩
theorem SL (ht:t.length<=65536) (CS:t.all (eE p.aF)=true) (hc:x8 p t=true) (x:Int):tm p t x=yT p t x/\Fh p t x=CM p t x:=by
 have hs:=ET ht CS;unfold tm Fh yT CM;by_cases ha:fj p=0
 ·rw[hs,ha];simp only[ne_eq,not_true_eq_false,false_or,if_false];by_cases hx:x<0\/(t.length:Int)<x
  ·have Wt:dp p t 1099511627776=0:=by
    have hv:cz p=0:=by rw[z9]at ha;exact(mQ ha).1
    unfold dp;rw[ap (by rw[hv];simp),bd,ap (by rw[CS];simp),bd]
   have hE:gU p t x 1 1099511627776=5:=by unfold gU;rw[ap (by rw[Wt];simp),be hx]
   have hM:allM p t x 1 1099511627776=[]:=by unfold allM;rw[ap (by rw[hE];simp)]
   rw[be hx,be hx,hE,hM];exact⟨rfl,rfl⟩
  ·obtain⟨_,hE⟩:=G8 ht CS hc ha (i:=x) ae ae;obtain⟨e1,_,_⟩:=hE 1099511627776 ae ae;rw[ap hx,ap hx,e1];exact⟨DA (hs.trans ha) ae ae e1,rfl⟩
 ·rw[hs,be (.inl ha),be ha,be ha,be ha];exact⟨rfl,rfl⟩
theorem OC (ht:t.length<=65536) (CS:t.all (eE p.aF)=true) (hc:x8 p t=true):pj p t=(A3 p t).1/\dz p t=(A3 p t).2:=by
 have hs:=ET ht CS;unfold A3 pj;by_cases ha:fj p=0
 ·rw[hs,ha];simp only[ne_eq,not_true_eq_false,if_false];have hv:cz p=0:=by rw[z9]at ha;exact(mQ ha).1
  have Wt:dp p t 1099511627776=0:=by unfold dp;rw[ap (by rw[hv];simp),bd,ap (by rw[CS];simp),bd]
  have key:∀(n i:Nat) (s:Int),i+n=t.length+1->0<=s->s<=i*20000->∃X,FX p t 1099511627776 n i s=some X/\gG t (aT t (p.re.bH 0) (p.re.bH 0).length) (jG p) p.ai.toNat (t.length+1)=gG t (aT t (p.re.bH 0) (p.re.bH 0).length) (jG p) p.ai.toNat i++X:=by
   intro n;induction n with
   |zero =>
    intro i s hi _ _;have:i=t.length+1:=ae;subst this;exact⟨[],rfl,by rw[List.append_nil]⟩
   |succ n ih =>
    intro i s hi s0 s1;obtain⟨_,hE⟩:=G8 ht CS hc ha (i:=(i:Int)) ae ae;obtain⟨e1,e2,e3⟩:=hE (1099511627776-s) ae ae;have hN:=zf e1;obtain⟨X,h1,h2⟩:=ih (i+1) (s+jI p t i 1 (1099511627776-s)) ae ae (by push_cast;omega);have aa9:=DA (hs.trans ha) (i:=(i:Int)) ae ae e1;rw[ai1]at aa9;refine⟨NT i (allM p t i 1 (1099511627776-s))++X,?_,?_⟩
    ·rw[FX,ap (by rw[e1];simp)];rw[show ((i:Int)+1)=((i+1:Nat):Int) by push_cast;rfl,h1];rfl
    ·rw[h2,BU,aa9,ajq];congr 2;have tN:(allM p t i 1 (1099511627776-s)).length<=1:=by rw[e2];simp;omega
     generalize allM p t i 1 (1099511627776-s)=M at *
     match M,tN with
     |[],_=>rfl
     |[y],_=>rfl
  obtain⟨X,h1,h2⟩:=key (t.length+1) 0 0 ae ae ae;have h0:gG t (aT t (p.re.bH 0) (p.re.bH 0).length) (jG p) p.ai.toNat 0=[]:=rfl;rw[h2,h0,ai0];unfold Qo;rw[ap (by rw[Wt];simp)];have h1:FX p t 1099511627776 (t.length+1) 0 0=some X:=h1;rw[h1];exact⟨rfl,rfl⟩
 ·rw[hs,be ha,be ha];exact⟨rfl,rfl⟩
theorem Yv{x:Int}:(Lx (tm p t x)).c.length<=1000000000:=by
 unfold tm;split
 ·exact Nat.zero_le _
 ·rename_i h;have hv:dz p t=0:=Decidable.not_not.1 λhh=>h (.inl hh);have hR:=rK hv;have h0:=hR.c0;have h1:=hR.c1;cases hr:(gk t (aT t (p.re.bH 0) (p.re.bH 0).length) (jG p) x.toNat p.ai.toNat).1 with
  |none=>exact Nat.zero_le _
  |some m =>
   have:=Kq m hr;show m.c.length<=_;omega
theorem Sv (ht:t.length<=65536):(pj p t).length<=1000000000/\∀m∈pj p t,m.c.length<=1000000000:=by
 unfold pj;split
 ·exact⟨Nat.zero_le _,λm hm=>by cases hm⟩
 ·rename_i h;have hv:dz p t=0:=Decidable.not_not.1 h;have hR:=rK hv;have h0:=hR.c0;have h1:=hR.c1;refine⟨by have:=Dj t (aT t (p.re.bH 0) (p.re.bH 0).length) (jG p) p.ai.toNat (t.length+1);omega,λm hm=>?_⟩;unfold gG at hm;obtain⟨j,_,hj⟩:=List.mem_filterMap.1 hm;have:=Kq m hj;omega
structure Rk (p:eJ):Prop where
 cN:p.re.cN=true
 size:p.re.size<=1000000
 nn:p.re.every (λr=>decide (fx r.n))=true
theorem Rk.of{c:Nat} (h:p.small c) (hc:c<=1000000):Rk p :=
 ⟨ts ae _ h.ev,by have:=h.sz;omega,dN (λr h=>by
  unfold fl at h;rw[aji,decide_eq_true_eq]at h;exact bi h.1.2.2.2.2.2.2) p.re h.ev⟩
theorem Ha.yP (h:Ha p t):p.small 256:=⟨h.small,(cT h.valid).1,h.ai⟩
theorem Vn (h:t.all (eE false)=true) (r:Bool):t.all (eE r)=true:=by
 rw[ajo]at h ⊢;intro x hx;have:=h x hx;cases r with
 |false=>exact this
 |true =>
  unfold eE hU at this ⊢;simp at this ⊢;omega
theorem FK (l m:List Int) (hl:∀x∈l,fx x) (hm:∀x∈m,fx x) (at_ CQ lU:Int) (ha:fx at_) (hh:fx CQ) (hb:fx lU):∃(p q r:eJ) (t:List Int),
  aM Try.prog 6 [.d (an l),.d (an m),i64 at_,i64 CQ,i64 lU] (.tu [.d (.sl [oe p,oe q,oe r]),.d (an t)])/\Rk p/\Rk q/\Rk r/\t.length<=12/\t.all (eE false)=true:=by
 obtain⟨p,t,D7,hS⟩:=QU l m hl hm;obtain⟨q,u,hfit,hQ⟩:=Ej l m hl hm 127 14 ae ae;have ha5:=gQ lU 5 ae hb;have hr5:=zy lU 5 ae hb;have w5:IntKind.i64.wrap (cZ lU 5-1)=cZ lU 5-1:=bF _ ae;obtain⟨r,s1,k1⟩:=QS 256 ae p hS.yP at_ CQ (cZ lU 5-1) ha hh ⟨ae,ae⟩;generalize cZ lU 5=c5 at *;simp only[yr,dE,aiZ,ai2,i64,iD,bD,bV,an]at D7 hfit k1;simp only[i64]at ha5;by_cases aB:u.length<t.length
 ·refine⟨p,q,r,u,?_,.of hS.yP ae,.of hQ.r.yP ae,.of s1 ae,hQ.len,hQ.sym⟩;have aH:(u.length:Int)<(t.length:Int):=ae;simp only[dE];refine bk Try.func6 Try.ntmps6 Try.results6 0 64543 ?_;simp only[zQ,simprocAttr,an];refine bO D7 ?_;simp only[zQ,simprocAttr,an];refine bO hfit ?_;simp only[zQ,simprocAttr,an,aiW,aH];refine aA mix [] [] aN ?_;simp only[zQ,simprocAttr,an];refine bR ha5 rfl rfl ?_;simp only[zQ,simprocAttr,an,w5];refine bR k1 rfl rfl ?_;simp only[zQ,simprocAttr,an];all_goals rfl
 ·refine⟨p,q,r,t,?_,.of hS.yP ae,.of hQ.r.yP ae,.of s1 ae,hS.len,hS.sym⟩;have aH:¬(u.length:Int)<(t.length:Int):=ae;simp only[dE];refine bk Try.func6 Try.ntmps6 Try.results6 0 64543 ?_;simp only[zQ,simprocAttr,an];refine bO D7 ?_;simp only[zQ,simprocAttr,an];refine bO hfit ?_;simp only[zQ,simprocAttr,an,aiW,aH];refine aA mix [] [] aN ?_;simp only[zQ,simprocAttr,an];refine bR ha5 rfl rfl ?_;simp only[zQ,simprocAttr,an,w5];refine bR k1 rfl rfl ?_;simp only[zQ,simprocAttr,an];all_goals rfl
theorem EB (l:List Int) (hl:∀x∈l,fx x) (m:List Int) (hm:∀x∈m,fx x) (at_ CQ lU:Int) (ha:fx at_) (hh:fx CQ) (hb:fx lU) :
  aM Try.prog 3 [.d (an l),.d (an m),i64 at_,i64 CQ,i64 lU] (bV true):=by
 obtain⟨p,q,r,t,N5,hp,hq,hr,QN,hts⟩:=FK l m hl hm at_ CQ lU ha hh hb;have Sh:=Qq;have Jv:=gQ at_ ((t.length:Int)+1) ae ha;have hrr:=zy at_ ((t.length:Int)+1) ae ha;have w1:IntKind.i64.wrap ((t.length:Int)+1)=(t.length:Int)+1:=bF _ ae;generalize cZ at_ ((t.length:Int)+1)=aa at *;have hAL:∀j,j<3->∃Q:eJ,Rk Q/\[oe p,oe q,oe r][j]?=some (oe Q):=by
  intro j hj
  match j,hj with
  |0,_=>exact⟨p,hp,rfl⟩
  |1,_=>exact⟨q,hq,rfl⟩
  |2,_=>exact⟨r,hr,rfl⟩
 have ahu:[oe p,oe q,oe r].length=3:=rfl;generalize [oe p,oe q,oe r]=AL at *;obtain⟨X,hX⟩:∃X:List (List D),X=[[iD 0],[iD aa],[iD t.length],[iD lU]]:=⟨_,rfl⟩
 have hXl:X.length=4:=by rw[hX];rfl
 have hXk:∀k,k<4->∃x:Int,X[k]?=some [iD x]:=by
  intro k hk;rw[hX]
  match k,hk with
  |0,_=>exact⟨_,rfl⟩
  |1,_=>exact⟨_,rfl⟩
  |2,_=>exact⟨_,rfl⟩
  |3,_=>exact⟨_,rfl⟩
 simp only[i64,iD,bD,bV,an]at N5 Jv Sh;clear hp hq hr;refine bk Try.func3 Try.ntmps3 Try.results3 0 67107871 ?_;simp only[zQ,simprocAttr,-kd,an];refine bO N5 ?_;simp only[zQ,simprocAttr,-kd,an];refine ay (λn e s=>∃i:Nat,n=3-i/\i<=3/\e 2=i64 at_/\e 4=i64 lU/\e 11=.d (.sl AL)/\e 12=.d (an t)/\e 13=i64 i/\s=[])
  ⟨_,_,_,bJ.refl,0,rfl,ae,rfl,rfl,rfl,rfl,rfl,rfl⟩ ?_
 clear N5;rintro n e s ⟨i,rfl,hi,q2,q4,jh,nS,Ao,rfl⟩;simp only[an,i64]at nS q2 q4;rcases ajr i 3 with aB|iA
 ·obtain⟨Q,⟨hf,hs,hn⟩,hQ⟩:=hAL i aB;have CS:=Vn hts Q.aF;have ZI:=Uo Q t hf hs ae;have m0:(0:Int)<=(i:Int):=ae;have m1:(i:Int)<(AL.length:Int):=ae;have wc:IntKind.i64.wrap ((i:Int)+1)=((i+1:Nat):Int):=by rw[bF _ ae];rfl
  have uS:=Gz Q t hf ae;have YN:=NJ Q t hf hs hn ae CS;have tE:=λx=>P5 Q t x hf ae;have ZV:=λx=>LS Q t x hf hs hn ae CS;have uw:=λhc=>OC (p:=Q) (t:=t) ae CS hc;have hsr:=λhc x=>SL (p:=Q) (t:=t) ae CS hc x;have hec:=Sv (p:=Q) (t:=t) ae;have Cv:=λx=>Yv (p:=Q) (t:=t) (x:=x);rw[dE]at hQ;simp only[iD,bD]at hQ;cases Zo:x8 Q t with
  |false =>
   rw[Zo]at ZI;simp only[yr,dE,aiZ,ai2,i64,iD,bD,bV,an]at ZI;simp only[zQ,simprocAttr,-kd,an,q2,q4,jh,nS,Ao,m0,m1,hQ,ai1];refine bO ZI ?_;simp only[zQ,simprocAttr,-kd,an,q2,q4,jh,nS,Ao,ajd,wc];refine⟨3-(i+1),_,_,ae,bJ.refl,i+1,rfl,ae,?_,?_,?_,?_,?_,rfl⟩ <;> (try simp only[zU,gV,cy,cJ,dV,reduceIte])
   ·exact q2
   ·exact q4
   ·exact jh
   ·exact nS
  |true =>
   rw[Zo]at ZI;rw[<- (uw Zo).1,<- (uw Zo).2]at YN;have Sx:=λx=>by have h1:=ZV x;rw[<- (hsr Zo x).1,<- (hsr Zo x).2]at h1;exact h1
   have heq:=FU (pj Q t) hec.1 hec.2;have VE:=λx=>KI (Lx (tm Q t x)) (Lx (tm Q t x)) (Cv x);simp only[decide_true]at VE;clear uw hsr ZV hec Cv hn;generalize pj Q t=L at *;generalize dz Q t=E at *;generalize hRR:(λx=>Lx (tm Q t x))=RR;have Qd:∀x,Lx (tm Q t x)=RR x:=λx=>by rw[<- hRR]
   generalize hSS:(λx=>(tm Q t x).isSome)=SS;have US:∀x,(tm Q t x).isSome=SS x:=λx=>by rw[<- hSS]
   simp only[Qd,US]at tE Sx VE;generalize Fh Q t=EE at *;clear hRR hSS Qd US;simp only[yr,dE,aiZ,ai2,i64,iD,bD,bV,an,kA.v]at ZI uS YN tE Sx heq VE;have ee:(E == E)=true:=aj;simp only[zQ,simprocAttr,-kd,an,q2,q4,jh,nS,Ao,m0,m1,hQ,ai1];refine bO ZI ?_;simp only[zQ,simprocAttr,-kd,an,q2,q4,jh,nS,Ao,m0,m1,hQ,ai1,aje];refine bO uS ?_;simp only[zQ,simprocAttr,-kd,an,q2,q4,jh,nS,Ao,m0,m1,hQ,ai1];refine bO YN ?_;simp only[zQ,simprocAttr,-kd,an,q2,q4,jh,nS,Ao,ne_eq,not_true_eq_false];refine bO heq ?_;simp only[zQ,simprocAttr,-kd,an,q2,q4,jh,nS,Ao,aiW,w1,aje];refine bO Jv ?_;simp only[zQ,simprocAttr,-kd,an,q2,q4,jh,nS,Ao,aiW];refine ay (λn e s=>∃k:Nat,n=4-k/\k<=4/\e 2=i64 at_/\e 4=i64 lU/\e 11=.d (.sl AL)/\e 12=.d (an t)/\e 13=i64 i/\e 18=.fu X/\e 19=i64 k/\s=[]) ?_ ?_
   ·refine⟨_,_,_,bJ.refl,0,rfl,ae,?_,?_,?_,?_,?_,?_,?_,rfl⟩ <;> (try simp only[zU,gV,cy,cJ,dV,reduceIte])
    all_goals first|exact q2|exact q4|exact jh|exact nS|exact Ao|(rw[hX];rfl)|rfl
   clear q2 q4 jh nS Ao;rintro n e s ⟨k,rfl,hk,q2,q4,jh,nS,Ao,Wm,YF,rfl⟩;simp only[an,i64]at nS q2 q4 Ao;rcases ajr k 4 with uu|vV
   ·obtain⟨x,hx⟩:=hXk k uu;simp only[iD]at hx;have n0:(0:Int)<=(k:Int):=ae;have n1:(k:Int)<(X.length:Int):=ae;have wk:IntKind.i64.wrap ((k:Int)+1)=((k+1:Nat):Int):=by rw[bF _ ae];rfl
    have ru1:=tE x;have ru2:=Sx x;have re1:=VE x;have bb:(SS x == SS x)=true:=aj;simp only[zQ,simprocAttr,-kd,an,q2,q4,jh,nS,Ao,Wm,YF,n0,n1];refine aX ct.bt ?_;refine aA mix [] [(14,[0],[0]),(15,[0],[0])] aN ?_;simp only[zQ,simprocAttr,-kd,an,q2,q4,jh,nS,Ao,Wm,YF,n0,n1,m0,m1,hQ,hx,hole,ai1];refine bR ru1 rfl rfl ?_;simp only[zQ,simprocAttr,-kd,an,q2,q4,jh,nS,Ao,Wm,YF,n0,n1,m0,m1,hole];refine aX ct.bt ?_;refine aA mix [] [(14,[1],[1]),(15,[1],[1])] aN ?_;simp only[zQ,simprocAttr,-kd,an,q2,q4,jh,nS,Ao,Wm,YF,n0,n1,m0,m1,hQ,hx,hole,ai1];refine bR ru2 rfl rfl ?_;simp only[zQ,simprocAttr,-kd,an,q2,q4,jh,nS,Ao,Wm,YF,n0,n1,m0,m1,hole,ne_eq,not_true_eq_false,bb,aje];refine bO re1 ?_;simp only[zQ,simprocAttr,-kd,an,q2,q4,jh,nS,Ao,Wm,YF,wk,aje];refine⟨4-(k+1),_,_,ae,bJ.cut (s':=[]) 0 (ajc 0) rfl rfl [2,4,11,12,13,18,19] (by simp [bX,aY,ak,q2,q4,jh,nS,Ao,Wm]),k+1,rfl,ae,?_,?_,?_,?_,?_,?_,?_,rfl⟩ <;> (try simp only[zU,gV,cy,cJ,dV,reduceIte])
    ·exact q2
    ·exact q4
    ·exact jh
    ·exact nS
    ·exact Ao
    ·exact Wm
   ·have hke:k=4:=by omega
    subst hke;have n1:¬((4:Nat):Int)<(X.length:Int):=ae;simp only[zQ,simprocAttr,-kd,an,q2,q4,jh,nS,Ao,Wm,YF,n1,wc];refine⟨3-(i+1),_,_,ae,bJ.refl,i+1,rfl,ae,?_,?_,?_,?_,?_,rfl⟩ <;> (try simp only[zU,gV,cy,cJ,dV,reduceIte])
    ·exact q2
    ·exact q4
    ·exact jh
    ·exact nS
 ·have dY:i=3:=by omega
  subst dY;have m1:¬((3:Nat):Int)<(AL.length:Int):=ae;simp only[zQ,simprocAttr,-kd,an,q2,q4,jh,nS,Ao,m1];refine bO Sh ?_;simp only[zQ,simprocAttr,-kd]
end Go.Proofs.Ytfmdmlfhigocaaa
namespace Go.VL
open Go.ChangeShapes Go.WideShapes Go.ChangeAt Go.RowKit
variable{W:World}
def W4:Gh:=⟨λ_=>none,λ_=>False⟩
theorem abc (b:Nat):¬Own W4 [] b:=by
 rintro (h|⟨id,o,base,h1,_⟩)
 ·exact h
 ·simp at h1
theorem Ll (w:World):Inv W4 [] w :=
 ⟨λid o h=>by simp at h,λid lV o o' b base bQ h=>by simp at h,λb h=>h.elim,λid o b base h=>by simp at h⟩
theorem run_pure {P:Program}{f:FuncId}{args:List V}{r:Bool}{vals:Array Value} (h:aM P f args (.d (.sc (.bool r)))) (hv:vals.size=args.length) (hrep:∀(i:Nat) (x:V),args[i]?=some x->aC W4 [] W x (vals.getD i undef)) :
  Calls P f vals W λe w'=>e=.returned (.bool r)/\Below W.heap.size W w':=by
 refine(h.2 W4 W vals (Ll W) hv hrep).mono λe w' ⟨u,v,σ',s',h1,h2,h3,h4,h5,h6⟩=>?_;subst h5;cases h4 with|d h4=>?_
 cases h4 with|sc _ _=>?_
 exact⟨h1,h2.os,h2.tape,h2.output,h2.size,λb hb=>h2.ba b hb (abc b)⟩
theorem H0 (k:IntKind) (n:Int):aC W4 [] W (.d (.sc (.int k n))) (.int k n):=.d (.sc _ rfl)
theorem Tt{a:Addr}{len cap:Nat}{zs:List Int}{k:IntKind} (hl:len<=cap) (hz:zs.length=cap) (rG:∀i,i<zs.length->W.cell? (a.add i)=some (.int k (zs.getD i 0))) :
  aC W4 [] W (.d (.sl ((zs.take len).map λx=>[D.sc (.int k x)]))) (.slice (some a) len cap):=by
 have hlen:((zs.take len).map λx=>[D.sc (Value.int k x)]).length=len:=cG;have aaO:=cY.sl (O:=Own W4 []) (w:=W) ((zs.take len).map λx=>[D.sc (.int k x)]) a cap 1 (λi _=>.int k (zs.getD i 0)) (by rw[hlen];exact hl)
  (λdP=>by
   have:0<len:=by
    rcases Nat.eq_zero_or_pos len with h|h
    ·subst h;simp at dP
    ·exact h
   have:=World.cell?_spot (rG 0 ae);simpa [Addr.add]using this)
  (λe he=>by obtain⟨x,_,rfl⟩:=List.mem_map.1 he;rfl)
  (λi j x hx=>by
   simp only[aiY]at hx;cases hi:(zs.take len)[i]? with
   |none=>simp [hi]at hx
   |some y =>
    simp only[hi,ai3,ajM]at hx;have hj:j=0:=by cases j with|zero=>rfl|succ j=>simp at hx
    subst hj;have hil:i<len/\i<zs.length:=by have:=(List.getElem?_eq_some_iff.1 hi).1;simp at this;omega
    refine⟨?_,abc _⟩;have pZ:=World.cell?_spot (rG 0 ae);have hc:=rG i hil.2;obtain⟨b,off,sp⟩:=a;have ado:sp=none:=by simpa [Addr.add]using pZ
    subst ado;rw[add_plain]at hc;simpa using hc)
  (λi j x hx=>by
   simp only[aiY]at hx;cases hi:(zs.take len)[i]? with
   |none=>simp [hi]at hx
   |some y =>
    simp only[hi,ai3,ajM]at hx;have hj:j=0:=by cases j with|zero=>rfl|succ j=>simp at hx
    subst hj;simp only[ajv,ai5]at hx;subst hx;have hil:i<len/\i<zs.length:=by have:=(List.getElem?_eq_some_iff.1 hi).1;simp at this;omega
    have hy:zs.getD i 0=y:=by rw[ajA,be hil.1]at hi;simp [List.getD,hi]
    rw[hy];exact .sc _ rfl)
 rw[hlen]at aaO;exact .d aaO
open Go.ChangeShapes Go.WideShapes Go.ChangeAt Go.RowKit
theorem Mz {H:Type}{enc:TypeId×Value->H}{P:Program}{W:World}{t e:TypeId}{k:IntKind}{a0:Option Addr}{len cap:Nat}{d:DataW H}{ps:List MemPlace} (ht:P.underlying t=some (.slice e)) (he:P.underlying e=some (.int k)) (hc:P.cellsOf e=1)
  (h:DataW.Trod enc P W 0 (λ_=>true) true t (.slice a0 len cap) d ps) :
  ∃l:List Int,(∀x∈l,(Lit.int k x).wf=true)/\aC W4 [] W (.d (.sl (l.map λx=>[D.sc (.int k x)]))) (.slice a0 len cap):=by
 obtain⟨afq,hf⟩:=h;rcases open_ints ht he hc hf with ⟨oq,hx⟩|⟨a,agb,pD,zs,oq,_,hl,hm,hz,hx,rG,hwz⟩
 ·simp [Value.cells]at oq;obtain⟨rfl,rfl,rfl⟩:=oq;exact⟨[],λx hx=>by (cases hx),.d .nil⟩
 ·simp [Value.cells]at oq;obtain⟨rfl,rfl,rfl⟩:=oq;simp only[if_true]at hz;exact⟨zs.take len,λx hx=>hwz x (ajT hx),Tt hl hz rG⟩
section
variable {H:Type}{enc:TypeId×Value->H}{P:Program}{w:World}{base:Nat}{spare:Nat->Bool}{held:Bool}
theorem Qa {t0 t1 t2 t3 t4:TypeId}{args:Array Value}{ds:List (DataW H)}{ps:List MemPlace} (h:DataW.TrodAll enc P w base spare held [t0,t1,t2,t3,t4] args.toList ds ps) :
  ∃v0 v1 v2 v3 v4 d0 d1 d2 d3 d4 p0 p1 p2 p3 p4,args=#[v0,v1,v2,v3,v4]/\ds=[d0,d1,d2,d3,d4]/\ps=p0++p1++p2++p3++p4/\DataW.Trod enc P w base spare held t0 v0 d0 p0/\DataW.Trod enc P w base spare held t1 v1 d1 p1/\DataW.Trod enc P w base spare held t2 v2 d2 p2/\DataW.Trod enc P w base spare held t3 v3 d3 p3/\DataW.Trod enc P w base spare held t4 v4 d4 p4:=by
 obtain⟨v0,vs0,d0,ds0,p0,q0,kF,rfl,rfl,h0,r0⟩:=trodAll_cons h;obtain⟨v1,vs1,d1,ds1,p1,q1,rfl,rfl,rfl,h1,r1⟩:=trodAll_cons r0;obtain⟨v2,vs2,d2,ds2,p2,q2,rfl,rfl,rfl,h2,r2⟩:=trodAll_cons r1;obtain⟨v3,vs3,d3,ds3,p3,q3,rfl,rfl,rfl,h3,r3⟩:=trodAll_cons r2;obtain⟨v4,vs4,d4,ds4,p4,q4,rfl,rfl,rfl,h4,r4⟩:=trodAll_cons r3;obtain⟨rfl,rfl,rfl⟩:=trodAll_nil r4;exact⟨v0,v1,v2,v3,v4,d0,d1,d2,d3,d4,p0,p1,p2,p3,p4,by cases args;simp_all,rfl,aj,h0,h1,h2,h3,h4⟩
end
end Go.VL
