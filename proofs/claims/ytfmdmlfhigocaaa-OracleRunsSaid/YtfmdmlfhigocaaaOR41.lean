/- A part of the proof (O30 O31). -/
import Derived.Test.YtfmdmlfhigocaaaOR39
set_option linter.unusedSimpArgs false
set_option linter.unusedVariables false
open Nat renaming reduceShiftRight → cy, reduceMod → cJ, reduceEqDiff → dV, reduceAdd → fi, reduceBEq → gV
open Int renaming reduceNatCast' → kd
set_option maxRecDepth 100000
set_option maxHeartbeats 80000000
namespace Go.Proofs.Ytfmdmlfhigocaaa
open Go.VL
theorem Q3 (p:eJ) (t:List Int) (hf:p.re.cN=true) (h:dz p t=0) :
  az Try.prog 27 [aE p,.d (an t)] [] λv s=>v=.tu [.rf 0 0 0 0,i64 0]/\s=[dK t (p.re.bq 0) (eF (p.re.bH 0)) 0 (p.re.bH 0).length,fX 0 (aT t (p.re.bH 0) (p.re.bH 0).length)]:=by
 obtain⟨a1,a2,a3⟩:=qh h;obtain⟨b1,b2,b3⟩:=mQ a1;obtain⟨v1,v2,v3,v4,v5⟩:=cT b1;have xh:=lF v4 p.re v5 v1;have hsh:p.re.every Fs=true:=by unfold nW at b3;exact(Bool.and_eq_true_iff.1 b3).2
 have MU:=yA p.re;have h1:=BT p hf;rw[a1]at h1;have JG:=OJ p.re xh hsh 0;have xY:=T3 t (.sc (.pointer none)) p.re xh 0 [] cG;have hLl:=Re.vR p.re 0;have hdP:=Re.H5 p.re 0;rw[ai9,ai0,ai7,hdP,aiW]at xY;clear xh hsh b2 b3 hdP v2 v3 v5 b1 a1 h;cases p with
 |mk re ai aF =>
 simp only at *;generalize re.bH 0=L at *;rw[<- hLl]at JG MU xY;generalize re.bq 0=fI at *;simp only[aE,Re.ah,aiZ,ai2,aiX,ai0,i64,iD,bD,bV]at h1;have Eu:¬(65536:Int)<(t.length:Int):=ae;have jA:=a3;obtain⟨ru,tE⟩:∃ru,aF=ru:=⟨_,rfl⟩
 cases ru with
 |true =>
  refine qV Try.func27 rfl Try.ntmps27 Try.results27 rfl 0 62307562302417931542365956185554679 aj aj ?_;simp only[zI,simprocAttr,-kd,aE,Re.ah,bV,iD,bD,an];refine bO h1 ?_;simp only[zI,simprocAttr,-kd,aE,Re.ah,bV,iD,bD,ne_eq,not_true_eq_false,aiW,Eu,gt_iff_lt,tE];refine ay (λn e s=>∃i:Nat,n=t.length-i/\i<=t.length/\e 1=.d (an t)/\e 2=.rf 0 0 0 0/\e 7=i64 (hU aF)/\e 25=.d (an t)/\e 26=i64 t.length/\e 27=i64 i/\(t.take i).all (eE aF)=true/\s=[⟨0,true,10,[re.cells.map .d++[i64 ai,bV aF]]⟩])
   ⟨_,_,_,bJ.refl,0,rfl,ae,rfl,rfl,by subst tE;rfl,rfl,by first|rfl|(rw[aiW];rfl),rfl,aj,by subst tE;simp [Re.ah re,iD,bD,bV,i64]⟩ ?_
  rintro n e s ⟨i,rfl,hi,q1,q2,q7,Qv,Cs,FD,bK,rfl⟩;have qS:e 25=.d (.sl (t.map λx=>[iD x])):=Qv;rcases ajr i t.length with aB|iA
  ·obtain⟨x,hx⟩:∃x,t[i]?=some x:=bZ aB;have aH:(i:Int)<(t.length:Int):=ae;have hi0:(0:Int)<=(i:Int):=ae;have hT:=bj hx;by_cases c1:x<0
   ·have jZ:t.all (eE aF)=false:=all_false hx (by simp [eE];omega);simp only[zI,simprocAttr,-kd,iD,bD,bV,Re.ah re,aiZ,ai2,q1,q2,q7,qS,Cs,FD,aH,hi0,aB,hx,aiW,aiY,ai3,ai1,c1];first|(rw[jA]at jZ;cases jZ;done)|(all_goals rfl)
   ·by_cases c2:hU aF<x
    ·have jZ:t.all (eE aF)=false:=all_false hx (by simp [eE];omega);simp only[zI,simprocAttr,-kd,iD,bD,bV,Re.ah re,aiZ,ai2,q1,q2,q7,qS,Cs,FD,aH,hi0,aB,hx,aiW,aiY,ai3,ai1,c1,c2,gt_iff_lt];first|(rw[jA]at jZ;cases jZ;done)|(all_goals rfl)
    ·simp only[zI,simprocAttr,-kd,iD,bD,bV,Re.ah re,aiZ,ai2,q1,q2,q7,qS,Cs,FD,aH,hi0,aB,hx,aiW,aiY,ai3,ai1,c1,c2,gt_iff_lt];refine⟨t.length-(i+1),_,_,ae,bJ.refl,i+1,rfl,aB,?_,?_,?_,?_,?_,?_,?_,by simp [Re.ah re,iD,bD,bV,i64]⟩ <;> (try simp only[zU,gV,cy,cJ,dV,reduceIte])
     ·exact q1
     ·exact q2
     ·exact q7
     ·exact Qv
     ·exact Cs
     ·rw[bF _ ae];rfl
     ·rw[hT,akm,bK];simp [eE];omega
  ·have dY:i=t.length:=by omega
   subst dY;simp only[zI,simprocAttr,-kd,iD,bD,bV,Re.ah re,aiZ,ai2,q1,q2,q7,qS,Cs,FD,ajZ,an];refine jb (pre:=[.d (.sl (t.map λx=>[D.sc (Value.int IntKind.i64 x)])),.d (.sc (.pointer none))]) (post:=[.fu []]) 1 1 rfl rfl rfl ?_;refine LW (pre:=[.d (.sl (t.map λx=>[D.sc (Value.int IntKind.i64 x)])),.d (.sc (.pointer none)),.so 2 0 0 0]) (post:=[]) 1 rfl rfl rfl ?_;rw[aq]at xY;simp only[iD,bD]at xY;refine ew [1,2] xY aJ rfl ?_ ?_ ?_ ?_ (r':=.d fI) rfl ?_
   ·have e0:bf [1,2] (gM t (.sc (.pointer none)) 0 0)=⟨0,true,4,[[.d (an t),.d (.sc (.pointer none)),.so 2 0 0 0,.d (.sl [])]]⟩:=by simp [bf,gM,aS,aS.go]
    simp only[aiZ,ai2,ai9,e0,kU];rfl
   ·simp [aS,aS.go]
   ·simp [ak,ak.go]
   ·have e3:bc 2 (gM t (.sc (.pointer none)) 0 0)=true:=by simp [gM,bc,ak]
    simp only[ajS,ajV,ai8,ai9,ai7,fi,e3,nu,aka]
   have e0:∀G n,bf [1,2] (gM t (.sc (.pointer none)) G n)=⟨0,true,4,[[.d (an t),.d (.sc (.pointer none)),.so 2 G 0 n,.d (.sl [])]]⟩:=λG n=>by simp [bf,gM,aS,aS.go]
   simp only[aiZ,ai2,e0,kU,aO,ajw,aju,aiX,ai0];have hLb:L.length<=256:=ae;have ZL:IntKind.i64.wrap ((L.length:Int)-1)=(L.length:Int)-1:=bF _ ae;simp only[zI,simprocAttr,-kd,iD,bD,bV,q1,q2,q7,qS,Cs,FD,ZL];refine⟨⟨ae,ae,ae⟩,?_⟩;refine ay (λn e s=>∃c:Nat,n=L.length-c/\c<=L.length/\e 10=.rf 0 0 0 0/\e 11=i64 ((L.length:Int)-1-c)/\s=[dK t fI (eF L) 0 L.length,fX 0 (aT t L c)])
    ⟨_,_,_,(bJ.K5 [2] 4 ae [10,11]).trans (bJ.Fv [1,3] [10,11] aN),0,rfl,ae,aN,by simp only[ajn,Int.sub_zero];rfl,?_⟩ ?_
   ·exact KP t fI L _
   clear q1 q2 q7 qS Qv Cs FD xY e0;rintro n e s ⟨c,rfl,hc,ji,jh,rfl⟩;by_cases aB:c<L.length
   ·obtain⟨ix,Yl⟩:∃ix:Nat,ix=L.length-1-c:=⟨_,rfl⟩
    have hii:(L.length:Int)-1-c=(ix:Int):=ae;obtain⟨r,⟨p,r1,r2⟩,r3,r4,⟨x,r5,r6⟩,r7⟩:=JG ix ae;obtain rfl:p=ix:=ae;rw[hii]at jh;have i0:(0:Int)<=(p:Int):=ae;have i1:(p:Int)<(L.length:Int):=ae;have i2:p<L.length:=ae;have hpd:(L.map λp=>[p.1.bq p.2])[p]?=some [r.bq p]:=by rw[aiY,r1];rfl
    have Rf:r.bq p=.el [iD r.op,.sl (r.set.map aU),.sl (r.kids.map Re.cells),iD r.mn,iD r.mx,iD r.mode,iD r.n,bD r.neg,.sl [[x.bq (p+1)]],iD p]:=by rw[Re.eK,be r3,r5];rfl
    have hq0:([[x.bq (p+1)]]:List (List D))[0]?=some [x.bq (p+1)]:=rfl;have TJ:=((Re.av r).1 r4).2 x (by rw[r5];simp);have hoc:x.dc<=8191:=by unfold dv at r6;omega
    have LU:=fK t L c;have dZ:=jR t L c;have GO:r.looks=1+x.looks:=by rw[Re.jg,be r3,r5];simp [Re.aV]
    have DP:=vt t (aT t L c) x TJ (p+1) ae (λj h1 h2=>dZ j ae ae);have Vl:aT t L (c+1)=(aT t L c).set p (eS t (aT t L c) r p):=by rw[aT,<- Yl,r1]
    have O6:eS t (aT t L c) r p=(if r.op=7 then iF t (aT t L c) (x.emit (p+1) []++[bW]) else rz t (aT t L c) (x.emit (p+1) []++[bW])).map λb=>b != r.neg:=by unfold eS;rw[r5];rfl
    have eD:=λK hk=>AS (t:=t) (root:=fI) (parts:=eF L) (bg:=0) (nb:=L.length) (Bs:=aT t L c) (E3 TJ) ae (p+1) (K:=K) hk;have Wj:0<(x.emit (p+1) []++[bW]).length:=aj;generalize XF:aT t L (c+1)=Bs2 at *;generalize aT t L c=Bs at *;generalize x.emit (p+1) []++[bW]=C at *;have ki:p<Bs.length:=ae;obtain⟨lo,hlo⟩:∃lo,Bs[p]?=some lo:=bZ ki;simp only[iD,bD]at Rf;generalize x.bq (p+1)=xd at *;simp only[zI,simprocAttr,-kd,iD,bD,bV,dK,eF,ji,jh,i0,i1,i2,hpd,Rf,hq0,aiW,ai1,ai8,ai9,ai7,ge_iff_le];refine⟨aJ,?_⟩;refine eD _ (λb a=>?_);have ZZ:=Lk t fI (eF L) 0 L.length Bs C.length b a C DP LU.symm ae Wj;have hbe:=HM t fI (eF L) 0 L.length Bs C.length b a C DP LU.symm ae Wj;simp only[zI,simprocAttr,-kd,iD,bD,bV,dK,eF,ji,jh,Rf];have aai:∀v:V,[V.d (.sl (lo.map λb=>[bD b]))].length=1:=λ_=>rfl;have X9:(fX 0 Bs).g=0:=rfl;have Vw:(fX 0 Bs).sz=1:=rfl;have M5:(fX 0 Bs).aw=Bs.map λl=>[V.d (.sl (l.map λb=>[bD b]))]:=rfl;have X4:(fX 0 Bs).live=true:=rfl;have hi3:(p:Int)<(L.length:Int):=i1;refine DK (λe s=>e 10=.rf 0 0 0 0/\e 11=i64 p/\e 12=.d (r.bq p)/\s=[dK t fI (eF L) 0 L.length,⟨0,true,1,(Bs.map λl=>[V.d (.sl (l.map λb=>[bD b]))]).set p [.so 3 1 0 (t.length+1)]⟩,cP C.length b a C,cx 1 (if r.op=7 then iF t Bs C else rz t Bs C)]) ?_ ?_ ?_
    ·intro ho B Q hB;simp only[zI,simprocAttr,-kd,iD,bD,bV,ji,jh];refine aX ct.bt ?_;refine aA mix [] [(7,[0,1,2,3],[3]),(8,[1],[]),(9,[1],[1])] aN ?_;simp only[zI,simprocAttr,-kd,iD,bD,bV,ji,jh,dK,aiX,ai0];refine tv ZZ ?_;simp only[zI,simprocAttr,-kd,iD,bD,bV,ji,jh,i0,i1,ki,X9,Vw,M5,X4,ai1,ai7,aiY,hlo,ai3,aiW];refine hB _ _ ⟨?_,?_,?_,?_⟩ <;> (try simp only[zU,gV,cy,cJ,dV,reduceIte])
     ·exact ji
     ·rw[jh]
     ·rw[Rf]
     ·rw[be ho];rfl
    ·intro ho B Q hB;simp only[zI,simprocAttr,-kd,iD,bD,bV,ji,jh];refine aX ct.bt ?_;refine aA mix [] [(7,[0,1,2,3],[3]),(8,[1],[]),(9,[1],[1])] aN ?_;simp only[zI,simprocAttr,-kd,iD,bD,bV,ji,jh,dK,aiX,ai0];refine tv hbe ?_;simp only[zI,simprocAttr,-kd,iD,bD,bV,ji,jh,i0,i1,ki,X9,Vw,M5,X4,ai1,ai7,aiY,hlo,ai3,aiW];refine hB _ _ ⟨?_,?_,?_,?_⟩ <;> (try simp only[zU,gV,cy,cJ,dV,reduceIte])
     ·exact ji
     ·rw[jh]
     ·rw[Rf]
     ·rw[ap ho];rfl
    clear ji jh ZZ hbe eD X9 Vw M5 X4;rintro e s ⟨ji,jh,nS,rfl⟩;have Ip:(if r.op=7 then iF t Bs C else rz t Bs C).length=t.length+1:=by
     split
     ·exact yv _ _ _
     ·exact EP _ _ _
    generalize (if r.op=7 then iF t Bs C else rz t Bs C)=lb at *;have N9:∀v,((Bs.map λl=>[V.d (.sl (l.map λb=>[D.sc (Value.bool b)]))]).set p v)[p]?=some v:=λv=>ajm (by simpa using ki);rw[Rf]at nS;simp only[zI,simprocAttr,-kd,iD,bD,bV,dK,ji,jh,nS,i0,i1,ai1,ai7,N9];refine ay (λn e s=>∃m:Nat,n=t.length+1-m/\m<=t.length+1/\e 10=.rf 0 0 0 0/\e 11=i64 p/\e 12=.d (.el [D.sc (Value.int IntKind.i64 r.op),D.sl (List.map aU r.set),D.sl (List.map Re.cells r.kids),D.sc (Value.int IntKind.i64 r.mn),D.sc (Value.int IntKind.i64 r.mx),D.sc (Value.int IntKind.i64 r.mode),D.sc (Value.int IntKind.i64 r.n),D.sc (Value.bool r.neg),D.sl [[xd]],D.sc (Value.int IntKind.i64 p)])/\e 114=i64 ((t.length+1:Nat):Int)/\e 115=i64 m/\s=[dK t fI (eF L) 0 L.length,⟨0,true,1,(Bs.map λl=>[V.d (.sl (l.map λb=>[bD b]))]).set p [.so 3 1 0 (t.length+1)]⟩,cP C.length b a C,cx 1 (jc r.neg m lb)])
     ⟨_,_,_,bJ.refl,0,rfl,ae,by (try simp only[zU,gV,cy,cJ,dV,reduceIte]);exact ji,by (try simp only[zU,gV,cy,cJ,dV,reduceIte]);exact jh,by (try simp only[zU,gV,cy,cJ,dV,reduceIte]);exact nS,rfl,rfl,by rw[Hl];rfl⟩ ?_
    clear ji jh nS;rintro n e s ⟨m,rfl,hm,ji,jh,nS,IC,Iq,rfl⟩;rcases ajr m (t.length+1) with hmt|iA
    ·obtain⟨y,hy⟩:∃y,lb[m]?=some y:=bZ;have Zy:=J9 (neg:=r.neg) hy;have hfs:=Hb (neg:=r.neg) hy;have YB:=Kp r.neg m lb;have m0:(0:Int)<=(m:Int):=ae;have m1:(m:Int)<((t.length+1:Nat):Int):=ae;have m2:m<(jc r.neg m lb).length:=ae;generalize hF2:jc r.neg (m+1) lb=F2 at *;generalize jc r.neg m lb=F1 at *;simp only[zI,simprocAttr,-kd,iD,bD,bV,dK,cx,ji,jh,nS,IC,Iq,m1,N9,ai1];refine aA mix [25] [] aN ?_;simp only[zI,simprocAttr,-kd,iD,bD,bV,cx,ji,jh,nS,IC,Iq,i0,i1,m0,m1,m2,N9,Zy,ai1,ai7,aiY,ai3,aiW];refine⟨t.length+1-(m+1),_,_,ae,bJ.refl,m+1,rfl,hmt,?_,?_,?_,?_,?_,by rw[hF2,<- hfs,akv];rfl⟩ <;> (try simp only[zU,gV,cy,cJ,dV,reduceIte])
     ·exact ji
     ·exact jh
     ·exact nS
     ·exact IC
     ·rw[bF _ ae];rfl
    ·have TO:m=lb.length:=by omega
     subst TO;rw[LD,<- O6,Ip];have Qf:=sI t Bs r p;rw[O6]at Qf;have wi:IntKind.i64.wrap ((p:Int)-1)=(L.length:Int)-1-((c+1:Nat):Int):=by rw[bF _ ae];omega
     rw[O6];rw[O6]at Vl;generalize (lb.map λb=>b != r.neg)=lf at *;rw[Ip]at Iq;have XH:¬((t.length+1:Nat):Int)<((t.length+1:Nat):Int):=ae;simp only[zI,simprocAttr,-kd,iD,bD,bV,ji,jh,nS,IC,Iq,XH,wi];refine⟨L.length-(c+1),_,_,ae,bJ.drop 2 ae [10,11],c+1,rfl,ae,?_,?_,?_⟩
     ·rw[tg aN]
      (try simp only[zU,gV,cy,cJ,dV,reduceIte])
      rw[ji];rfl
     ·rw[tg aN]
      (try simp only[zU,gV,cy,cJ,dV,reduceIte])
      rfl
     ·have:=O3 t fI (eF L) L.length p (t.length+1) Bs lf Qf (cP C.length b a C);rw[XF,Vl];exact this
   ·have hce:c=L.length:=by omega
    subst hce;have JH:¬(0:Int)<=(L.length:Int)-1-(L.length:Int):=ae;simp only[zI,simprocAttr,-kd,iD,bD,bV,ji,jh,JH,ge_iff_le,tY,zG];refine⟨[0,1],rfl,?_⟩;simp only[mF,aiZ,ai2,aj2,ajW,ka];exact⟨rfl,rfl⟩
 |false =>
  refine qV Try.func27 rfl Try.ntmps27 Try.results27 rfl 0 62307562302417931542365956185554679 aj aj ?_;simp only[zI,simprocAttr,-kd,aE,Re.ah,bV,iD,bD,an];refine bO h1 ?_;simp only[zI,simprocAttr,-kd,aE,Re.ah,bV,iD,bD,ne_eq,not_true_eq_false,aiW,Eu,gt_iff_lt,tE];refine ay (λn e s=>∃i:Nat,n=t.length-i/\i<=t.length/\e 1=.d (an t)/\e 2=.rf 0 0 0 0/\e 7=i64 (hU aF)/\e 25=.d (an t)/\e 26=i64 t.length/\e 27=i64 i/\(t.take i).all (eE aF)=true/\s=[⟨0,true,10,[re.cells.map .d++[i64 ai,bV aF]]⟩])
   ⟨_,_,_,bJ.refl,0,rfl,ae,rfl,rfl,by subst tE;rfl,rfl,by first|rfl|(rw[aiW];rfl),rfl,aj,by subst tE;simp [Re.ah re,iD,bD,bV,i64]⟩ ?_
  rintro n e s ⟨i,rfl,hi,q1,q2,q7,Qv,Cs,FD,bK,rfl⟩;have qS:e 25=.d (.sl (t.map λx=>[iD x])):=Qv;rcases ajr i t.length with aB|iA
  ·obtain⟨x,hx⟩:∃x,t[i]?=some x:=bZ aB;have aH:(i:Int)<(t.length:Int):=ae;have hi0:(0:Int)<=(i:Int):=ae;have hT:=bj hx;by_cases c1:x<0
   ·have jZ:t.all (eE aF)=false:=all_false hx (by simp [eE];omega);simp only[zI,simprocAttr,-kd,iD,bD,bV,Re.ah re,aiZ,ai2,q1,q2,q7,qS,Cs,FD,aH,hi0,aB,hx,aiW,aiY,ai3,ai1,c1];first|(rw[jA]at jZ;cases jZ;done)|(all_goals rfl)
   ·by_cases c2:hU aF<x
    ·have jZ:t.all (eE aF)=false:=all_false hx (by simp [eE];omega);simp only[zI,simprocAttr,-kd,iD,bD,bV,Re.ah re,aiZ,ai2,q1,q2,q7,qS,Cs,FD,aH,hi0,aB,hx,aiW,aiY,ai3,ai1,c1,c2,gt_iff_lt];first|(rw[jA]at jZ;cases jZ;done)|(all_goals rfl)
    ·simp only[zI,simprocAttr,-kd,iD,bD,bV,Re.ah re,aiZ,ai2,q1,q2,q7,qS,Cs,FD,aH,hi0,aB,hx,aiW,aiY,ai3,ai1,c1,c2,gt_iff_lt];refine⟨t.length-(i+1),_,_,ae,bJ.refl,i+1,rfl,aB,?_,?_,?_,?_,?_,?_,?_,by simp [Re.ah re,iD,bD,bV,i64]⟩ <;> (try simp only[zU,gV,cy,cJ,dV,reduceIte])
     ·exact q1
     ·exact q2
     ·exact q7
     ·exact Qv
     ·exact Cs
     ·rw[bF _ ae];rfl
     ·rw[hT,akm,bK];simp [eE];omega
  ·have dY:i=t.length:=by omega
   subst dY;simp only[zI,simprocAttr,-kd,iD,bD,bV,Re.ah re,aiZ,ai2,q1,q2,q7,qS,Cs,FD,ajZ,an];refine jb (pre:=[.d (.sl (t.map λx=>[D.sc (Value.int IntKind.i64 x)])),.d (.sc (.pointer none))]) (post:=[.fu []]) 1 1 rfl rfl rfl ?_;refine LW (pre:=[.d (.sl (t.map λx=>[D.sc (Value.int IntKind.i64 x)])),.d (.sc (.pointer none)),.so 2 0 0 0]) (post:=[]) 1 rfl rfl rfl ?_;rw[aq]at xY;simp only[iD,bD]at xY;refine ew [1,2] xY aJ rfl ?_ ?_ ?_ ?_ (r':=.d fI) rfl ?_
   ·have e0:bf [1,2] (gM t (.sc (.pointer none)) 0 0)=⟨0,true,4,[[.d (an t),.d (.sc (.pointer none)),.so 2 0 0 0,.d (.sl [])]]⟩:=by simp [bf,gM,aS,aS.go]
    simp only[aiZ,ai2,ai9,e0,kU];rfl
   ·simp [aS,aS.go]
   ·simp [ak,ak.go]
   ·have e3:bc 2 (gM t (.sc (.pointer none)) 0 0)=true:=by simp [gM,bc,ak]
    simp only[ajS,ajV,ai8,ai9,ai7,fi,e3,nu,aka]
   have e0:∀G n,bf [1,2] (gM t (.sc (.pointer none)) G n)=⟨0,true,4,[[.d (an t),.d (.sc (.pointer none)),.so 2 G 0 n,.d (.sl [])]]⟩:=λG n=>by simp [bf,gM,aS,aS.go]
   simp only[aiZ,ai2,e0,kU,aO,ajw,aju,aiX,ai0];have hLb:L.length<=256:=ae;have ZL:IntKind.i64.wrap ((L.length:Int)-1)=(L.length:Int)-1:=bF _ ae;simp only[zI,simprocAttr,-kd,iD,bD,bV,q1,q2,q7,qS,Cs,FD,ZL];refine⟨⟨ae,ae,ae⟩,?_⟩;refine ay (λn e s=>∃c:Nat,n=L.length-c/\c<=L.length/\e 10=.rf 0 0 0 0/\e 11=i64 ((L.length:Int)-1-c)/\s=[dK t fI (eF L) 0 L.length,fX 0 (aT t L c)])
    ⟨_,_,_,(bJ.K5 [2] 4 ae [10,11]).trans (bJ.Fv [1,3] [10,11] aN),0,rfl,ae,aN,by simp only[ajn,Int.sub_zero];rfl,?_⟩ ?_
   ·exact KP t fI L _
   clear q1 q2 q7 qS Qv Cs FD xY e0;rintro n e s ⟨c,rfl,hc,ji,jh,rfl⟩;by_cases aB:c<L.length
   ·obtain⟨ix,Yl⟩:∃ix:Nat,ix=L.length-1-c:=⟨_,rfl⟩
    have hii:(L.length:Int)-1-c=(ix:Int):=ae;obtain⟨r,⟨p,r1,r2⟩,r3,r4,⟨x,r5,r6⟩,r7⟩:=JG ix ae;obtain rfl:p=ix:=ae;rw[hii]at jh;have i0:(0:Int)<=(p:Int):=ae;have i1:(p:Int)<(L.length:Int):=ae;have i2:p<L.length:=ae;have hpd:(L.map λp=>[p.1.bq p.2])[p]?=some [r.bq p]:=by rw[aiY,r1];rfl
    have Rf:r.bq p=.el [iD r.op,.sl (r.set.map aU),.sl (r.kids.map Re.cells),iD r.mn,iD r.mx,iD r.mode,iD r.n,bD r.neg,.sl [[x.bq (p+1)]],iD p]:=by rw[Re.eK,be r3,r5];rfl
    have hq0:([[x.bq (p+1)]]:List (List D))[0]?=some [x.bq (p+1)]:=rfl;have TJ:=((Re.av r).1 r4).2 x (by rw[r5];simp);have hoc:x.dc<=8191:=by unfold dv at r6;omega
    have LU:=fK t L c;have dZ:=jR t L c;have GO:r.looks=1+x.looks:=by rw[Re.jg,be r3,r5];simp [Re.aV]
    have DP:=vt t (aT t L c) x TJ (p+1) ae (λj h1 h2=>dZ j ae ae);have Vl:aT t L (c+1)=(aT t L c).set p (eS t (aT t L c) r p):=by rw[aT,<- Yl,r1]
    have O6:eS t (aT t L c) r p=(if r.op=7 then iF t (aT t L c) (x.emit (p+1) []++[bW]) else rz t (aT t L c) (x.emit (p+1) []++[bW])).map λb=>b != r.neg:=by unfold eS;rw[r5];rfl
    have eD:=λK hk=>AS (t:=t) (root:=fI) (parts:=eF L) (bg:=0) (nb:=L.length) (Bs:=aT t L c) (E3 TJ) ae (p+1) (K:=K) hk;have Wj:0<(x.emit (p+1) []++[bW]).length:=aj;generalize XF:aT t L (c+1)=Bs2 at *;generalize aT t L c=Bs at *;generalize x.emit (p+1) []++[bW]=C at *;have ki:p<Bs.length:=ae;obtain⟨lo,hlo⟩:∃lo,Bs[p]?=some lo:=bZ ki;simp only[iD,bD]at Rf;generalize x.bq (p+1)=xd at *;simp only[zI,simprocAttr,-kd,iD,bD,bV,dK,eF,ji,jh,i0,i1,i2,hpd,Rf,hq0,aiW,ai1,ai8,ai9,ai7,ge_iff_le];refine⟨aJ,?_⟩;refine eD _ (λb a=>?_);have ZZ:=Lk t fI (eF L) 0 L.length Bs C.length b a C DP LU.symm ae Wj;have hbe:=HM t fI (eF L) 0 L.length Bs C.length b a C DP LU.symm ae Wj;simp only[zI,simprocAttr,-kd,iD,bD,bV,dK,eF,ji,jh,Rf];have aai:∀v:V,[V.d (.sl (lo.map λb=>[bD b]))].length=1:=λ_=>rfl;have X9:(fX 0 Bs).g=0:=rfl;have Vw:(fX 0 Bs).sz=1:=rfl;have M5:(fX 0 Bs).aw=Bs.map λl=>[V.d (.sl (l.map λb=>[bD b]))]:=rfl;have X4:(fX 0 Bs).live=true:=rfl;have hi3:(p:Int)<(L.length:Int):=i1;refine DK (λe s=>e 10=.rf 0 0 0 0/\e 11=i64 p/\e 12=.d (r.bq p)/\s=[dK t fI (eF L) 0 L.length,⟨0,true,1,(Bs.map λl=>[V.d (.sl (l.map λb=>[bD b]))]).set p [.so 3 1 0 (t.length+1)]⟩,cP C.length b a C,cx 1 (if r.op=7 then iF t Bs C else rz t Bs C)]) ?_ ?_ ?_
    ·intro ho B Q hB;simp only[zI,simprocAttr,-kd,iD,bD,bV,ji,jh];refine aX ct.bt ?_;refine aA mix [] [(7,[0,1,2,3],[3]),(8,[1],[]),(9,[1],[1])] aN ?_;simp only[zI,simprocAttr,-kd,iD,bD,bV,ji,jh,dK,aiX,ai0];refine tv ZZ ?_;simp only[zI,simprocAttr,-kd,iD,bD,bV,ji,jh,i0,i1,ki,X9,Vw,M5,X4,ai1,ai7,aiY,hlo,ai3,aiW];refine hB _ _ ⟨?_,?_,?_,?_⟩ <;> (try simp only[zU,gV,cy,cJ,dV,reduceIte])
     ·exact ji
     ·rw[jh]
     ·rw[Rf]
     ·rw[be ho];rfl
    ·intro ho B Q hB;simp only[zI,simprocAttr,-kd,iD,bD,bV,ji,jh];refine aX ct.bt ?_;refine aA mix [] [(7,[0,1,2,3],[3]),(8,[1],[]),(9,[1],[1])] aN ?_;simp only[zI,simprocAttr,-kd,iD,bD,bV,ji,jh,dK,aiX,ai0];refine tv hbe ?_;simp only[zI,simprocAttr,-kd,iD,bD,bV,ji,jh,i0,i1,ki,X9,Vw,M5,X4,ai1,ai7,aiY,hlo,ai3,aiW];refine hB _ _ ⟨?_,?_,?_,?_⟩ <;> (try simp only[zU,gV,cy,cJ,dV,reduceIte])
     ·exact ji
     ·rw[jh]
     ·rw[Rf]
     ·rw[ap ho];rfl
    clear ji jh ZZ hbe eD X9 Vw M5 X4;rintro e s ⟨ji,jh,nS,rfl⟩;have Ip:(if r.op=7 then iF t Bs C else rz t Bs C).length=t.length+1:=by
     split
     ·exact yv _ _ _
     ·exact EP _ _ _
    generalize (if r.op=7 then iF t Bs C else rz t Bs C)=lb at *;have N9:∀v,((Bs.map λl=>[V.d (.sl (l.map λb=>[D.sc (Value.bool b)]))]).set p v)[p]?=some v:=λv=>ajm (by simpa using ki);rw[Rf]at nS;simp only[zI,simprocAttr,-kd,iD,bD,bV,dK,ji,jh,nS,i0,i1,ai1,ai7,N9];refine ay (λn e s=>∃m:Nat,n=t.length+1-m/\m<=t.length+1/\e 10=.rf 0 0 0 0/\e 11=i64 p/\e 12=.d (.el [D.sc (Value.int IntKind.i64 r.op),D.sl (List.map aU r.set),D.sl (List.map Re.cells r.kids),D.sc (Value.int IntKind.i64 r.mn),D.sc (Value.int IntKind.i64 r.mx),D.sc (Value.int IntKind.i64 r.mode),D.sc (Value.int IntKind.i64 r.n),D.sc (Value.bool r.neg),D.sl [[xd]],D.sc (Value.int IntKind.i64 p)])/\e 114=i64 ((t.length+1:Nat):Int)/\e 115=i64 m/\s=[dK t fI (eF L) 0 L.length,⟨0,true,1,(Bs.map λl=>[V.d (.sl (l.map λb=>[bD b]))]).set p [.so 3 1 0 (t.length+1)]⟩,cP C.length b a C,cx 1 (jc r.neg m lb)])
     ⟨_,_,_,bJ.refl,0,rfl,ae,by (try simp only[zU,gV,cy,cJ,dV,reduceIte]);exact ji,by (try simp only[zU,gV,cy,cJ,dV,reduceIte]);exact jh,by (try simp only[zU,gV,cy,cJ,dV,reduceIte]);exact nS,rfl,rfl,by rw[Hl];rfl⟩ ?_
    clear ji jh nS;rintro n e s ⟨m,rfl,hm,ji,jh,nS,IC,Iq,rfl⟩;rcases ajr m (t.length+1) with hmt|iA
    ·obtain⟨y,hy⟩:∃y,lb[m]?=some y:=bZ;have Zy:=J9 (neg:=r.neg) hy;have hfs:=Hb (neg:=r.neg) hy;have YB:=Kp r.neg m lb;have m0:(0:Int)<=(m:Int):=ae;have m1:(m:Int)<((t.length+1:Nat):Int):=ae;have m2:m<(jc r.neg m lb).length:=ae;generalize hF2:jc r.neg (m+1) lb=F2 at *;generalize jc r.neg m lb=F1 at *;simp only[zI,simprocAttr,-kd,iD,bD,bV,dK,cx,ji,jh,nS,IC,Iq,m1,N9,ai1];refine aA mix [25] [] aN ?_;simp only[zI,simprocAttr,-kd,iD,bD,bV,cx,ji,jh,nS,IC,Iq,i0,i1,m0,m1,m2,N9,Zy,ai1,ai7,aiY,ai3,aiW];refine⟨t.length+1-(m+1),_,_,ae,bJ.refl,m+1,rfl,hmt,?_,?_,?_,?_,?_,by rw[hF2,<- hfs,akv];rfl⟩ <;> (try simp only[zU,gV,cy,cJ,dV,reduceIte])
     ·exact ji
     ·exact jh
     ·exact nS
     ·exact IC
     ·rw[bF _ ae];rfl
    ·have TO:m=lb.length:=by omega
     subst TO;rw[LD,<- O6,Ip];have Qf:=sI t Bs r p;rw[O6]at Qf;have wi:IntKind.i64.wrap ((p:Int)-1)=(L.length:Int)-1-((c+1:Nat):Int):=by rw[bF _ ae];omega
     rw[O6];rw[O6]at Vl;generalize (lb.map λb=>b != r.neg)=lf at *;rw[Ip]at Iq;have XH:¬((t.length+1:Nat):Int)<((t.length+1:Nat):Int):=ae;simp only[zI,simprocAttr,-kd,iD,bD,bV,ji,jh,nS,IC,Iq,XH,wi];refine⟨L.length-(c+1),_,_,ae,bJ.drop 2 ae [10,11],c+1,rfl,ae,?_,?_,?_⟩
     ·rw[tg aN]
      (try simp only[zU,gV,cy,cJ,dV,reduceIte])
      rw[ji];rfl
     ·rw[tg aN]
      (try simp only[zU,gV,cy,cJ,dV,reduceIte])
      rfl
     ·have:=O3 t fI (eF L) L.length p (t.length+1) Bs lf Qf (cP C.length b a C);rw[XF,Vl];exact this
   ·have hce:c=L.length:=by omega
    subst hce;have JH:¬(0:Int)<=(L.length:Int)-1-(L.length:Int):=ae;simp only[zI,simprocAttr,-kd,iD,bD,bV,ji,jh,JH,ge_iff_le,tY,zG];refine⟨[0,1],rfl,?_⟩;simp only[mF,aiZ,ai2,aj2,ajW,ka];exact⟨rfl,rfl⟩
def JB (p:eJ) (t:List Int):List (List Bool):=if dz p t=0 then aT t (p.re.bH 0) (p.re.bH 0).length else []
def uR (Bs:List (List Bool)):V:=.d (.sl (Bs.map λl=>[.sl (l.map λb=>[bD b])]))
def MR (t:List Int) (root parts:D) (Y nb:Nat):VL.Obj:=⟨0,true,4,[[.d (an t),.d root,.d parts,.so Y 0 0 nb]]⟩
theorem uH {p:eJ}{t:List Int} (hf:p.re.cN=true) (h:dz p t=0) {s:List VL.Obj}{K:V->List VL.Obj->Prop}
  (hk:K (.tu [.rf s.length 0 0 0,i64 0]) (s++[MR t (p.re.bq 0) (eF (p.re.bH 0)) (s.length+1) (p.re.bH 0).length,fX 0 (aT t (p.re.bH 0) (p.re.bH 0).length)])) :
  az Try.prog 27 [aE p,.d (an t)] s K:=by
 refine jX (Q3 p t hf h) [] rfl aj (λk o h=>by simp at h) (by cases p;simp [aE,aS,aS.go,Re.ah,i64,bV,iD,bD]) (by cases p;simp [aE,ak,ak.go,Re.ah,i64,bV]) rfl ?_;rintro v s' ⟨rfl,rfl⟩ _;have e1:xa [] s [] [dK t (p.re.bq 0) (eF (p.re.bH 0)) 0 (p.re.bH 0).length,fX 0 (aT t (p.re.bH 0) (p.re.bH 0).length)]=[s.length,s.length+1]:=rfl;rw[e1];have e5:aS [s.length,s.length+1] (.tu [.rf 0 0 0 0,i64 0])=.tu [.rf s.length 0 0 0,i64 0]:=rfl;have e6:∀n a b,bf [s.length,s.length+1] (dK t a b 0 n)=MR t a b (s.length+1) n:=λn a b=>rfl;rw[e5];simp only[ai9,akc,ajQ,ai2,aiZ,e6,fN,aO];exact hk
theorem Md (p:eJ) (t:List Int) (hf:p.re.cN=true) (hl:t.length<=1000000):aM Try.prog 18 [aE p,.d (an t)] (.tu [uR (JB p t),i64 (dz p t)]):=by
 by_cases h:dz p t=0
 ·have hb:JB p t=aT t (p.re.bH 0) (p.re.bH 0).length:=be h;rw[hb,h];have ck:=λs K hk=>uH hf h (s:=s) (K:=K) hk;have LU:=fK t (p.re.bH 0) (p.re.bH 0).length;generalize aT t (p.re.bH 0) (p.re.bH 0).length=Bs at *;generalize (p.re.bH 0).length=n at *;generalize p.re.bq 0=rd at *;generalize eF (p.re.bH 0)=pd at *;clear h hf hb;cases p with
  |mk re ai aF =>
  unfold aE at ck;simp only[Re.ah,aiZ,ai2,aiX,ai0,i64,iD,bD,bV,an]at ck;refine bk Try.func18 Try.ntmps18 Try.results18 0 247 ?_;simp only[zI,simprocAttr,aE,Re.ah,bV,iD,bD,an,uR];refine ck _ _ ?_;simp only[zQ,simprocAttr,an,uR,MR,ai8,ai9,ai7,aiX,ai0,ne_eq,not_true_eq_false];have hg:(fX 0 Bs).g=0:=rfl;have he:(fX 0 Bs).aw=(Bs.map λl=>[D.sl (l.map λb=>[D.sc (Value.bool b)])]).map λc=>c.map V.d:=by rw[ajL];rfl
  have tO:(fX 0 Bs).aw.length=n:=by rw[he];simpa using LU
  rw[tO,be ⟨hg,ajc _⟩,he,g9 7 0 _ _ _ cG];rfl
 ·have hb:JB p t=[]:=ap h;rw[hb];have he:=Av p t hf h hl;generalize dz p t=se at *;clear hf hb;cases p with
  |mk re ai aF =>
  unfold aE at he;simp only[Re.ah,aiZ,ai2,aiX,ai0,i64,iD,bD,bV,an]at he;refine bk Try.func18 Try.ntmps18 Try.results18 0 247 ?_;simp only[zI,simprocAttr,aE,Re.ah,bV,iD,bD,an,uR];refine bO he ?_;simp only[zQ,simprocAttr,an,uR,ne_eq,h,not_false_eq_true];all_goals rfl
end Go.Proofs.Ytfmdmlfhigocaaa
