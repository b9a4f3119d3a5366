/- A part of the proof (O30 O31). -/
import Derived.Test.YtjjfioalgbecmaaGreatOQ39
set_option linter.unusedSimpArgs false
set_option linter.unusedVariables false
open Nat renaming reduceShiftRight → jN, reduceMod → oN, reduceEqDiff → oV, reduceAdd → oW, reduceBEq → pZ
open Int renaming reduceNatCast' → D7
set_option maxRecDepth 100000
set_option maxHeartbeats 80000000
namespace Go.Proofs.YtjjfioalgbecmaaGreat
open Go.VL
theorem Qk (p:iM) (t:List Int) (hf:p.re.dx=true) (h:c9 p t=0) :
  ar Tryz.prog 29 [bI p,.d (ao t)] [] λv s=>v=.tu [.rf 0 0 0 0,i64 0]/\s=[dz t (p.re.bk 0) (ef (p.re.bz 0)) 0 (p.re.bz 0).length,fx 0 (aY t (p.re.bz 0) (p.re.bz 0).length)]:=by
 obtain⟨a1,a2,a3⟩:=AB h;obtain⟨b1,b2,b3⟩:=FZ a1;obtain⟨v1,v2,v3,v4,v5⟩:=ed b1;have Q8:=qu v4 p.re v5 v1;have hsh:p.re.every Bn=true:=by unfold mi at b3;exact(Bool.and_eq_true_iff.1 b3).2
 have ON:=NM p.re;have h1:=AS p hf;rw[a1]at h1;have I4:=Vh p.re Q8 hsh 0;have wL:=Uc t (.sc (.pointer none)) p.re Q8 0 [] cC;have hLl:=Re.uT p.re 0;have hdP:=Re.Hv p.re 0;rw[ajX,ajO,ajT,hdP,ajM]at wL;clear Q8 hsh b2 b3 hdP v2 v3 v5 b1 a1 h;cases p with
 |mk re ai aB =>
 simp only at *;generalize re.bz 0=L at *;rw[<- hLl]at I4 ON wL;generalize re.bk 0=fg at *;simp only[bI,Re.ah,ajR,ajV,ajN,ajO,i64,iD,bD,bV]at h1;have C6:¬(65536:Int)<(t.length:Int):=ae;have gL:=a3;obtain⟨ru,yI⟩:∃ru,aB=ru:=⟨_,rfl⟩
 cases ru with
 |true =>
  refine zE Tryz.func29 rfl Tryz.ntmps29 Tryz.results29 rfl 0 62307562302417931542365956185554679 ak ak ?_;simp only[zI,simprocAttr,-D7,bI,Re.ah,bV,iD,bD,ao];refine dY h1 ?_;simp only[zI,simprocAttr,-D7,bI,Re.ah,bV,iD,bD,ne_eq,not_true_eq_false,ajM,C6,gt_iff_lt,yI];refine aw (λn e s=>∃i:Nat,n=t.length-i/\i<=t.length/\e 1=.d (ao t)/\e 2=.rf 0 0 0 0/\e 7=i64 (gH aB)/\e 25=.d (ao t)/\e 26=i64 t.length/\e 27=i64 i/\(t.take i).all (gK aB)=true/\s=[⟨0,true,10,[re.cells.map .d++[i64 ai,bV aB]]⟩])
   ⟨_,_,_,bA.refl,0,rfl,ae,rfl,rfl,by subst yI;rfl,rfl,by first|rfl|(rw[ajM];rfl),rfl,ak,by subst yI;simp [Re.ah re,iD,bD,bV,i64]⟩ ?_
  rintro n e s ⟨i,rfl,hi,q1,q2,q7,PL,Bq,ES,bX,rfl⟩;have pV:e 25=.d (.sl (t.map λx=>[iD x])):=PL;rcases akd i t.length with az|gx
  ·obtain⟨x,hx⟩:∃x,t[i]?=some x:=cc az;have aA:(i:Int)<(t.length:Int):=ae;have hi0:(0:Int)<=(i:Int):=ae;have hT:=bm hx;by_cases c1:x<0
   ·have kT:t.all (gK aB)=false:=all_false hx (by simp [gK];omega);simp only[zI,simprocAttr,-D7,iD,bD,bV,Re.ah re,ajR,ajV,q1,q2,q7,pV,Bq,ES,aA,hi0,az,hx,ajM,List.getElem?_map,ajS,ajP,c1];first|(rw[gL]at kT;cases kT;done)|(all_goals rfl)
   ·by_cases c2:gH aB<x
    ·have kT:t.all (gK aB)=false:=all_false hx (by simp [gK];omega);simp only[zI,simprocAttr,-D7,iD,bD,bV,Re.ah re,ajR,ajV,q1,q2,q7,pV,Bq,ES,aA,hi0,az,hx,ajM,List.getElem?_map,ajS,ajP,c1,c2,gt_iff_lt];first|(rw[gL]at kT;cases kT;done)|(all_goals rfl)
    ·simp only[zI,simprocAttr,-D7,iD,bD,bV,Re.ah re,ajR,ajV,q1,q2,q7,pV,Bq,ES,aA,hi0,az,hx,ajM,List.getElem?_map,ajS,ajP,c1,c2,gt_iff_lt];refine⟨t.length-(i+1),_,_,ae,bA.refl,i+1,rfl,az,?_,?_,?_,?_,?_,?_,?_,by simp [Re.ah re,iD,bD,bV,i64]⟩ <;> (try simp only[zU,pZ,jN,oN,oV,reduceIte])
     ·exact q1
     ·exact q2
     ·exact q7
     ·exact PL
     ·exact Bq
     ·rw[bG _ ae];rfl
     ·rw[hT,akZ,bX];simp [gK];omega
  ·have dX:i=t.length:=by omega
   subst dX;simp only[zI,simprocAttr,-D7,iD,bD,bV,Re.ah re,ajR,ajV,q1,q2,q7,pV,Bq,ES,aku,ao];refine fX (pre:=[.d (.sl (t.map λx=>[D.sc (Value.int IntKind.i64 x)])),.d (.sc (.pointer none))]) (post:=[.fu []]) 1 1 rfl rfl rfl ?_;refine Ll (pre:=[.d (.sl (t.map λx=>[D.sc (Value.int IntKind.i64 x)])),.d (.sc (.pointer none)),.so 2 0 0 0]) (post:=[]) 1 rfl rfl rfl ?_;rw[av]at wL;simp only[iD,bD]at wL;refine cV [1,2] wL aU rfl ?_ ?_ ?_ ?_ (r':=.d fg) rfl ?_
   ·have e0:aN [1,2] (gM t (.sc (.pointer none)) 0 0)=⟨0,true,4,[[.d (ao t),.d (.sc (.pointer none)),.so 2 0 0 0,.d (.sl [])]]⟩:=by simp [aN,gM,aE,aE.go]
    simp only[ajR,ajV,ajX,e0,ki];rfl
   ·simp [aE,aE.go]
   ·simp [aj,aj.go]
   ·have e3:aK 2 (gM t (.sc (.pointer none)) 0 0)=true:=by simp [gM,aK,aj]
    simp only[aks,akB,ajW,ajX,ajT,oW,e3,mI,akV]
   have e0:∀G n,aN [1,2] (gM t (.sc (.pointer none)) G n)=⟨0,true,4,[[.d (ao t),.d (.sc (.pointer none)),.so 2 G 0 n,.d (.sl [])]]⟩:=λG n=>by simp [aN,gM,aE,aE.go]
   simp only[ajR,ajV,e0,ki,aJ,akf,aj9,ajN,ajO];have hLb:L.length<=256:=ae;have WL:IntKind.i64.wrap ((L.length:Int)-1)=(L.length:Int)-1:=bG _ ae;simp only[zI,simprocAttr,-D7,iD,bD,bV,q1,q2,q7,pV,Bq,ES,WL];refine⟨⟨ae,ae,ae⟩,?_⟩;refine aw (λn e s=>∃c:Nat,n=L.length-c/\c<=L.length/\e 10=.rf 0 0 0 0/\e 11=i64 ((L.length:Int)-1-c)/\s=[dz t fg (ef L) 0 L.length,fx 0 (aY t L c)])
    ⟨_,_,_,(bA.Kt [2] 4 ae [10,11]).trans (bA.Dv [1,3] [10,11] cB),0,rfl,ae,cB,by simp only[aka,Int.sub_zero];rfl,?_⟩ ?_
   ·exact Kd t fg L _
   clear q1 q2 q7 pV PL Bq ES wL e0;rintro n e s ⟨c,rfl,hc,jc,mX,rfl⟩;by_cases az:c<L.length
   ·obtain⟨ix,V5⟩:∃ix:Nat,ix=L.length-1-c:=⟨_,rfl⟩
    have hii:(L.length:Int)-1-c=(ix:Int):=ae;obtain⟨r,⟨p,r1,r2⟩,r3,r4,⟨x,r5,r6⟩,r7⟩:=I4 ix ae;obtain rfl:p=ix:=ae;rw[hii]at mX;have i0:(0:Int)<=(p:Int):=ae;have i1:(p:Int)<(L.length:Int):=ae;have i2:p<L.length:=ae;have hpd:(L.map λp=>[p.1.bk p.2])[p]?=some [r.bk p]:=by rw[List.getElem?_map,r1];rfl
    have QB:r.bk p=.el [iD r.op,.sl (r.set.map aT),.sl (r.kids.map Re.cells),iD r.mn,iD r.mx,iD r.mode,iD r.n,bD r.neg,.sl [[x.bk (p+1)]],iD p]:=by rw[Re.ek,be r3,r5];rfl
    have hq0:([[x.bk (p+1)]]:List (List D))[0]?=some [x.bk (p+1)]:=rfl;have AY:=((Re.aD r).1 r4).2 x (by rw[r5];simp);have hoc:x.eC<=8191:=by unfold iR at r6;omega
    have QF:=fV t L c;have fm:=lj t L c;have UK:r.looks=1+x.looks:=by rw[Re.jZ,be r3,r5];simp [Re.ba]
    have Jw:=yX t (aY t L c) x AY (p+1) ae (λj h1 h2=>fm j ae ae);have Vu:aY t L (c+1)=(aY t L c).set p (eS t (aY t L c) r p):=by rw[aY,<- V5,r1]
    have MO:eS t (aY t L c) r p=(if r.op=7 then iE t (aY t L c) (x.emit (p+1) []++[bw]) else zd t (aY t L c) (x.emit (p+1) []++[bw])).map λb=>b != r.neg:=by unfold eS;rw[r5];rfl
    have mM:=λK hk=>zG (t:=t) (root:=fg) (parts:=ef L) (bg:=0) (nb:=L.length) (Bs:=aY t L c) (DG AY) ae (p+1) (K:=K) hk;have WE:0<(x.emit (p+1) []++[bw]).length:=ak;generalize X4:aY t L (c+1)=Bs2 at *;generalize aY t L c=Bs at *;generalize x.emit (p+1) []++[bw]=C at *;have oZ:p<Bs.length:=ae;obtain⟨lo,hlo⟩:∃lo,Bs[p]?=some lo:=cc oZ;simp only[iD,bD]at QB;generalize x.bk (p+1)=xd at *;simp only[zI,simprocAttr,-D7,iD,bD,bV,dz,ef,jc,mX,i0,i1,i2,hpd,QB,hq0,ajM,ajP,ajW,ajX,ajT,ge_iff_le];refine⟨aU,?_⟩;refine mM _ (λb a=>?_);have hah:=KJ t fg (ef L) 0 L.length Bs C.length b a C Jw QF.symm ae WE;have YB:=Hj t fg (ef L) 0 L.length Bs C.length b a C Jw QF.symm ae WE;simp only[zI,simprocAttr,-D7,iD,bD,bV,dz,ef,jc,mX,QB];have aaz:∀v:V,[V.d (.sl (lo.map λb=>[bD b]))].length=1:=λ_=>rfl;have Yt:(fx 0 Bs).g=0:=rfl;have VE:(fx 0 Bs).sz=1:=rfl;have Mj:(fx 0 Bs).au=Bs.map λl=>[V.d (.sl (l.map λb=>[bD b]))]:=rfl;have Yp:(fx 0 Bs).live=true:=rfl;have hi3:(p:Int)<(L.length:Int):=i1;refine Cr (λe s=>e 10=.rf 0 0 0 0/\e 11=i64 p/\e 12=.d (r.bk p)/\s=[dz t fg (ef L) 0 L.length,⟨0,true,1,(Bs.map λl=>[V.d (.sl (l.map λb=>[bD b]))]).set p [.so 3 1 0 (t.length+1)]⟩,cN C.length b a C,cq 1 (if r.op=7 then iE t Bs C else zd t Bs C)]) ?_ ?_ ?_
    ·intro ho B Q hB;simp only[zI,simprocAttr,-D7,iD,bD,bV,jc,mX];refine aX bW.bn ?_;refine cu mix [] [(7,[0,1,2,3],[3]),(8,[1],[]),(9,[1],[1])] ?_;simp only[zI,simprocAttr,-D7,iD,bD,bV,jc,mX,dz,ajN,ajO];refine sh hah ?_;simp only[zI,simprocAttr,-D7,iD,bD,bV,jc,mX,i0,i1,oZ,Yt,VE,Mj,Yp,ajP,ajT,List.getElem?_map,hlo,ajS,ajM];refine hB _ _ ⟨?_,?_,?_,?_⟩ <;> (try simp only[zU,pZ,jN,oN,oV,reduceIte])
     ·exact jc
     ·rw[mX]
     ·rw[QB]
     ·rw[be ho];rfl
    ·intro ho B Q hB;simp only[zI,simprocAttr,-D7,iD,bD,bV,jc,mX];refine aX bW.bn ?_;refine cu mix [] [(7,[0,1,2,3],[3]),(8,[1],[]),(9,[1],[1])] ?_;simp only[zI,simprocAttr,-D7,iD,bD,bV,jc,mX,dz,ajN,ajO];refine sh YB ?_;simp only[zI,simprocAttr,-D7,iD,bD,bV,jc,mX,i0,i1,oZ,Yt,VE,Mj,Yp,ajP,ajT,List.getElem?_map,hlo,ajS,ajM];refine hB _ _ ⟨?_,?_,?_,?_⟩ <;> (try simp only[zU,pZ,jN,oN,oV,reduceIte])
     ·exact jc
     ·rw[mX]
     ·rw[QB]
     ·rw[ap ho];rfl
    clear jc mX hah YB mM Yt VE Mj Yp;rintro e s ⟨jc,mX,B8,rfl⟩;have Ec:(if r.op=7 then iE t Bs C else zd t Bs C).length=t.length+1:=by
     split
     ·exact xk _ _ _
     ·exact Dr _ _ _
    generalize (if r.op=7 then iE t Bs C else zd t Bs C)=lb at *;have Nk:∀v,((Bs.map λl=>[V.d (.sl (l.map λb=>[D.sc (Value.bool b)]))]).set p v)[p]?=some v:=λv=>List.getElem?_set_self (by simpa using oZ);rw[QB]at B8;simp only[zI,simprocAttr,-D7,iD,bD,bV,dz,jc,mX,B8,i0,i1,ajP,ajT,Nk];refine aw (λn e s=>∃m:Nat,n=t.length+1-m/\m<=t.length+1/\e 10=.rf 0 0 0 0/\e 11=i64 p/\e 12=.d (.el [D.sc (Value.int IntKind.i64 r.op),D.sl (List.map aT r.set),D.sl (List.map Re.cells r.kids),D.sc (Value.int IntKind.i64 r.mn),D.sc (Value.int IntKind.i64 r.mx),D.sc (Value.int IntKind.i64 r.mode),D.sc (Value.int IntKind.i64 r.n),D.sc (Value.bool r.neg),D.sl [[xd]],D.sc (Value.int IntKind.i64 p)])/\e 114=i64 ((t.length+1:Nat):Int)/\e 115=i64 m/\s=[dz t fg (ef L) 0 L.length,⟨0,true,1,(Bs.map λl=>[V.d (.sl (l.map λb=>[bD b]))]).set p [.so 3 1 0 (t.length+1)]⟩,cN C.length b a C,cq 1 (iH r.neg m lb)])
     ⟨_,_,_,bA.refl,0,rfl,ae,by (try simp only[zU,pZ,jN,oN,oV,reduceIte]);exact jc,by (try simp only[zU,pZ,jN,oN,oV,reduceIte]);exact mX,by (try simp only[zU,pZ,jN,oN,oV,reduceIte]);exact B8,rfl,rfl,by rw[GR];rfl⟩ ?_
    clear jc mX B8;rintro n e s ⟨m,rfl,hm,jc,mX,B8,HU,HM,rfl⟩;rcases akd m (t.length+1) with hmt|gx
    ·obtain⟨y,hy⟩:∃y,lb[m]?=some y:=cc;have ZS:=Js (neg:=r.neg) hy;have Z9:=Gx (neg:=r.neg) hy;have YU:=JJ r.neg m lb;have m0:(0:Int)<=(m:Int):=ae;have m1:(m:Int)<((t.length+1:Nat):Int):=ae;have m2:m<(iH r.neg m lb).length:=ae;generalize hF2:iH r.neg (m+1) lb=F2 at *;generalize iH r.neg m lb=F1 at *;simp only[zI,simprocAttr,-D7,iD,bD,bV,dz,cq,jc,mX,B8,HU,HM,m1,Nk,ajP];refine cu mix [25] [] ?_;simp only[zI,simprocAttr,-D7,iD,bD,bV,cq,jc,mX,B8,HU,HM,i0,i1,m0,m1,m2,Nk,ZS,ajP,ajT,List.getElem?_map,ajS,ajM];refine⟨t.length+1-(m+1),_,_,ae,bA.refl,m+1,rfl,hmt,?_,?_,?_,?_,?_,by rw[hF2,<- Z9,akT];rfl⟩ <;> (try simp only[zU,pZ,jN,oN,oV,reduceIte])
     ·exact jc
     ·exact mX
     ·exact B8
     ·exact HU
     ·rw[bG _ ae];rfl
    ·have TF:m=lb.length:=by omega
     subst TF;rw[K1,<- MO,Ec];have Sb:=rI t Bs r p;rw[MO]at Sb;have wi:IntKind.i64.wrap ((p:Int)-1)=(L.length:Int)-1-((c+1:Nat):Int):=by rw[bG _ ae];omega
     rw[MO];rw[MO]at Vu;generalize (lb.map λb=>b != r.neg)=lf at *;rw[Ec]at HM;have X6:¬((t.length+1:Nat):Int)<((t.length+1:Nat):Int):=ae;simp only[zI,simprocAttr,-D7,iD,bD,bV,jc,mX,B8,HU,HM,X6,wi];refine⟨L.length-(c+1),_,_,ae,bA.drop 2 ae [10,11],c+1,rfl,ae,?_,?_,?_⟩
     ·rw[sa cB]
      (try simp only[zU,pZ,jN,oN,oV,reduceIte])
      rw[jc];rfl
     ·rw[sa cB]
      (try simp only[zU,pZ,jN,oN,oV,reduceIte])
      rfl
     ·have:=Og t fg (ef L) L.length p (t.length+1) Bs lf Sb (cN C.length b a C);rw[X4,Vu];exact this
   ·have hce:c=L.length:=by omega
    subst hce;have I5:¬(0:Int)<=(L.length:Int)-1-(L.length:Int):=ae;simp only[zI,simprocAttr,-D7,iD,bD,bV,jc,mX,I5,ge_iff_le,Cl,v7];refine⟨[0,1],rfl,?_⟩;simp only[kx,ajR,ajV,akM,akN,ju];exact⟨rfl,rfl⟩
 |false =>
  refine zE Tryz.func29 rfl Tryz.ntmps29 Tryz.results29 rfl 0 62307562302417931542365956185554679 ak ak ?_;simp only[zI,simprocAttr,-D7,bI,Re.ah,bV,iD,bD,ao];refine dY h1 ?_;simp only[zI,simprocAttr,-D7,bI,Re.ah,bV,iD,bD,ne_eq,not_true_eq_false,ajM,C6,gt_iff_lt,yI];refine aw (λn e s=>∃i:Nat,n=t.length-i/\i<=t.length/\e 1=.d (ao t)/\e 2=.rf 0 0 0 0/\e 7=i64 (gH aB)/\e 25=.d (ao t)/\e 26=i64 t.length/\e 27=i64 i/\(t.take i).all (gK aB)=true/\s=[⟨0,true,10,[re.cells.map .d++[i64 ai,bV aB]]⟩])
   ⟨_,_,_,bA.refl,0,rfl,ae,rfl,rfl,by subst yI;rfl,rfl,by first|rfl|(rw[ajM];rfl),rfl,ak,by subst yI;simp [Re.ah re,iD,bD,bV,i64]⟩ ?_
  rintro n e s ⟨i,rfl,hi,q1,q2,q7,PL,Bq,ES,bX,rfl⟩;have pV:e 25=.d (.sl (t.map λx=>[iD x])):=PL;rcases akd i t.length with az|gx
  ·obtain⟨x,hx⟩:∃x,t[i]?=some x:=cc az;have aA:(i:Int)<(t.length:Int):=ae;have hi0:(0:Int)<=(i:Int):=ae;have hT:=bm hx;by_cases c1:x<0
   ·have kT:t.all (gK aB)=false:=all_false hx (by simp [gK];omega);simp only[zI,simprocAttr,-D7,iD,bD,bV,Re.ah re,ajR,ajV,q1,q2,q7,pV,Bq,ES,aA,hi0,az,hx,ajM,List.getElem?_map,ajS,ajP,c1];first|(rw[gL]at kT;cases kT;done)|(all_goals rfl)
   ·by_cases c2:gH aB<x
    ·have kT:t.all (gK aB)=false:=all_false hx (by simp [gK];omega);simp only[zI,simprocAttr,-D7,iD,bD,bV,Re.ah re,ajR,ajV,q1,q2,q7,pV,Bq,ES,aA,hi0,az,hx,ajM,List.getElem?_map,ajS,ajP,c1,c2,gt_iff_lt];first|(rw[gL]at kT;cases kT;done)|(all_goals rfl)
    ·simp only[zI,simprocAttr,-D7,iD,bD,bV,Re.ah re,ajR,ajV,q1,q2,q7,pV,Bq,ES,aA,hi0,az,hx,ajM,List.getElem?_map,ajS,ajP,c1,c2,gt_iff_lt];refine⟨t.length-(i+1),_,_,ae,bA.refl,i+1,rfl,az,?_,?_,?_,?_,?_,?_,?_,by simp [Re.ah re,iD,bD,bV,i64]⟩ <;> (try simp only[zU,pZ,jN,oN,oV,reduceIte])
     ·exact q1
     ·exact q2
     ·exact q7
     ·exact PL
     ·exact Bq
     ·rw[bG _ ae];rfl
     ·rw[hT,akZ,bX];simp [gK];omega
  ·have dX:i=t.length:=by omega
   subst dX;simp only[zI,simprocAttr,-D7,iD,bD,bV,Re.ah re,ajR,ajV,q1,q2,q7,pV,Bq,ES,aku,ao];refine fX (pre:=[.d (.sl (t.map λx=>[D.sc (Value.int IntKind.i64 x)])),.d (.sc (.pointer none))]) (post:=[.fu []]) 1 1 rfl rfl rfl ?_;refine Ll (pre:=[.d (.sl (t.map λx=>[D.sc (Value.int IntKind.i64 x)])),.d (.sc (.pointer none)),.so 2 0 0 0]) (post:=[]) 1 rfl rfl rfl ?_;rw[av]at wL;simp only[iD,bD]at wL;refine cV [1,2] wL aU rfl ?_ ?_ ?_ ?_ (r':=.d fg) rfl ?_
   ·have e0:aN [1,2] (gM t (.sc (.pointer none)) 0 0)=⟨0,true,4,[[.d (ao t),.d (.sc (.pointer none)),.so 2 0 0 0,.d (.sl [])]]⟩:=by simp [aN,gM,aE,aE.go]
    simp only[ajR,ajV,ajX,e0,ki];rfl
   ·simp [aE,aE.go]
   ·simp [aj,aj.go]
   ·have e3:aK 2 (gM t (.sc (.pointer none)) 0 0)=true:=by simp [gM,aK,aj]
    simp only[aks,akB,ajW,ajX,ajT,oW,e3,mI,akV]
   have e0:∀G n,aN [1,2] (gM t (.sc (.pointer none)) G n)=⟨0,true,4,[[.d (ao t),.d (.sc (.pointer none)),.so 2 G 0 n,.d (.sl [])]]⟩:=λG n=>by simp [aN,gM,aE,aE.go]
   simp only[ajR,ajV,e0,ki,aJ,akf,aj9,ajN,ajO];have hLb:L.length<=256:=ae;have WL:IntKind.i64.wrap ((L.length:Int)-1)=(L.length:Int)-1:=bG _ ae;simp only[zI,simprocAttr,-D7,iD,bD,bV,q1,q2,q7,pV,Bq,ES,WL];refine⟨⟨ae,ae,ae⟩,?_⟩;refine aw (λn e s=>∃c:Nat,n=L.length-c/\c<=L.length/\e 10=.rf 0 0 0 0/\e 11=i64 ((L.length:Int)-1-c)/\s=[dz t fg (ef L) 0 L.length,fx 0 (aY t L c)])
    ⟨_,_,_,(bA.Kt [2] 4 ae [10,11]).trans (bA.Dv [1,3] [10,11] cB),0,rfl,ae,cB,by simp only[aka,Int.sub_zero];rfl,?_⟩ ?_
   ·exact Kd t fg L _
   clear q1 q2 q7 pV PL Bq ES wL e0;rintro n e s ⟨c,rfl,hc,jc,mX,rfl⟩;by_cases az:c<L.length
   ·obtain⟨ix,V5⟩:∃ix:Nat,ix=L.length-1-c:=⟨_,rfl⟩
    have hii:(L.length:Int)-1-c=(ix:Int):=ae;obtain⟨r,⟨p,r1,r2⟩,r3,r4,⟨x,r5,r6⟩,r7⟩:=I4 ix ae;obtain rfl:p=ix:=ae;rw[hii]at mX;have i0:(0:Int)<=(p:Int):=ae;have i1:(p:Int)<(L.length:Int):=ae;have i2:p<L.length:=ae;have hpd:(L.map λp=>[p.1.bk p.2])[p]?=some [r.bk p]:=by rw[List.getElem?_map,r1];rfl
    have QB:r.bk p=.el [iD r.op,.sl (r.set.map aT),.sl (r.kids.map Re.cells),iD r.mn,iD r.mx,iD r.mode,iD r.n,bD r.neg,.sl [[x.bk (p+1)]],iD p]:=by rw[Re.ek,be r3,r5];rfl
    have hq0:([[x.bk (p+1)]]:List (List D))[0]?=some [x.bk (p+1)]:=rfl;have AY:=((Re.aD r).1 r4).2 x (by rw[r5];simp);have hoc:x.eC<=8191:=by unfold iR at r6;omega
    have QF:=fV t L c;have fm:=lj t L c;have UK:r.looks=1+x.looks:=by rw[Re.jZ,be r3,r5];simp [Re.ba]
    have Jw:=yX t (aY t L c) x AY (p+1) ae (λj h1 h2=>fm j ae ae);have Vu:aY t L (c+1)=(aY t L c).set p (eS t (aY t L c) r p):=by rw[aY,<- V5,r1]
    have MO:eS t (aY t L c) r p=(if r.op=7 then iE t (aY t L c) (x.emit (p+1) []++[bw]) else zd t (aY t L c) (x.emit (p+1) []++[bw])).map λb=>b != r.neg:=by unfold eS;rw[r5];rfl
    have mM:=λK hk=>zG (t:=t) (root:=fg) (parts:=ef L) (bg:=0) (nb:=L.length) (Bs:=aY t L c) (DG AY) ae (p+1) (K:=K) hk;have WE:0<(x.emit (p+1) []++[bw]).length:=ak;generalize X4:aY t L (c+1)=Bs2 at *;generalize aY t L c=Bs at *;generalize x.emit (p+1) []++[bw]=C at *;have oZ:p<Bs.length:=ae;obtain⟨lo,hlo⟩:∃lo,Bs[p]?=some lo:=cc oZ;simp only[iD,bD]at QB;generalize x.bk (p+1)=xd at *;simp only[zI,simprocAttr,-D7,iD,bD,bV,dz,ef,jc,mX,i0,i1,i2,hpd,QB,hq0,ajM,ajP,ajW,ajX,ajT,ge_iff_le];refine⟨aU,?_⟩;refine mM _ (λb a=>?_);have hah:=KJ t fg (ef L) 0 L.length Bs C.length b a C Jw QF.symm ae WE;have YB:=Hj t fg (ef L) 0 L.length Bs C.length b a C Jw QF.symm ae WE;simp only[zI,simprocAttr,-D7,iD,bD,bV,dz,ef,jc,mX,QB];have aaz:∀v:V,[V.d (.sl (lo.map λb=>[bD b]))].length=1:=λ_=>rfl;have Yt:(fx 0 Bs).g=0:=rfl;have VE:(fx 0 Bs).sz=1:=rfl;have Mj:(fx 0 Bs).au=Bs.map λl=>[V.d (.sl (l.map λb=>[bD b]))]:=rfl;have Yp:(fx 0 Bs).live=true:=rfl;have hi3:(p:Int)<(L.length:Int):=i1;refine Cr (λe s=>e 10=.rf 0 0 0 0/\e 11=i64 p/\e 12=.d (r.bk p)/\s=[dz t fg (ef L) 0 L.length,⟨0,true,1,(Bs.map λl=>[V.d (.sl (l.map λb=>[bD b]))]).set p [.so 3 1 0 (t.length+1)]⟩,cN C.length b a C,cq 1 (if r.op=7 then iE t Bs C else zd t Bs C)]) ?_ ?_ ?_
    ·intro ho B Q hB;simp only[zI,simprocAttr,-D7,iD,bD,bV,jc,mX];refine aX bW.bn ?_;refine cu mix [] [(7,[0,1,2,3],[3]),(8,[1],[]),(9,[1],[1])] ?_;simp only[zI,simprocAttr,-D7,iD,bD,bV,jc,mX,dz,ajN,ajO];refine sh hah ?_;simp only[zI,simprocAttr,-D7,iD,bD,bV,jc,mX,i0,i1,oZ,Yt,VE,Mj,Yp,ajP,ajT,List.getElem?_map,hlo,ajS,ajM];refine hB _ _ ⟨?_,?_,?_,?_⟩ <;> (try simp only[zU,pZ,jN,oN,oV,reduceIte])
     ·exact jc
     ·rw[mX]
     ·rw[QB]
     ·rw[be ho];rfl
    ·intro ho B Q hB;simp only[zI,simprocAttr,-D7,iD,bD,bV,jc,mX];refine aX bW.bn ?_;refine cu mix [] [(7,[0,1,2,3],[3]),(8,[1],[]),(9,[1],[1])] ?_;simp only[zI,simprocAttr,-D7,iD,bD,bV,jc,mX,dz,ajN,ajO];refine sh YB ?_;simp only[zI,simprocAttr,-D7,iD,bD,bV,jc,mX,i0,i1,oZ,Yt,VE,Mj,Yp,ajP,ajT,List.getElem?_map,hlo,ajS,ajM];refine hB _ _ ⟨?_,?_,?_,?_⟩ <;> (try simp only[zU,pZ,jN,oN,oV,reduceIte])
     ·exact jc
     ·rw[mX]
     ·rw[QB]
     ·rw[ap ho];rfl
    clear jc mX hah YB mM Yt VE Mj Yp;rintro e s ⟨jc,mX,B8,rfl⟩;have Ec:(if r.op=7 then iE t Bs C else zd t Bs C).length=t.length+1:=by
     split
     ·exact xk _ _ _
     ·exact Dr _ _ _
    generalize (if r.op=7 then iE t Bs C else zd t Bs C)=lb at *;have Nk:∀v,((Bs.map λl=>[V.d (.sl (l.map λb=>[D.sc (Value.bool b)]))]).set p v)[p]?=some v:=λv=>List.getElem?_set_self (by simpa using oZ);rw[QB]at B8;simp only[zI,simprocAttr,-D7,iD,bD,bV,dz,jc,mX,B8,i0,i1,ajP,ajT,Nk];refine aw (λn e s=>∃m:Nat,n=t.length+1-m/\m<=t.length+1/\e 10=.rf 0 0 0 0/\e 11=i64 p/\e 12=.d (.el [D.sc (Value.int IntKind.i64 r.op),D.sl (List.map aT r.set),D.sl (List.map Re.cells r.kids),D.sc (Value.int IntKind.i64 r.mn),D.sc (Value.int IntKind.i64 r.mx),D.sc (Value.int IntKind.i64 r.mode),D.sc (Value.int IntKind.i64 r.n),D.sc (Value.bool r.neg),D.sl [[xd]],D.sc (Value.int IntKind.i64 p)])/\e 114=i64 ((t.length+1:Nat):Int)/\e 115=i64 m/\s=[dz t fg (ef L) 0 L.length,⟨0,true,1,(Bs.map λl=>[V.d (.sl (l.map λb=>[bD b]))]).set p [.so 3 1 0 (t.length+1)]⟩,cN C.length b a C,cq 1 (iH r.neg m lb)])
     ⟨_,_,_,bA.refl,0,rfl,ae,by (try simp only[zU,pZ,jN,oN,oV,reduceIte]);exact jc,by (try simp only[zU,pZ,jN,oN,oV,reduceIte]);exact mX,by (try simp only[zU,pZ,jN,oN,oV,reduceIte]);exact B8,rfl,rfl,by rw[GR];rfl⟩ ?_
    clear jc mX B8;rintro n e s ⟨m,rfl,hm,jc,mX,B8,HU,HM,rfl⟩;rcases akd m (t.length+1) with hmt|gx
    ·obtain⟨y,hy⟩:∃y,lb[m]?=some y:=cc;have ZS:=Js (neg:=r.neg) hy;have Z9:=Gx (neg:=r.neg) hy;have YU:=JJ r.neg m lb;have m0:(0:Int)<=(m:Int):=ae;have m1:(m:Int)<((t.length+1:Nat):Int):=ae;have m2:m<(iH r.neg m lb).length:=ae;generalize hF2:iH r.neg (m+1) lb=F2 at *;generalize iH r.neg m lb=F1 at *;simp only[zI,simprocAttr,-D7,iD,bD,bV,dz,cq,jc,mX,B8,HU,HM,m1,Nk,ajP];refine cu mix [25] [] ?_;simp only[zI,simprocAttr,-D7,iD,bD,bV,cq,jc,mX,B8,HU,HM,i0,i1,m0,m1,m2,Nk,ZS,ajP,ajT,List.getElem?_map,ajS,ajM];refine⟨t.length+1-(m+1),_,_,ae,bA.refl,m+1,rfl,hmt,?_,?_,?_,?_,?_,by rw[hF2,<- Z9,akT];rfl⟩ <;> (try simp only[zU,pZ,jN,oN,oV,reduceIte])
     ·exact jc
     ·exact mX
     ·exact B8
     ·exact HU
     ·rw[bG _ ae];rfl
    ·have TF:m=lb.length:=by omega
     subst TF;rw[K1,<- MO,Ec];have Sb:=rI t Bs r p;rw[MO]at Sb;have wi:IntKind.i64.wrap ((p:Int)-1)=(L.length:Int)-1-((c+1:Nat):Int):=by rw[bG _ ae];omega
     rw[MO];rw[MO]at Vu;generalize (lb.map λb=>b != r.neg)=lf at *;rw[Ec]at HM;have X6:¬((t.length+1:Nat):Int)<((t.length+1:Nat):Int):=ae;simp only[zI,simprocAttr,-D7,iD,bD,bV,jc,mX,B8,HU,HM,X6,wi];refine⟨L.length-(c+1),_,_,ae,bA.drop 2 ae [10,11],c+1,rfl,ae,?_,?_,?_⟩
     ·rw[sa cB]
      (try simp only[zU,pZ,jN,oN,oV,reduceIte])
      rw[jc];rfl
     ·rw[sa cB]
      (try simp only[zU,pZ,jN,oN,oV,reduceIte])
      rfl
     ·have:=Og t fg (ef L) L.length p (t.length+1) Bs lf Sb (cN C.length b a C);rw[X4,Vu];exact this
   ·have hce:c=L.length:=by omega
    subst hce;have I5:¬(0:Int)<=(L.length:Int)-1-(L.length:Int):=ae;simp only[zI,simprocAttr,-D7,iD,bD,bV,jc,mX,I5,ge_iff_le,Cl,v7];refine⟨[0,1],rfl,?_⟩;simp only[kx,ajR,ajV,akM,akN,ju];exact⟨rfl,rfl⟩
def Cd (p:iM) (t:List Int):List (List Bool):=if c9 p t=0 then aY t (p.re.bz 0) (p.re.bz 0).length else []
def sy (Bs:List (List Bool)):V:=.d (.sl (Bs.map λl=>[.sl (l.map λb=>[bD b])]))
def L9 (t:List Int) (root parts:D) (Y nb:Nat):VL.Obj:=⟨0,true,4,[[.d (ao t),.d root,.d parts,.so Y 0 0 nb]]⟩
theorem tt {p:iM}{t:List Int} (hf:p.re.dx=true) (h:c9 p t=0) {s:List VL.Obj}{K:V->List VL.Obj->Prop}
  (hk:K (.tu [.rf s.length 0 0 0,i64 0]) (s++[L9 t (p.re.bk 0) (ef (p.re.bz 0)) (s.length+1) (p.re.bz 0).length,fx 0 (aY t (p.re.bz 0) (p.re.bz 0).length)])) :
  ar Tryz.prog 29 [bI p,.d (ao t)] s K:=by
 refine g9 (Qk p t hf h) [] rfl ak (λk o h=>by simp at h) (by cases p;simp [bI,aE,aE.go,Re.ah,i64,bV,iD,bD]) (by cases p;simp [bI,aj,aj.go,Re.ah,i64,bV]) rfl ?_;rintro v s' ⟨rfl,rfl⟩ _;have e1:pY [] s [] [dz t (p.re.bk 0) (ef (p.re.bz 0)) 0 (p.re.bz 0).length,fx 0 (aY t (p.re.bz 0) (p.re.bz 0).length)]=[s.length,s.length+1]:=rfl;rw[e1];have e5:aE [s.length,s.length+1] (.tu [.rf 0 0 0 0,i64 0])=.tu [.rf s.length 0 0 0,i64 0]:=rfl;have e6:∀n a b,aN [s.length,s.length+1] (dz t a b 0 n)=L9 t a b (s.length+1) n:=λn a b=>rfl;rw[e5];simp only[ajX,akW,akJ,ajV,ajR,e6,fr,aJ];exact hk
theorem DN (p:iM) (t:List Int) (hf:p.re.dx=true) (hl:t.length<=1000000):aM Tryz.prog 17 [bI p,.d (ao t)] (.tu [sy (Cd p t),i64 (c9 p t)]):=by
 by_cases h:c9 p t=0
 ·have hb:Cd p t=aY t (p.re.bz 0) (p.re.bz 0).length:=be h;rw[hb,h];have bH:=λs K hk=>tt hf h (s:=s) (K:=K) hk;have QF:=fV t (p.re.bz 0) (p.re.bz 0).length;generalize aY t (p.re.bz 0) (p.re.bz 0).length=Bs at *;generalize (p.re.bz 0).length=n at *;generalize p.re.bk 0=rd at *;generalize ef (p.re.bz 0)=pd at *;clear h hf hb;cases p with
  |mk re ai aB =>
  unfold bI at bH;simp only[Re.ah,ajR,ajV,ajN,ajO,i64,iD,bD,bV,ao]at bH;refine bo Tryz.func17 Tryz.ntmps17 Tryz.results17 0 247 ?_;simp only[zI,simprocAttr,bI,Re.ah,bV,iD,bD,ao,sy];refine bH _ _ ?_;simp only[zQ,simprocAttr,ao,sy,L9,ajW,ajX,ajT,ajN,ajO,ne_eq,not_true_eq_false];have hg:(fx 0 Bs).g=0:=rfl;have he:(fx 0 Bs).au=(Bs.map λl=>[D.sl (l.map λb=>[D.sc (Value.bool b)])]).map λc=>c.map V.d:=by rw[akq];rfl
  have sE:(fx 0 Bs).au.length=n:=by rw[he];simpa using QF
  rw[sE,be ⟨hg,ajZ _⟩,he,js 7 0 _ _ _ cC];rfl
 ·have hb:Cd p t=[]:=ap h;rw[hb];have he:=tY p t hf h hl;generalize c9 p t=se at *;clear hf hb;cases p with
  |mk re ai aB =>
  unfold bI at he;simp only[Re.ah,ajR,ajV,ajN,ajO,i64,iD,bD,bV,ao]at he;refine bo Tryz.func17 Tryz.ntmps17 Tryz.results17 0 247 ?_;simp only[zI,simprocAttr,bI,Re.ah,bV,iD,bD,ao,sy];refine dY he ?_;simp only[zQ,simprocAttr,ao,sy,ne_eq,h,not_false_eq_true];all_goals rfl
end Go.Proofs.YtjjfioalgbecmaaGreat
