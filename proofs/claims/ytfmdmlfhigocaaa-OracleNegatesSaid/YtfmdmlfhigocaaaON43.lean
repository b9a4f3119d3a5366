/- A part of the proof (O30 O31). -/
import Derived.Test.YtfmdmlfhigocaaaON41
set_option linter.unusedSimpArgs false
set_option linter.unusedVariables false
open Nat renaming reduceShiftRight → cQ, reduceMod → dx, reduceLT → dB, reduceMul → dC, reduceSub → dD, reduceEqDiff → eI, reduceAdd → eJ, reduceLeDiff → fX, reduceBEq → gj
open Int renaming reduceToNat → gl, reduceNeg → ja, reduceLT → jg, reduceLE → jk, reduceEq → mA
set_option maxRecDepth 100000
set_option maxHeartbeats 80000000
namespace Go.Proofs.Ytfmdmlfhigocaaa
open Go.VL
theorem NL (p:ic) (t:List Int) (hf:p.re.bC=true) (h:dg p t=0) :
  aq Try.prog 27 [aZ p,.d (al t)] [] λv s=>v=.tu [.rf 0 0 0 0,i64 0]/\s=[dp t (p.re.bj 0) (dS (p.re.bw 0)) 0 (p.re.bw 0).length,fr 0 (aU t (p.re.bw 0) (p.re.bw 0).length)]:=by
 obtain⟨a1,a2,a3⟩:=sh h;obtain⟨b1,b2,b3⟩:=yH a1;obtain⟨v1,v2,v3,v4,v5⟩:=db b1;have DL:=nF v4 p.re v5 v1;have hsh:p.re.every Dp=true:=by unfold mS at b3;exact(Bool.and_eq_true_iff.1 b3).2
 have C7:=l6 p.re;have h1:=sL p hf;rw[a1]at h1;have G4:=LG p.re DL hsh 0;have vN:=Q7 t (.sc (.pointer none)) p.re DL 0 [] (by simp;omega);have hLl:=Re.nG p.re 0;have hdP:=Re.Fy p.re 0;rw[af0,afS,afX,hdP,afN]at vN;clear DL hsh b2 b3 hdP v2 v3 v5 b1 a1 h;cases p with
 |mk re ak aN =>
 simp only at *;generalize re.bw 0=L at *;rw[<- hLl]at G4 C7 vN;generalize re.bj 0=e9 at *;simp only[aZ,Re.ae,afR,afU,afQ,afS,i64,iD,bD,bV]at h1;have B0:¬(65536:Int)<(t.length:Int):=by omega
 have fO:=a3;obtain⟨ru,uF⟩:∃ru,aN=ru:=⟨_,rfl⟩
 cases ru with
 |true =>
  refine pJ Try.func27 rfl Try.ntmps27 Try.results27 rfl 0 62307562302417931542365956185554679 (by simp) (by simp) ?_;simp only[zX,cQ,dx,dB,dC,dD,gl,ja,jg,jk,mA,eI,eJ,fX,reduceIte,reduceCtorEq,gj,i64,aZ,Re.ae,bV,iD,bD,al];refine aj h1 rfl rfl ?_;simp only[zX,cQ,dx,dB,dC,dD,gl,ja,jg,jk,mA,eI,eJ,fX,reduceIte,reduceCtorEq,gj,i64,aZ,Re.ae,bV,iD,bD,ne_eq,not_true_eq_false,afN,B0,gt_iff_lt,uF];refine au (λn e s=>∃i:Nat,n=t.length-i/\i<=t.length/\e 1=.d (al t)/\e 2=.rf 0 0 0 0/\e 7=i64 (gz aN)/\e 25=.d (al t)/\e 26=i64 t.length/\e 27=i64 i/\(t.take i).all (fT aN)=true/\s=[⟨0,true,10,[re.cells.map .d++[i64 ak,bV aN]]⟩])
   ⟨_,_,_,br.refl,0,rfl,by omega,rfl,rfl,by subst uF;rfl,rfl,by first|rfl|(rw[afN];rfl),rfl,by simp,by subst uF;simp [Re.ae re,iD,bD,bV,i64]⟩ ?_
  rintro n e s ⟨i,rfl,hi,q1,q2,q7,Nc,Ar,De,bA,rfl⟩;have pG:e 25=.d (.sl (t.map λx=>[iD x])):=Nc;rcases agi i t.length with az|fI
  ·obtain⟨x,hx⟩:∃x,t[i]?=some x:=⟨_,afP az⟩
   have aC:(i:Int)<(t.length:Int):=by omega
   have hi0:(0:Int)<=(i:Int):=by omega
   have hT:=aR hx;by_cases c1:x<0
   ·have kK:t.all (fT aN)=false:=all_false hx (by simp [fT];omega);simp only[zX,cQ,dx,dB,dC,dD,gl,ja,jg,jk,mA,eI,eJ,fX,reduceIte,reduceCtorEq,gj,i64,iD,bD,bV,Re.ae re,afR,afU,q1,q2,q7,pG,Ar,De,aC,hi0,az,hx,afN,afO,afV,afT,c1];first|(rw[fO]at kK;cases kK;done)|(all_goals rfl)
   ·by_cases c2:gz aN<x
    ·have kK:t.all (fT aN)=false:=all_false hx (by simp [fT];omega);simp only[zX,cQ,dx,dB,dC,dD,gl,ja,jg,jk,mA,eI,eJ,fX,reduceIte,reduceCtorEq,gj,i64,iD,bD,bV,Re.ae re,afR,afU,q1,q2,q7,pG,Ar,De,aC,hi0,az,hx,afN,afO,afV,afT,c1,c2,gt_iff_lt];first|(rw[fO]at kK;cases kK;done)|(all_goals rfl)
    ·simp only[zX,cQ,dx,dB,dC,dD,gl,ja,jg,jk,mA,eI,eJ,fX,reduceIte,reduceCtorEq,gj,i64,iD,bD,bV,Re.ae re,afR,afU,q1,q2,q7,pG,Ar,De,aC,hi0,az,hx,afN,afO,afV,afT,c1,c2,gt_iff_lt];refine⟨t.length-(i+1),_,_,by omega,br.refl,i+1,rfl,az,?_,?_,?_,?_,?_,?_,?_,by simp [Re.ae re,iD,bD,bV,i64]⟩ <;> (try simp only[zU,gj,cQ,dx,eI,reduceIte])
     ·exact q1
     ·exact q2
     ·exact q7
     ·exact Nc
     ·exact Ar
     ·rw[bd _ (by omega)];rfl
     ·rw[hT,ahf,bA];simp [fT];omega
  ·have cV:i=t.length:=by omega
   subst cV;simp only[zX,cQ,dx,dB,dC,dD,gl,ja,jg,jk,mA,eI,eJ,fX,reduceIte,reduceCtorEq,gj,i64,iD,bD,bV,Re.ae re,afR,afU,q1,q2,q7,pG,Ar,De,agO,al];refine g9 (pre:=[.d (.sl (t.map λx=>[D.sc (Value.int IntKind.i64 x)])),.d (.sc (.pointer none))]) (post:=[.fu []]) 1 1 rfl rfl rfl ?_;refine Jb (pre:=[.d (.sl (t.map λx=>[D.sc (Value.int IntKind.i64 x)])),.d (.sc (.pointer none)),.so 2 0 0 0]) (post:=[]) 1 rfl rfl rfl ?_;rw[ai]at vN;simp only[iD,bD]at vN;refine cH [1,2] vN (by decide) rfl ?_ ?_ ?_ ?_ (r':=.d e9) rfl ?_
   ·have e0:aT [1,2] (gM t (.sc (.pointer none)) 0 0)=⟨0,true,4,[[.d (al t),.d (.sc (.pointer none)),.so 2 0 0 0,.d (.sl [])]]⟩:=by simp [aT,gM,aL,aL.go]
    simp only[afR,afU,af0,e0,jT];rfl
   ·simp [aL,aL.go]
   ·simp [ah,ah.go]
   ·have e3:aG 2 (gM t (.sc (.pointer none)) 0 0)=true:=by simp [gM,aG,ah]
    simp only[agq,agA,afZ,af0,afX,eJ,e3,mi,ag3]
   have e0:∀G n,aT [1,2] (gM t (.sc (.pointer none)) G n)=⟨0,true,4,[[.d (al t),.d (.sc (.pointer none)),.so 2 G 0 n,.d (.sl [])]]⟩:=λG n=>by simp [aT,gM,aL,aL.go]
   simp only[afR,afU,e0,jT,aE,agf,agd,afQ,afS];have hLb:L.length<=256:=by omega
   have WA:IntKind.i64.wrap ((L.length:Int)-1)=(L.length:Int)-1:=bd _ (by omega);simp only[zX,cQ,dx,dB,dC,dD,gl,ja,jg,jk,mA,eI,eJ,fX,reduceIte,reduceCtorEq,gj,i64,iD,bD,bV,q1,q2,q7,pG,Ar,De,WA];refine⟨⟨by omega,by omega,by omega⟩,?_⟩;refine au (λn e s=>∃c:Nat,n=L.length-c/\c<=L.length/\e 10=.rf 0 0 0 0/\e 11=i64 ((L.length:Int)-1-c)/\s=[dp t e9 (dS L) 0 L.length,fr 0 (aU t L c)])
    ⟨_,_,_,(br.Iv [2] 4 (by omega) [10,11]).trans (br.C8 [1,3] [10,11] (by rfl)),0,rfl,by omega,by rfl,by simp only[agk,Int.sub_zero];rfl,?_⟩ ?_
   ·exact Ic t e9 L _
   clear q1 q2 q7 pG Nc Ar De vN e0;rintro n e s ⟨c,rfl,hc,iF,kM,rfl⟩;by_cases az:c<L.length
   ·obtain⟨ix,Vf⟩:∃ix:Nat,ix=L.length-1-c:=⟨_,rfl⟩
    have hii:(L.length:Int)-1-c=(ix:Int):=by omega
    obtain⟨r,⟨p,r1,r2⟩,r3,r4,⟨x,r5,r6⟩,r7⟩:=G4 ix (by omega);obtain rfl:p=ix:=by omega
    rw[hii]at kM;have i0:(0:Int)<=(p:Int):=by omega
    have i1:(p:Int)<(L.length:Int):=by omega
    have i2:p<L.length:=by omega
    have Xt:(L.map λp=>[p.1.bj p.2])[p]?=some [r.bj p]:=by rw[afO,r1];rfl
    have N6:r.bj p=.el [iD r.op,.sl (r.set.map aV),.sl (r.kids.map Re.cells),iD r.mn,iD r.mx,iD r.mode,iD r.n,bD r.neg,.sl [[x.bj (p+1)]],iD p]:=by rw[Re.dV,be r3,r5];rfl
    have Vl:([[x.bj (p+1)]]:List (List D))[0]?=some [x.bj (p+1)]:=rfl;have QF:=((Re.aB r).1 r4).2 x (by rw[r5];simp);have hoc:x.gD<=8191:=by unfold dm at r6;omega
    have Ms:=dk t L c;have cU:=iW t L c;have UQ:r.looks=1+x.looks:=by rw[Re.eA,be r3,r5];simp [Re.aD]
    have HC:=yu t (aU t L c) x QF (p+1) (by omega) (λj h1 h2=>cU j (by omega) (by omega));have Sj:aU t L (c+1)=(aU t L c).set p (dK t (aU t L c) r p):=by rw[aU,<- Vf,r1]
    have L2:dK t (aU t L c) r p=(if r.op=7 then iV t (aU t L c) (x.emit (p+1) []++[cq]) else wW t (aU t L c) (x.emit (p+1) []++[cq])).map λb=>b != r.neg:=by unfold dK;rw[r5];rfl
    have dR:=λK hk=>yV (t:=t) (root:=e9) (parts:=dS L) (bg:=0) (nb:=L.length) (Bs:=aU t L c) (Cz QF) (by omega) (p+1) (K:=K) hk;have MF:0<(x.emit (p+1) []++[cq]).length:=by simp
    generalize UC:aU t L (c+1)=Bs2 at *;generalize aU t L c=Bs at *;generalize x.emit (p+1) []++[cq]=C at *;have yr:p<Bs.length:=by omega
    obtain⟨lo,hlo⟩:∃lo,Bs[p]?=some lo:=⟨_,afP yr⟩
    simp only[iD,bD]at N6;generalize x.bj (p+1)=xd at *;simp only[zX,cQ,dx,dB,dC,dD,gl,ja,jg,jk,mA,eI,eJ,fX,reduceIte,reduceCtorEq,gj,i64,iD,bD,bV,dp,dS,iF,kM,i0,i1,i2,Xt,N6,Vl,afN,afT,afZ,af0,afX,ge_iff_le];refine⟨by decide,?_⟩;refine dR _ (λb a=>?_);have WL:=IK t e9 (dS L) 0 L.length Bs C.length b a C HC Ms.symm (by omega) MF;have XB:=Ff t e9 (dS L) 0 L.length Bs C.length b a C HC Ms.symm (by omega) MF;simp only[zX,cQ,dx,dB,dC,dD,gl,ja,jg,jk,mA,eI,eJ,fX,reduceIte,reduceCtorEq,gj,i64,iD,bD,bV,dp,dS,iF,kM,N6];have W8:∀v:V,[V.d (.sl (lo.map λb=>[bD b]))].length=1:=λ_=>rfl;have U3:(fr 0 Bs).g=0:=rfl;have Su:(fr 0 Bs).sz=1:=rfl;have Kl:(fr 0 Bs).aw=Bs.map λl=>[V.d (.sl (l.map λb=>[bD b]))]:=rfl;have UW:(fr 0 Bs).live=true:=rfl;have hi3:(p:Int)<(L.length:Int):=i1;refine Bo (λe s=>e 10=.rf 0 0 0 0/\e 11=i64 p/\e 12=.d (r.bj p)/\s=[dp t e9 (dS L) 0 L.length,⟨0,true,1,(Bs.map λl=>[V.d (.sl (l.map λb=>[bD b]))]).set p [.so 3 1 0 (t.length+1)]⟩,cG C.length b a C,b5 1 (if r.op=7 then iV t Bs C else wW t Bs C)]) ?_ ?_ ?_
    ·intro ho B Q hB;simp only[zX,cQ,dx,dB,dC,dD,gl,ja,jg,jk,mA,eI,eJ,fX,reduceIte,reduceCtorEq,gj,i64,iD,bD,bV,iF,kM];refine aS bO.bf ?_;refine ar mix [] [(7,[0,1,2,3],[3]),(8,[1],[]),(9,[1],[1])] (by rfl) ?_;simp only[zX,cQ,dx,dB,dC,dD,gl,ja,jg,jk,mA,eI,eJ,fX,reduceIte,reduceCtorEq,gj,i64,iD,bD,bV,iF,kM,dp,afQ,afS];refine rD WL ?_;simp only[zX,cQ,dx,dB,dC,dD,gl,ja,jg,jk,mA,eI,eJ,fX,reduceIte,reduceCtorEq,gj,i64,iD,bD,bV,iF,kM,i0,i1,yr,U3,Su,Kl,UW,afT,afX,afO,hlo,afV,afN];refine hB _ _ ⟨?_,?_,?_,?_⟩ <;> (try simp only[zU,gj,cQ,dx,eI,reduceIte])
     ·exact iF
     ·rw[kM]
     ·rw[N6]
     ·rw[be ho];rfl
    ·intro ho B Q hB;simp only[zX,cQ,dx,dB,dC,dD,gl,ja,jg,jk,mA,eI,eJ,fX,reduceIte,reduceCtorEq,gj,i64,iD,bD,bV,iF,kM];refine aS bO.bf ?_;refine ar mix [] [(7,[0,1,2,3],[3]),(8,[1],[]),(9,[1],[1])] (by rfl) ?_;simp only[zX,cQ,dx,dB,dC,dD,gl,ja,jg,jk,mA,eI,eJ,fX,reduceIte,reduceCtorEq,gj,i64,iD,bD,bV,iF,kM,dp,afQ,afS];refine rD XB ?_;simp only[zX,cQ,dx,dB,dC,dD,gl,ja,jg,jk,mA,eI,eJ,fX,reduceIte,reduceCtorEq,gj,i64,iD,bD,bV,iF,kM,i0,i1,yr,U3,Su,Kl,UW,afT,afX,afO,hlo,afV,afN];refine hB _ _ ⟨?_,?_,?_,?_⟩ <;> (try simp only[zU,gj,cQ,dx,eI,reduceIte])
     ·exact iF
     ·rw[kM]
     ·rw[N6]
     ·rw[ap ho];rfl
    clear iF kM WL XB dR U3 Su Kl UW;rintro e s ⟨iF,kM,CV,rfl⟩;have GM:(if r.op=7 then iV t Bs C else wW t Bs C).length=t.length+1:=by
     split
     ·exact wq _ _ _
     ·exact Ck _ _ _
    generalize (if r.op=7 then iV t Bs C else wW t Bs C)=lb at *;have La:∀v,((Bs.map λl=>[V.d (.sl (l.map λb=>[D.sc (Value.bool b)]))]).set p v)[p]?=some v:=λv=>agc (by simpa using yr);rw[N6]at CV;simp only[zX,cQ,dx,dB,dC,dD,gl,ja,jg,jk,mA,eI,eJ,fX,reduceIte,reduceCtorEq,gj,i64,iD,bD,bV,dp,iF,kM,CV,i0,i1,afT,afX,La];refine au (λn e s=>∃m:Nat,n=t.length+1-m/\m<=t.length+1/\e 10=.rf 0 0 0 0/\e 11=i64 p/\e 12=.d (.el [D.sc (Value.int IntKind.i64 r.op),D.sl (List.map aV r.set),D.sl (List.map Re.cells r.kids),D.sc (Value.int IntKind.i64 r.mn),D.sc (Value.int IntKind.i64 r.mx),D.sc (Value.int IntKind.i64 r.mode),D.sc (Value.int IntKind.i64 r.n),D.sc (Value.bool r.neg),D.sl [[xd]],D.sc (Value.int IntKind.i64 p)])/\e 114=i64 ((t.length+1:Nat):Int)/\e 115=i64 m/\s=[dp t e9 (dS L) 0 L.length,⟨0,true,1,(Bs.map λl=>[V.d (.sl (l.map λb=>[bD b]))]).set p [.so 3 1 0 (t.length+1)]⟩,cG C.length b a C,b5 1 (hZ r.neg m lb)])
     ⟨_,_,_,br.refl,0,rfl,by omega,by (try simp only[zU,gj,cQ,dx,eI,reduceIte]);exact iF,by (try simp only[zU,gj,cQ,dx,eI,reduceIte]);exact kM,by (try simp only[zU,gj,cQ,dx,eI,reduceIte]);exact CV,rfl,rfl,by rw[EM];rfl⟩ ?_
    clear iF kM CV;rintro n e s ⟨m,rfl,hm,iF,kM,CV,F0,FM,rfl⟩;rcases agi m (t.length+1) with hmt|fI
    ·obtain⟨y,hy⟩:∃y,lb[m]?=some y:=⟨_,afP (by omega)⟩
     have Wo:=Hy (neg:=r.neg) hy;have Zy:=Ey (neg:=r.neg) hy;have Vw:=HM r.neg m lb;have m0:(0:Int)<=(m:Int):=by omega
     have m1:(m:Int)<((t.length+1:Nat):Int):=by omega
     have m2:m<(hZ r.neg m lb).length:=by omega
     generalize ZK:hZ r.neg (m+1) lb=F2 at *;generalize hZ r.neg m lb=F1 at *;simp only[zX,cQ,dx,dB,dC,dD,gl,ja,jg,jk,mA,eI,eJ,fX,reduceIte,reduceCtorEq,gj,i64,iD,bD,bV,dp,b5,iF,kM,CV,F0,FM,m1,La,afT];refine ar mix [25] [] (by rfl) ?_;simp only[zX,cQ,dx,dB,dC,dD,gl,ja,jg,jk,mA,eI,eJ,fX,reduceIte,reduceCtorEq,gj,i64,iD,bD,bV,b5,iF,kM,CV,F0,FM,i0,i1,m0,m1,m2,La,Wo,afT,afX,afO,afV,afN];refine⟨t.length+1-(m+1),_,_,by omega,br.refl,m+1,rfl,hmt,?_,?_,?_,?_,?_,by rw[ZK,<- Zy,ahg];rfl⟩ <;> (try simp only[zU,gj,cQ,dx,eI,reduceIte])
     ·exact iF
     ·exact kM
     ·exact CV
     ·exact F0
     ·rw[bd _ (by omega)];rfl
    ·have QL:m=lb.length:=by omega
     subst QL;rw[IZ,<- L2,GM];have MW:=qS t Bs r p;rw[L2]at MW;have wi:IntKind.i64.wrap ((p:Int)-1)=(L.length:Int)-1-((c+1:Nat):Int):=by rw[bd _ (by omega)];omega
     rw[L2];rw[L2]at Sj;generalize (lb.map λb=>b != r.neg)=lf at *;rw[GM]at FM;have UE:¬((t.length+1:Nat):Int)<((t.length+1:Nat):Int):=by omega
     simp only[zX,cQ,dx,dB,dC,dD,gl,ja,jg,jk,mA,eI,eJ,fX,reduceIte,reduceCtorEq,gj,i64,iD,bD,bV,iF,kM,CV,F0,FM,UE,wi];refine⟨L.length-(c+1),_,_,by omega,br.drop 2 (by omega) [10,11],c+1,rfl,by omega,?_,?_,?_⟩
     ·rw[rz (by rfl)]
      (try simp only[zU,gj,cQ,dx,eI,reduceIte])
      rw[iF];rfl
     ·rw[rz (by rfl)]
      (try simp only[zU,gj,cQ,dx,eI,reduceIte])
      rfl
     ·have:=LY t e9 (dS L) L.length p (t.length+1) Bs lf MW (cG C.length b a C);rw[UC,Sj];exact this
   ·have Z3:c=L.length:=by omega
    subst Z3;have RC:¬(0:Int)<=(L.length:Int)-1-(L.length:Int):=by omega
    simp only[zX,cQ,dx,dB,dC,dD,gl,ja,jg,jk,mA,eI,eJ,fX,reduceIte,reduceCtorEq,gj,i64,iD,bD,bV,iF,kM,RC,ge_iff_le,sg,xR];refine⟨[0,1],rfl,?_⟩;simp only[lF,afR,afU,agW,agX,ji];exact⟨rfl,rfl⟩
 |false =>
  refine pJ Try.func27 rfl Try.ntmps27 Try.results27 rfl 0 62307562302417931542365956185554679 (by simp) (by simp) ?_;simp only[zX,cQ,dx,dB,dC,dD,gl,ja,jg,jk,mA,eI,eJ,fX,reduceIte,reduceCtorEq,gj,i64,aZ,Re.ae,bV,iD,bD,al];refine aj h1 rfl rfl ?_;simp only[zX,cQ,dx,dB,dC,dD,gl,ja,jg,jk,mA,eI,eJ,fX,reduceIte,reduceCtorEq,gj,i64,aZ,Re.ae,bV,iD,bD,ne_eq,not_true_eq_false,afN,B0,gt_iff_lt,uF];refine au (λn e s=>∃i:Nat,n=t.length-i/\i<=t.length/\e 1=.d (al t)/\e 2=.rf 0 0 0 0/\e 7=i64 (gz aN)/\e 25=.d (al t)/\e 26=i64 t.length/\e 27=i64 i/\(t.take i).all (fT aN)=true/\s=[⟨0,true,10,[re.cells.map .d++[i64 ak,bV aN]]⟩])
   ⟨_,_,_,br.refl,0,rfl,by omega,rfl,rfl,by subst uF;rfl,rfl,by first|rfl|(rw[afN];rfl),rfl,by simp,by subst uF;simp [Re.ae re,iD,bD,bV,i64]⟩ ?_
  rintro n e s ⟨i,rfl,hi,q1,q2,q7,Nc,Ar,De,bA,rfl⟩;have pG:e 25=.d (.sl (t.map λx=>[iD x])):=Nc;rcases agi i t.length with az|fI
  ·obtain⟨x,hx⟩:∃x,t[i]?=some x:=⟨_,afP az⟩
   have aC:(i:Int)<(t.length:Int):=by omega
   have hi0:(0:Int)<=(i:Int):=by omega
   have hT:=aR hx;by_cases c1:x<0
   ·have kK:t.all (fT aN)=false:=all_false hx (by simp [fT];omega);simp only[zX,cQ,dx,dB,dC,dD,gl,ja,jg,jk,mA,eI,eJ,fX,reduceIte,reduceCtorEq,gj,i64,iD,bD,bV,Re.ae re,afR,afU,q1,q2,q7,pG,Ar,De,aC,hi0,az,hx,afN,afO,afV,afT,c1];first|(rw[fO]at kK;cases kK;done)|(all_goals rfl)
   ·by_cases c2:gz aN<x
    ·have kK:t.all (fT aN)=false:=all_false hx (by simp [fT];omega);simp only[zX,cQ,dx,dB,dC,dD,gl,ja,jg,jk,mA,eI,eJ,fX,reduceIte,reduceCtorEq,gj,i64,iD,bD,bV,Re.ae re,afR,afU,q1,q2,q7,pG,Ar,De,aC,hi0,az,hx,afN,afO,afV,afT,c1,c2,gt_iff_lt];first|(rw[fO]at kK;cases kK;done)|(all_goals rfl)
    ·simp only[zX,cQ,dx,dB,dC,dD,gl,ja,jg,jk,mA,eI,eJ,fX,reduceIte,reduceCtorEq,gj,i64,iD,bD,bV,Re.ae re,afR,afU,q1,q2,q7,pG,Ar,De,aC,hi0,az,hx,afN,afO,afV,afT,c1,c2,gt_iff_lt];refine⟨t.length-(i+1),_,_,by omega,br.refl,i+1,rfl,az,?_,?_,?_,?_,?_,?_,?_,by simp [Re.ae re,iD,bD,bV,i64]⟩ <;> (try simp only[zU,gj,cQ,dx,eI,reduceIte])
     ·exact q1
     ·exact q2
     ·exact q7
     ·exact Nc
     ·exact Ar
     ·rw[bd _ (by omega)];rfl
     ·rw[hT,ahf,bA];simp [fT];omega
  ·have cV:i=t.length:=by omega
   subst cV;simp only[zX,cQ,dx,dB,dC,dD,gl,ja,jg,jk,mA,eI,eJ,fX,reduceIte,reduceCtorEq,gj,i64,iD,bD,bV,Re.ae re,afR,afU,q1,q2,q7,pG,Ar,De,agO,al];refine g9 (pre:=[.d (.sl (t.map λx=>[D.sc (Value.int IntKind.i64 x)])),.d (.sc (.pointer none))]) (post:=[.fu []]) 1 1 rfl rfl rfl ?_;refine Jb (pre:=[.d (.sl (t.map λx=>[D.sc (Value.int IntKind.i64 x)])),.d (.sc (.pointer none)),.so 2 0 0 0]) (post:=[]) 1 rfl rfl rfl ?_;rw[ai]at vN;simp only[iD,bD]at vN;refine cH [1,2] vN (by decide) rfl ?_ ?_ ?_ ?_ (r':=.d e9) rfl ?_
   ·have e0:aT [1,2] (gM t (.sc (.pointer none)) 0 0)=⟨0,true,4,[[.d (al t),.d (.sc (.pointer none)),.so 2 0 0 0,.d (.sl [])]]⟩:=by simp [aT,gM,aL,aL.go]
    simp only[afR,afU,af0,e0,jT];rfl
   ·simp [aL,aL.go]
   ·simp [ah,ah.go]
   ·have e3:aG 2 (gM t (.sc (.pointer none)) 0 0)=true:=by simp [gM,aG,ah]
    simp only[agq,agA,afZ,af0,afX,eJ,e3,mi,ag3]
   have e0:∀G n,aT [1,2] (gM t (.sc (.pointer none)) G n)=⟨0,true,4,[[.d (al t),.d (.sc (.pointer none)),.so 2 G 0 n,.d (.sl [])]]⟩:=λG n=>by simp [aT,gM,aL,aL.go]
   simp only[afR,afU,e0,jT,aE,agf,agd,afQ,afS];have hLb:L.length<=256:=by omega
   have WA:IntKind.i64.wrap ((L.length:Int)-1)=(L.length:Int)-1:=bd _ (by omega);simp only[zX,cQ,dx,dB,dC,dD,gl,ja,jg,jk,mA,eI,eJ,fX,reduceIte,reduceCtorEq,gj,i64,iD,bD,bV,q1,q2,q7,pG,Ar,De,WA];refine⟨⟨by omega,by omega,by omega⟩,?_⟩;refine au (λn e s=>∃c:Nat,n=L.length-c/\c<=L.length/\e 10=.rf 0 0 0 0/\e 11=i64 ((L.length:Int)-1-c)/\s=[dp t e9 (dS L) 0 L.length,fr 0 (aU t L c)])
    ⟨_,_,_,(br.Iv [2] 4 (by omega) [10,11]).trans (br.C8 [1,3] [10,11] (by rfl)),0,rfl,by omega,by rfl,by simp only[agk,Int.sub_zero];rfl,?_⟩ ?_
   ·exact Ic t e9 L _
   clear q1 q2 q7 pG Nc Ar De vN e0;rintro n e s ⟨c,rfl,hc,iF,kM,rfl⟩;by_cases az:c<L.length
   ·obtain⟨ix,Vf⟩:∃ix:Nat,ix=L.length-1-c:=⟨_,rfl⟩
    have hii:(L.length:Int)-1-c=(ix:Int):=by omega
    obtain⟨r,⟨p,r1,r2⟩,r3,r4,⟨x,r5,r6⟩,r7⟩:=G4 ix (by omega);obtain rfl:p=ix:=by omega
    rw[hii]at kM;have i0:(0:Int)<=(p:Int):=by omega
    have i1:(p:Int)<(L.length:Int):=by omega
    have i2:p<L.length:=by omega
    have Xt:(L.map λp=>[p.1.bj p.2])[p]?=some [r.bj p]:=by rw[afO,r1];rfl
    have N6:r.bj p=.el [iD r.op,.sl (r.set.map aV),.sl (r.kids.map Re.cells),iD r.mn,iD r.mx,iD r.mode,iD r.n,bD r.neg,.sl [[x.bj (p+1)]],iD p]:=by rw[Re.dV,be r3,r5];rfl
    have Vl:([[x.bj (p+1)]]:List (List D))[0]?=some [x.bj (p+1)]:=rfl;have QF:=((Re.aB r).1 r4).2 x (by rw[r5];simp);have hoc:x.gD<=8191:=by unfold dm at r6;omega
    have Ms:=dk t L c;have cU:=iW t L c;have UQ:r.looks=1+x.looks:=by rw[Re.eA,be r3,r5];simp [Re.aD]
    have HC:=yu t (aU t L c) x QF (p+1) (by omega) (λj h1 h2=>cU j (by omega) (by omega));have Sj:aU t L (c+1)=(aU t L c).set p (dK t (aU t L c) r p):=by rw[aU,<- Vf,r1]
    have L2:dK t (aU t L c) r p=(if r.op=7 then iV t (aU t L c) (x.emit (p+1) []++[cq]) else wW t (aU t L c) (x.emit (p+1) []++[cq])).map λb=>b != r.neg:=by unfold dK;rw[r5];rfl
    have dR:=λK hk=>yV (t:=t) (root:=e9) (parts:=dS L) (bg:=0) (nb:=L.length) (Bs:=aU t L c) (Cz QF) (by omega) (p+1) (K:=K) hk;have MF:0<(x.emit (p+1) []++[cq]).length:=by simp
    generalize UC:aU t L (c+1)=Bs2 at *;generalize aU t L c=Bs at *;generalize x.emit (p+1) []++[cq]=C at *;have yr:p<Bs.length:=by omega
    obtain⟨lo,hlo⟩:∃lo,Bs[p]?=some lo:=⟨_,afP yr⟩
    simp only[iD,bD]at N6;generalize x.bj (p+1)=xd at *;simp only[zX,cQ,dx,dB,dC,dD,gl,ja,jg,jk,mA,eI,eJ,fX,reduceIte,reduceCtorEq,gj,i64,iD,bD,bV,dp,dS,iF,kM,i0,i1,i2,Xt,N6,Vl,afN,afT,afZ,af0,afX,ge_iff_le];refine⟨by decide,?_⟩;refine dR _ (λb a=>?_);have WL:=IK t e9 (dS L) 0 L.length Bs C.length b a C HC Ms.symm (by omega) MF;have XB:=Ff t e9 (dS L) 0 L.length Bs C.length b a C HC Ms.symm (by omega) MF;simp only[zX,cQ,dx,dB,dC,dD,gl,ja,jg,jk,mA,eI,eJ,fX,reduceIte,reduceCtorEq,gj,i64,iD,bD,bV,dp,dS,iF,kM,N6];have W8:∀v:V,[V.d (.sl (lo.map λb=>[bD b]))].length=1:=λ_=>rfl;have U3:(fr 0 Bs).g=0:=rfl;have Su:(fr 0 Bs).sz=1:=rfl;have Kl:(fr 0 Bs).aw=Bs.map λl=>[V.d (.sl (l.map λb=>[bD b]))]:=rfl;have UW:(fr 0 Bs).live=true:=rfl;have hi3:(p:Int)<(L.length:Int):=i1;refine Bo (λe s=>e 10=.rf 0 0 0 0/\e 11=i64 p/\e 12=.d (r.bj p)/\s=[dp t e9 (dS L) 0 L.length,⟨0,true,1,(Bs.map λl=>[V.d (.sl (l.map λb=>[bD b]))]).set p [.so 3 1 0 (t.length+1)]⟩,cG C.length b a C,b5 1 (if r.op=7 then iV t Bs C else wW t Bs C)]) ?_ ?_ ?_
    ·intro ho B Q hB;simp only[zX,cQ,dx,dB,dC,dD,gl,ja,jg,jk,mA,eI,eJ,fX,reduceIte,reduceCtorEq,gj,i64,iD,bD,bV,iF,kM];refine aS bO.bf ?_;refine ar mix [] [(7,[0,1,2,3],[3]),(8,[1],[]),(9,[1],[1])] (by rfl) ?_;simp only[zX,cQ,dx,dB,dC,dD,gl,ja,jg,jk,mA,eI,eJ,fX,reduceIte,reduceCtorEq,gj,i64,iD,bD,bV,iF,kM,dp,afQ,afS];refine rD WL ?_;simp only[zX,cQ,dx,dB,dC,dD,gl,ja,jg,jk,mA,eI,eJ,fX,reduceIte,reduceCtorEq,gj,i64,iD,bD,bV,iF,kM,i0,i1,yr,U3,Su,Kl,UW,afT,afX,afO,hlo,afV,afN];refine hB _ _ ⟨?_,?_,?_,?_⟩ <;> (try simp only[zU,gj,cQ,dx,eI,reduceIte])
     ·exact iF
     ·rw[kM]
     ·rw[N6]
     ·rw[be ho];rfl
    ·intro ho B Q hB;simp only[zX,cQ,dx,dB,dC,dD,gl,ja,jg,jk,mA,eI,eJ,fX,reduceIte,reduceCtorEq,gj,i64,iD,bD,bV,iF,kM];refine aS bO.bf ?_;refine ar mix [] [(7,[0,1,2,3],[3]),(8,[1],[]),(9,[1],[1])] (by rfl) ?_;simp only[zX,cQ,dx,dB,dC,dD,gl,ja,jg,jk,mA,eI,eJ,fX,reduceIte,reduceCtorEq,gj,i64,iD,bD,bV,iF,kM,dp,afQ,afS];refine rD XB ?_;simp only[zX,cQ,dx,dB,dC,dD,gl,ja,jg,jk,mA,eI,eJ,fX,reduceIte,reduceCtorEq,gj,i64,iD,bD,bV,iF,kM,i0,i1,yr,U3,Su,Kl,UW,afT,afX,afO,hlo,afV,afN];refine hB _ _ ⟨?_,?_,?_,?_⟩ <;> (try simp only[zU,gj,cQ,dx,eI,reduceIte])
     ·exact iF
     ·rw[kM]
     ·rw[N6]
     ·rw[ap ho];rfl
    clear iF kM WL XB dR U3 Su Kl UW;rintro e s ⟨iF,kM,CV,rfl⟩;have GM:(if r.op=7 then iV t Bs C else wW t Bs C).length=t.length+1:=by
     split
     ·exact wq _ _ _
     ·exact Ck _ _ _
    generalize (if r.op=7 then iV t Bs C else wW t Bs C)=lb at *;have La:∀v,((Bs.map λl=>[V.d (.sl (l.map λb=>[D.sc (Value.bool b)]))]).set p v)[p]?=some v:=λv=>agc (by simpa using yr);rw[N6]at CV;simp only[zX,cQ,dx,dB,dC,dD,gl,ja,jg,jk,mA,eI,eJ,fX,reduceIte,reduceCtorEq,gj,i64,iD,bD,bV,dp,iF,kM,CV,i0,i1,afT,afX,La];refine au (λn e s=>∃m:Nat,n=t.length+1-m/\m<=t.length+1/\e 10=.rf 0 0 0 0/\e 11=i64 p/\e 12=.d (.el [D.sc (Value.int IntKind.i64 r.op),D.sl (List.map aV r.set),D.sl (List.map Re.cells r.kids),D.sc (Value.int IntKind.i64 r.mn),D.sc (Value.int IntKind.i64 r.mx),D.sc (Value.int IntKind.i64 r.mode),D.sc (Value.int IntKind.i64 r.n),D.sc (Value.bool r.neg),D.sl [[xd]],D.sc (Value.int IntKind.i64 p)])/\e 114=i64 ((t.length+1:Nat):Int)/\e 115=i64 m/\s=[dp t e9 (dS L) 0 L.length,⟨0,true,1,(Bs.map λl=>[V.d (.sl (l.map λb=>[bD b]))]).set p [.so 3 1 0 (t.length+1)]⟩,cG C.length b a C,b5 1 (hZ r.neg m lb)])
     ⟨_,_,_,br.refl,0,rfl,by omega,by (try simp only[zU,gj,cQ,dx,eI,reduceIte]);exact iF,by (try simp only[zU,gj,cQ,dx,eI,reduceIte]);exact kM,by (try simp only[zU,gj,cQ,dx,eI,reduceIte]);exact CV,rfl,rfl,by rw[EM];rfl⟩ ?_
    clear iF kM CV;rintro n e s ⟨m,rfl,hm,iF,kM,CV,F0,FM,rfl⟩;rcases agi m (t.length+1) with hmt|fI
    ·obtain⟨y,hy⟩:∃y,lb[m]?=some y:=⟨_,afP (by omega)⟩
     have Wo:=Hy (neg:=r.neg) hy;have Zy:=Ey (neg:=r.neg) hy;have Vw:=HM r.neg m lb;have m0:(0:Int)<=(m:Int):=by omega
     have m1:(m:Int)<((t.length+1:Nat):Int):=by omega
     have m2:m<(hZ r.neg m lb).length:=by omega
     generalize ZK:hZ r.neg (m+1) lb=F2 at *;generalize hZ r.neg m lb=F1 at *;simp only[zX,cQ,dx,dB,dC,dD,gl,ja,jg,jk,mA,eI,eJ,fX,reduceIte,reduceCtorEq,gj,i64,iD,bD,bV,dp,b5,iF,kM,CV,F0,FM,m1,La,afT];refine ar mix [25] [] (by rfl) ?_;simp only[zX,cQ,dx,dB,dC,dD,gl,ja,jg,jk,mA,eI,eJ,fX,reduceIte,reduceCtorEq,gj,i64,iD,bD,bV,b5,iF,kM,CV,F0,FM,i0,i1,m0,m1,m2,La,Wo,afT,afX,afO,afV,afN];refine⟨t.length+1-(m+1),_,_,by omega,br.refl,m+1,rfl,hmt,?_,?_,?_,?_,?_,by rw[ZK,<- Zy,ahg];rfl⟩ <;> (try simp only[zU,gj,cQ,dx,eI,reduceIte])
     ·exact iF
     ·exact kM
     ·exact CV
     ·exact F0
     ·rw[bd _ (by omega)];rfl
    ·have QL:m=lb.length:=by omega
     subst QL;rw[IZ,<- L2,GM];have MW:=qS t Bs r p;rw[L2]at MW;have wi:IntKind.i64.wrap ((p:Int)-1)=(L.length:Int)-1-((c+1:Nat):Int):=by rw[bd _ (by omega)];omega
     rw[L2];rw[L2]at Sj;generalize (lb.map λb=>b != r.neg)=lf at *;rw[GM]at FM;have UE:¬((t.length+1:Nat):Int)<((t.length+1:Nat):Int):=by omega
     simp only[zX,cQ,dx,dB,dC,dD,gl,ja,jg,jk,mA,eI,eJ,fX,reduceIte,reduceCtorEq,gj,i64,iD,bD,bV,iF,kM,CV,F0,FM,UE,wi];refine⟨L.length-(c+1),_,_,by omega,br.drop 2 (by omega) [10,11],c+1,rfl,by omega,?_,?_,?_⟩
     ·rw[rz (by rfl)]
      (try simp only[zU,gj,cQ,dx,eI,reduceIte])
      rw[iF];rfl
     ·rw[rz (by rfl)]
      (try simp only[zU,gj,cQ,dx,eI,reduceIte])
      rfl
     ·have:=LY t e9 (dS L) L.length p (t.length+1) Bs lf MW (cG C.length b a C);rw[UC,Sj];exact this
   ·have Z3:c=L.length:=by omega
    subst Z3;have RC:¬(0:Int)<=(L.length:Int)-1-(L.length:Int):=by omega
    simp only[zX,cQ,dx,dB,dC,dD,gl,ja,jg,jk,mA,eI,eJ,fX,reduceIte,reduceCtorEq,gj,i64,iD,bD,bV,iF,kM,RC,ge_iff_le,sg,xR];refine⟨[0,1],rfl,?_⟩;simp only[lF,afR,afU,agW,agX,ji];exact⟨rfl,rfl⟩
def pS (p:ic) (t:List Int):List (List Bool):=if dg p t=0 then aU t (p.re.bw 0) (p.re.bw 0).length else []
def lJ (Bs:List (List Bool)):V:=.d (.sl (Bs.map λl=>[.sl (l.map λb=>[bD b])]))
def J4 (t:List Int) (root parts:D) (Y nb:Nat):VL.Obj:=⟨0,true,4,[[.d (al t),.d root,.d parts,.so Y 0 0 nb]]⟩
theorem sI {p:ic}{t:List Int} (hf:p.re.bC=true) (h:dg p t=0) {s:List VL.Obj}{K:V->List VL.Obj->Prop}
  (hk:K (.tu [.rf s.length 0 0 0,i64 0]) (s++[J4 t (p.re.bj 0) (dS (p.re.bw 0)) (s.length+1) (p.re.bw 0).length,fr 0 (aU t (p.re.bw 0) (p.re.bw 0).length)])) :
  aq Try.prog 27 [aZ p,.d (al t)] s K:=by
 refine jc (NL p t hf h) [] rfl (by simp) (λk o h=>by simp at h) (by cases p;simp [aZ,aL,aL.go,Re.ae,i64,bV,iD,bD]) (by cases p;simp [aZ,ah,ah.go,Re.ae,i64,bV]) rfl ?_;rintro v s' ⟨rfl,rfl⟩ _;have e1:uZ [] s [] [dp t (p.re.bj 0) (dS (p.re.bw 0)) 0 (p.re.bw 0).length,fr 0 (aU t (p.re.bw 0) (p.re.bw 0).length)]=[s.length,s.length+1]:=rfl;rw[e1];have e5:aL [s.length,s.length+1] (.tu [.rf 0 0 0 0,i64 0])=.tu [.rf s.length 0 0 0,i64 0]:=rfl;have e6:∀n a b,aT [s.length,s.length+1] (dp t a b 0 n)=J4 t a b (s.length+1) n:=λn a b=>rfl;rw[e5];simp only[af0,agD,agH,afU,afR,e6,fh,aE];exact hk
theorem x8 (p:ic) (t:List Int) (hf:p.re.bC=true) (hl:t.length<=1000000):aO Try.prog 18 [aZ p,.d (al t)] (.tu [lJ (pS p t),i64 (dg p t)]):=by
 by_cases h:dg p t=0
 ·have hb:pS p t=aU t (p.re.bw 0) (p.re.bw 0).length:=be h;rw[hb,h];have cI:=λs K hk=>sI hf h (s:=s) (K:=K) hk;have Ms:=dk t (p.re.bw 0) (p.re.bw 0).length;generalize aU t (p.re.bw 0) (p.re.bw 0).length=Bs at *;generalize (p.re.bw 0).length=n at *;generalize p.re.bj 0=rd at *;generalize dS (p.re.bw 0)=pd at *;clear h hf hb;cases p with
  |mk re ak aN =>
  unfold aZ at cI;simp only[Re.ae,afR,afU,afQ,afS,i64,iD,bD,bV,al]at cI;refine an Try.func18 rfl Try.ntmps18 Try.results18 rfl 0 247 (by simp) (by simp) ?_;simp only[zX,cQ,dx,dB,dC,dD,gl,ja,jg,jk,mA,eI,eJ,fX,reduceIte,reduceCtorEq,gj,i64,aZ,Re.ae,bV,iD,bD,al,lJ];refine cI _ _ ?_;simp only[zX,cQ,dx,dB,dC,dD,gl,ja,jg,jk,mA,eI,eJ,fX,reduceIte,reduceCtorEq,gj,i64,bV,iD,bD,al,lJ,J4,afZ,af0,afX,afQ,afS,ne_eq,not_true_eq_false];have hg:(fr 0 Bs).g=0:=rfl;have he:(fr 0 Bs).aw=(Bs.map λl=>[D.sl (l.map λb=>[D.sc (Value.bool b)])]).map λc=>c.map V.d:=by rw[agy];rfl
  have qX:(fr 0 Bs).aw.length=n:=by rw[he];simpa using Ms
  rw[qX,be ⟨hg,af3 _⟩,he,eH 7 0 _ _ _ (by simp;omega)];rfl
 ·have hb:pS p t=[]:=ap h;rw[hb];have he:=yy p t hf h hl;generalize dg p t=se at *;clear hf hb;cases p with
  |mk re ak aN =>
  unfold aZ at he;simp only[Re.ae,afR,afU,afQ,afS,i64,iD,bD,bV,al]at he;refine an Try.func18 rfl Try.ntmps18 Try.results18 rfl 0 247 (by simp) (by simp) ?_;simp only[zX,cQ,dx,dB,dC,dD,gl,ja,jg,jk,mA,eI,eJ,fX,reduceIte,reduceCtorEq,gj,i64,aZ,Re.ae,bV,iD,bD,al,lJ];refine aj he rfl rfl ?_;simp only[zX,cQ,dx,dB,dC,dD,gl,ja,jg,jk,mA,eI,eJ,fX,reduceIte,reduceCtorEq,gj,i64,bV,iD,bD,al,lJ,ne_eq,h,not_false_eq_true];all_goals rfl
end Go.Proofs.Ytfmdmlfhigocaaa
