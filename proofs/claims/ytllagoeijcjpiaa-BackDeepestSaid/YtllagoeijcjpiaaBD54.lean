/- A part of the proof (H20). -/
import Derived.Test.YtllagoeijcjpiaaBD53
import Derived.Test.YtllagoeijcjpiaaBD52
set_option linter.unusedSimpArgs false
set_option linter.unusedVariables false
set_option maxRecDepth 100000
set_option maxHeartbeats 80000000
namespace Go.Proofs.Ytllagoeijcjpiaa
open Go.VL
theorem tL {n:Int} (hn:iV n):iV (n.tdiv 3):=by
 unfold iV at *
 rcases Int.le_total 0 n with h|h
 ·rw[Int.tdiv_eq_ediv_of_nonneg h];omega
 ·have:n.tdiv 3=-((-n).tdiv 3):=by rw[Int.neg_tdiv];omega
  rw[this,Int.tdiv_eq_ediv_of_nonneg (by omega)];omega
theorem HR (n:Int) (hn:iV n):∃F:Int,0≤F∧F≤3000∧(n.tmod 3=0∧lQ (n.tdiv 3) 40=F∨n.tmod 3≠0∧3000=F):=by
 by_cases h:n.tmod 3=0
 ·have:=ta (n.tdiv 3) 40 (by omega) (tL hn)
  exact⟨_,this.1,by omega,.inl ⟨h,rfl⟩⟩
 ·exact⟨3000,by omega,by omega,.inr ⟨h,rfl⟩⟩
theorem vI (l:List Int) (hl:∀x∈l,iV x) (m:List Int) (hm:∀x∈m,iV x) (at_ n:Int) (ha:iV at_) (hn:iV n):bI Try.prog 5 [.d (ay l),.d (ay m),i64 at_,i64 n] (bV true):=by
 obtain⟨p,t,hfit,jm,w8,hlen⟩:=IX l m hl hm
 have SX:=uC at_ ((t.length:Int)+1) (by omega) ha
 have yh:=ta at_ ((t.length:Int)+1) (by omega) ha
 generalize lQ at_ ((t.length:Int)+1)=i at *
 have hE:=jm i yh.1 (by omega)
 obtain⟨OO,OM,OH,_⟩:=xw hE
 obtain⟨F,Q9,O3,dG⟩:=HR n hn
 have hv:cF p t F=0:=Ci OO (by omega) (by omega)
 have R9:=(dA hv).1
 obtain⟨L,mE,Ta,_,hL,hO,_,_,HE,IG⟩:=JG hv OM OH (m:=fresh p) rfl
 have Vo:L.length≤3002:=by
  obtain⟨_,_,e2⟩:=iY (ah:=-1) hv OM OH
  obtain⟨new,pM,m1,m2,m3,m4,_⟩:=e2.more
  have ga:=e2.s1
  rw[Ta]at m1
  have:L.length=new.length:=by have:=congrArg List.length m1;simpa using this
  simp only at m4
  omega
 clear Ta
 have P1:n.tmod 3=0→bI Try.prog 12 [i64 (n.tdiv 3),i64 40] (i64 (lQ (n.tdiv 3) 40)):=fun h=>uC _ 40 (by omega) (tL hn)
 have eL:=fun b a=>bU 0 b a (fresh p) (.fu []) rfl
 have hR:=Sp hv OM OH hL hO HE IG
 have OT:=fun {k:Nat}{q:Int×aq×aB} (hk:L[k]?=some q) {m:aB}{T:V} (hn:K9 p L mE k m T)=>Pf hv OM OH hL hO HE IG hk hn
 have Mn:=fun k hk=>Jw hv OM OH hO w8 (by omega) k hk
 have rn:=KD hv OM OH hO w8 (by omega)
 have tz:=fun {m:aB} (hm:PU p m) (T:V) (hT:ar 3 T=true) (Cq:bu [0,1,2] T=T)=>Lm R9 (t:=t) (by omega) (FN hv) 0 5 hm T hT Cq
 have MB:=Ho
 have w1:IntKind.i64.wrap ((t.length:Int)+1)=(t.length:Int)+1:=bR _ (by omega)
 have w3:IntKind.i64.wrap (n.tdiv 3)=n.tdiv 3:=bR _ (by have:=tL hn;unfold iV at this;omega)
 have rF:=fun s K hk=>CP w8 R9 (s:=s) (K:=K) hk
 clear jm hE OO hO IG hL
 obtain⟨m1,T1,e1,e2,e3,sn,err,Lg,J9,c1⟩:=hR
 obtain⟨b1,xP⟩:∃b1,L[0]?.isSome=b1:=⟨_,rfl⟩
 rw[xP]at c1 J9
 have Ok:=Mn 0 (by omega)
 simp only[eb,Re.ae p.re,VP,VO,Vz,Vx,i64,iD,bD,bV,VU,Int.natCast_one]at hfit rF Mn rn Ok P1
 simp only[i64]at SX
 refine av Try.func5 rfl Try.ntmps5 Try.results5 rfl 0 4030223 (by simp) (by simp) ?_
 simp only[zX,simprocAttr,zY,cE,w1]
 refine aE hfit rfl rfl ?_
 simp only[zX,simprocAttr,zY,cE,w1]
 refine aE SX rfl rfl ?_
 simp only[zX,simprocAttr,zY,cE,w1]
 refine rF _ _ (fun b a=>?_)
 simp only[zX,simprocAttr,zY,cE,w1]
 refine⟨rfl,⟨_,rfl⟩,?_⟩
 refine cV (X:=1) (Y:=2) (Z:=3) (r':=i64 0) (eL b a) rfl rfl rfl (by decide) rfl rfl rfl rfl rfl rfl ?_
 simp only[zX,simprocAttr,zY,cE,w1]
 obtain⟨x1,x2,x3,x4,xn,xe,hx,_,_,_,_⟩:=FD (p:=p) (t:=t) (i:=0) (f:=5) R9
 rw[hx]at tz
 rcases dG with ⟨Q6,hF⟩|⟨Q6,hF⟩
 ·simp only[zX,simprocAttr,zY,cE,w3,Q6]
  refine aE (P1 Q6) rfl rfl ?_
  simp only[zX,simprocAttr,zY,cE]
  refine cV (X:=1) (Y:=2) (Z:=3) (r':=.tu [.ag [i64 e1,i64 e2,.d (bd e3)],bV b1,i64 sn,i64 err]) (c1 b a) rfl rfl rfl (by decide) rfl rfl rfl (by subst hF;rfl) rfl rfl ?_
  simp only[zX,simprocAttr,zY,cE]
  have gT:=fun b a=>bU 0 b a m1 T1 Lg.refs
  have mc:=Lg.deep
  rw[mc]at gT
  refine an mix [] [(1,[1,2,3],[1,2,3]),(2,[0],[])] (by rfl) ?_
  simp only[zX,simprocAttr,zY,cE]
  refine wE (X:=1) (Y:=2) (Z:=3) (r':=i64 (zC L mE 0)) (gT b a) Lg.refs rfl rfl (by decide) rfl rfl rfl rfl rfl rfl ?_
  simp only[zX,simprocAttr,zY,cE]
  have KM:=Ok
  rw[← hF]at KM
  refine cz KM rfl rfl ?_
  simp only[zX,simprocAttr,zY,cE]
  refine aY (fun n e s=>∃(j:Nat) (m:aB) (T:V) (f:Int) (q:Bool),n=3-j∧j≤3∧K9 p L mE j m T∧L[j]?.isSome=q∧(q=true→f=0)∧e 9=.rf 0 0 0 0∧e 10=.d (ay t)∧e 11=i64 i∧e 12=.pp 1 0 0 0 b a∧e 14=i64 F∧e 16=bV q∧e 18=i64 f∧e 19=i64 ((j+1+1:Nat):Int) ∧
    s=[iu p,vW 2 3 m (bu [1,2,3] T),xB b a m,wH m,⟨0,true,3,[[i64 e1,i64 e2,.d (bd e3)]]⟩])
   ⟨_,_,_,dt.refl,0,m1,T1,err,b1,rfl,by omega,Lg,xP,J9,rfl,rfl,rfl,rfl,by rw[← hF];rfl,rfl,rfl,rfl,rfl⟩ ?_
  clear mc gT xP J9 Lg c1
  rintro n e s ⟨j,m,T,f,q,rfl,hj,hD,hq,BH,h9,de,cq,bW,dh,fj,fv,yz,rfl⟩
  by_cases l1:((j+1+1:Nat):Int)<5
  ·cases q with
   |true =>
    obtain rfl:=BH rfl
    obtain⟨q,EE⟩:=Option.isSome_iff_exists.1 hq
    obtain⟨m',T',y1,y2,y3,yn,ye,xx,DJ,vL⟩:=OT EE hD
    obtain⟨q',oO⟩:∃q',L[j+1]?.isSome=q':=⟨_,rfl⟩
    rw[oO]at vL DJ
    have gT:=fun b a=>bU 0 b a m' T' xx.refs
    rw[xx.deep]at gT
    have Sk:=Mn (j+1) (by omega)
    have wj:IntKind.i64.wrap (((j+1+1:Nat):Int)+1)=((j+1+1:Nat):Int)+1:=bR _ (by omega)
    simp only[zX,simprocAttr,zY,cE,h9,de,cq,bW,dh,fj,fv,yz,l1]
    refine cV (X:=1) (Y:=2) (Z:=3) (r':=.tu [.ag [i64 y1,i64 y2,.d (bd y3)],bV q',i64 yn,i64 ye]) (vL b a) hD.refs rfl rfl (by decide) rfl rfl rfl rfl rfl rfl ?_
    simp only[zX,simprocAttr,zY,cE,h9,de,cq,bW,dh,fj,fv,yz]
    refine an mix [] [(1,[1,2,3],[1,2,3]),(2,[0],[])] (by rfl) ?_
    simp only[zX,simprocAttr,zY,cE,h9,de,cq,bW,dh,fj,fv,yz]
    refine wE (X:=1) (Y:=2) (Z:=3) (r':=i64 (zC L mE (j+1))) (gT b a) xx.refs rfl rfl (by decide) rfl rfl rfl rfl rfl rfl ?_
    simp only[zX,simprocAttr,zY,cE,h9,de,cq,bW,dh,fj,fv,yz,iu]
    refine cz Sk rfl rfl ?_
    simp only[zX,simprocAttr,zY,cE,h9,de,cq,bW,dh,fj,fv,yz,wj]
    refine⟨3-(j+1),_,_,by omega,dt.cut 5 (by omega) rfl ?_ [9,10,11,12,14,16,18,19] ?_,j+1,m',T',ye,q',rfl,by omega,xx,oO,DJ,?_,?_,?_,?_,?_,?_,?_,?_,rfl⟩ <;> (try simp only[zU,Nat.reduceBEq,Nat.reduceShiftRight,Nat.reduceMod,Nat.reduceEqDiff,reduceIte])
    ·have:=Ad (m:=m') b a (Y:=2) (Z:=3) (n:=5) (by omega) (by omega) (GX (X:=1) (Y:=2) (Z:=3) (n:=5) (by omega) (by omega) (by omega) xx.refs)
     show (cP 5 (iu p)&&(cP 5 (vW 2 3 m' (bu [1,2,3] T'))&&(cP 5 (xB b a m')&&(cP 5 (wH m')&&_))))=true
     rw[this.1,this.2.1,this.2.2]
     rfl
    ·simp [bg,fP,cu,ar,h9,de,cq,bW,dh,fj,fv,yz,i64,ay]
    ·exact h9
    ·exact de
    ·exact cq
    ·exact bW
    ·exact dh
    all_goals rfl
   |false =>
    simp only[zX,simprocAttr,zY,cE,h9,de,cq,bW,dh,fj,fv,yz,l1]
    refine aY (fun n e s=>∃(c j:Nat) (m:aB) (T:V) (f:Int) (q:Bool),n=3000-c∧c≤3000∧K9 p L mE j m T∧L[j]?.isSome=q∧(q=true→f=0∧j=c+3)∧e 9=.rf 0 0 0 0∧e 10=.d (ay t)∧e 11=i64 i∧e 12=.pp 1 0 0 0 b a∧e 14=i64 F∧e 16=bV q∧e 18=i64 f∧e 20=i64 c ∧
      s=[iu p,vW 2 3 m (bu [1,2,3] T),xB b a m,wH m,⟨0,true,3,[[i64 e1,i64 e2,.d (bd e3)]]⟩])
     ⟨_,_,_,dt.refl,0,j,m,T,f,false,rfl,by omega,hD,hq,fun h=>(by cases h),h9,de,cq,bW,dh,fj,fv,rfl,rfl⟩ ?_
    clear BH h9 de cq bW dh fj fv yz hj hq hD l1
    rintro n e s ⟨c,j,m,T,f,q,rfl,hc,hD,hq,BH,h9,de,cq,bW,dh,fj,fv,gJ,rfl⟩
    cases q with
    |true =>
     obtain⟨rfl,SJ⟩:=BH rfl
     obtain⟨q,EE⟩:=Option.isSome_iff_exists.1 hq
     have La:=(List.getElem?_eq_some_iff.1 EE).1
     have l1:(c:Int)<3000:=by omega
     obtain⟨m',T',y1,y2,y3,yn,ye,xx,DJ,vL⟩:=OT EE hD
     obtain⟨q',oO⟩:∃q',L[j+1]?.isSome=q':=⟨_,rfl⟩
     rw[oO]at vL DJ
     have wc:IntKind.i64.wrap ((c:Int)+1)=(c:Int)+1:=bR _ (by omega)
     simp only[zX,simprocAttr,zY,cE,h9,de,cq,bW,dh,fj,fv,gJ,l1]
     refine cV (X:=1) (Y:=2) (Z:=3) (r':=.tu [.ag [i64 y1,i64 y2,.d (bd y3)],bV q',i64 yn,i64 ye]) (vL b a) hD.refs rfl rfl (by decide) rfl rfl rfl rfl rfl rfl ?_
     simp only[zX,simprocAttr,zY,cE,h9,de,cq,bW,dh,fj,fv,gJ,wc]
     refine⟨3000-(c+1),_,_,by omega,dt.cut 5 (by omega) rfl ?_ [9,10,11,12,14,16,18,20] ?_,c+1,j+1,m',T',ye,q',rfl,by omega,xx,oO,fun h=>⟨DJ h,by omega⟩,?_,?_,?_,?_,?_,?_,?_,?_,rfl⟩ <;> (try simp only[zU,Nat.reduceBEq,Nat.reduceShiftRight,Nat.reduceMod,Nat.reduceEqDiff,reduceIte])
     ·have:=Ad (m:=m') b a (Y:=2) (Z:=3) (n:=5) (by omega) (by omega) (GX (X:=1) (Y:=2) (Z:=3) (n:=5) (by omega) (by omega) (by omega) xx.refs)
      show (cP 5 (iu p)&&(cP 5 (vW 2 3 m' (bu [1,2,3] T'))&&(cP 5 (xB b a m')&&(cP 5 (wH m')&&_))))=true
      rw[this.1,this.2.1,this.2.2]
      rfl
     ·simp [bg,fP,cu,ar,h9,de,cq,bW,dh,fj,fv,gJ,i64,ay]
     ·exact h9
     ·exact de
     ·exact cq
     ·exact bW
     ·exact dh
     all_goals rfl
    |false =>
     by_cases l1:(c:Int)<3000
     ·have lV:L[j]?=none:=by simpa using hq
      have mc:m.aC=mE.aC:=by rw[hD.deep];unfold zC;rw[lV]
      have gT:=fun b a=>bU 0 b a m T hD.refs
      obtain⟨m',T',_,xW,NA,_,iR,_,_,cI⟩:=tz hD.MI T hD.refs hD.MD
      have rT:=fun b a=>bU 0 b a m' T' xW
      have r7:mE.aC≤m'.aC:=by omega
      rw[mc]at gT
      simp only[zX,simprocAttr,zY,cE,h9,de,cq,bW,dh,fj,fv,gJ,l1]
      refine cV (X:=1) (Y:=2) (Z:=3) (r':=i64 mE.aC) (gT b a) hD.refs rfl rfl (by decide) rfl rfl rfl rfl rfl rfl ?_
      simp only[zX,simprocAttr,zY,cE,h9,de,cq,bW,dh,fj,fv,gJ,iu]
      refine aE rn rfl rfl ?_
      simp only[zX,simprocAttr,zY,cE,h9,de,cq,bW,dh,fj,fv,gJ]
      refine cV (X:=1) (Y:=2) (Z:=3) (r':=.tu [.ag [i64 x1,i64 x2,.d (bd x3)],bV x4,i64 xn,i64 xe]) (cI b a) hD.refs rfl rfl (by decide) rfl rfl rfl rfl rfl rfl ?_
      simp only[zX,simprocAttr,zY,cE,h9,de,cq,bW,dh,fj,fv,gJ]
      refine cV (X:=1) (Y:=2) (Z:=3) (r':=i64 m'.aC) (rT b a) xW rfl rfl (by decide) rfl rfl rfl rfl rfl rfl ?_
      simp only[zX,simprocAttr,zY,cE,r7]
      refine aE MB rfl rfl ?_
      simp only[zX,simprocAttr,zY,cE]
     ·have lV:L[j]?=none:=by simpa using hq
      have mc:m.aC=mE.aC:=by rw[hD.deep];unfold zC;rw[lV]
      have gT:=fun b a=>bU 0 b a m T hD.refs
      obtain⟨m',T',_,xW,NA,_,iR,_,_,cI⟩:=tz hD.MI T hD.refs hD.MD
      have rT:=fun b a=>bU 0 b a m' T' xW
      have r7:mE.aC≤m'.aC:=by omega
      rw[mc]at gT
      simp only[zX,simprocAttr,zY,cE,h9,de,cq,bW,dh,fj,fv,gJ,l1]
      refine cV (X:=1) (Y:=2) (Z:=3) (r':=i64 mE.aC) (gT b a) hD.refs rfl rfl (by decide) rfl rfl rfl rfl rfl rfl ?_
      simp only[zX,simprocAttr,zY,cE,h9,de,cq,bW,dh,fj,fv,gJ,iu]
      refine aE rn rfl rfl ?_
      simp only[zX,simprocAttr,zY,cE,h9,de,cq,bW,dh,fj,fv,gJ]
      refine cV (X:=1) (Y:=2) (Z:=3) (r':=.tu [.ag [i64 x1,i64 x2,.d (bd x3)],bV x4,i64 xn,i64 xe]) (cI b a) hD.refs rfl rfl (by decide) rfl rfl rfl rfl rfl rfl ?_
      simp only[zX,simprocAttr,zY,cE,h9,de,cq,bW,dh,fj,fv,gJ]
      refine cV (X:=1) (Y:=2) (Z:=3) (r':=i64 m'.aC) (rT b a) xW rfl rfl (by decide) rfl rfl rfl rfl rfl rfl ?_
      simp only[zX,simprocAttr,zY,cE,r7]
      refine aE MB rfl rfl ?_
      simp only[zX,simprocAttr,zY,cE]
  ·simp only[zX,simprocAttr,zY,cE,h9,de,cq,bW,dh,fj,fv,yz,l1]
   refine aY (fun n e s=>∃(c j:Nat) (m:aB) (T:V) (f:Int) (q:Bool),n=3000-c∧c≤3000∧K9 p L mE j m T∧L[j]?.isSome=q∧(q=true→f=0∧j=c+3)∧e 9=.rf 0 0 0 0∧e 10=.d (ay t)∧e 11=i64 i∧e 12=.pp 1 0 0 0 b a∧e 14=i64 F∧e 16=bV q∧e 18=i64 f∧e 20=i64 c ∧
     s=[iu p,vW 2 3 m (bu [1,2,3] T),xB b a m,wH m,⟨0,true,3,[[i64 e1,i64 e2,.d (bd e3)]]⟩])
    ⟨_,_,_,dt.refl,0,j,m,T,f,q,rfl,by omega,hD,hq,fun h=>⟨BH h,by omega⟩,h9,de,cq,bW,dh,fj,fv,rfl,rfl⟩ ?_
   clear BH h9 de cq bW dh fj fv yz hj hq hD l1
   rintro n e s ⟨c,j,m,T,f,q,rfl,hc,hD,hq,BH,h9,de,cq,bW,dh,fj,fv,gJ,rfl⟩
   cases q with
   |true =>
    obtain⟨rfl,SJ⟩:=BH rfl
    obtain⟨q,EE⟩:=Option.isSome_iff_exists.1 hq
    have La:=(List.getElem?_eq_some_iff.1 EE).1
    have l1:(c:Int)<3000:=by omega
    obtain⟨m',T',y1,y2,y3,yn,ye,xx,DJ,vL⟩:=OT EE hD
    obtain⟨q',oO⟩:∃q',L[j+1]?.isSome=q':=⟨_,rfl⟩
    rw[oO]at vL DJ
    have wc:IntKind.i64.wrap ((c:Int)+1)=(c:Int)+1:=bR _ (by omega)
    simp only[zX,simprocAttr,zY,cE,h9,de,cq,bW,dh,fj,fv,gJ,l1]
    refine cV (X:=1) (Y:=2) (Z:=3) (r':=.tu [.ag [i64 y1,i64 y2,.d (bd y3)],bV q',i64 yn,i64 ye]) (vL b a) hD.refs rfl rfl (by decide) rfl rfl rfl rfl rfl rfl ?_
    simp only[zX,simprocAttr,zY,cE,h9,de,cq,bW,dh,fj,fv,gJ,wc]
    refine⟨3000-(c+1),_,_,by omega,dt.cut 5 (by omega) rfl ?_ [9,10,11,12,14,16,18,20] ?_,c+1,j+1,m',T',ye,q',rfl,by omega,xx,oO,fun h=>⟨DJ h,by omega⟩,?_,?_,?_,?_,?_,?_,?_,?_,rfl⟩ <;> (try simp only[zU,Nat.reduceBEq,Nat.reduceShiftRight,Nat.reduceMod,Nat.reduceEqDiff,reduceIte])
    ·have:=Ad (m:=m') b a (Y:=2) (Z:=3) (n:=5) (by omega) (by omega) (GX (X:=1) (Y:=2) (Z:=3) (n:=5) (by omega) (by omega) (by omega) xx.refs)
     show (cP 5 (iu p)&&(cP 5 (vW 2 3 m' (bu [1,2,3] T'))&&(cP 5 (xB b a m')&&(cP 5 (wH m')&&_))))=true
     rw[this.1,this.2.1,this.2.2]
     rfl
    ·simp [bg,fP,cu,ar,h9,de,cq,bW,dh,fj,fv,gJ,i64,ay]
    ·exact h9
    ·exact de
    ·exact cq
    ·exact bW
    ·exact dh
    all_goals rfl
   |false =>
    by_cases l1:(c:Int)<3000
    ·have lV:L[j]?=none:=by simpa using hq
     have mc:m.aC=mE.aC:=by rw[hD.deep];unfold zC;rw[lV]
     have gT:=fun b a=>bU 0 b a m T hD.refs
     obtain⟨m',T',_,xW,NA,_,iR,_,_,cI⟩:=tz hD.MI T hD.refs hD.MD
     have rT:=fun b a=>bU 0 b a m' T' xW
     have r7:mE.aC≤m'.aC:=by omega
     rw[mc]at gT
     simp only[zX,simprocAttr,zY,cE,h9,de,cq,bW,dh,fj,fv,gJ,l1]
     refine cV (X:=1) (Y:=2) (Z:=3) (r':=i64 mE.aC) (gT b a) hD.refs rfl rfl (by decide) rfl rfl rfl rfl rfl rfl ?_
     simp only[zX,simprocAttr,zY,cE,h9,de,cq,bW,dh,fj,fv,gJ,iu]
     refine aE rn rfl rfl ?_
     simp only[zX,simprocAttr,zY,cE,h9,de,cq,bW,dh,fj,fv,gJ]
     refine cV (X:=1) (Y:=2) (Z:=3) (r':=.tu [.ag [i64 x1,i64 x2,.d (bd x3)],bV x4,i64 xn,i64 xe]) (cI b a) hD.refs rfl rfl (by decide) rfl rfl rfl rfl rfl rfl ?_
     simp only[zX,simprocAttr,zY,cE,h9,de,cq,bW,dh,fj,fv,gJ]
     refine cV (X:=1) (Y:=2) (Z:=3) (r':=i64 m'.aC) (rT b a) xW rfl rfl (by decide) rfl rfl rfl rfl rfl rfl ?_
     simp only[zX,simprocAttr,zY,cE,r7]
     refine aE MB rfl rfl ?_
     simp only[zX,simprocAttr,zY,cE]
    ·have lV:L[j]?=none:=by simpa using hq
     have mc:m.aC=mE.aC:=by rw[hD.deep];unfold zC;rw[lV]
     have gT:=fun b a=>bU 0 b a m T hD.refs
     obtain⟨m',T',_,xW,NA,_,iR,_,_,cI⟩:=tz hD.MI T hD.refs hD.MD
     have rT:=fun b a=>bU 0 b a m' T' xW
     have r7:mE.aC≤m'.aC:=by omega
     rw[mc]at gT
     simp only[zX,simprocAttr,zY,cE,h9,de,cq,bW,dh,fj,fv,gJ,l1]
     refine cV (X:=1) (Y:=2) (Z:=3) (r':=i64 mE.aC) (gT b a) hD.refs rfl rfl (by decide) rfl rfl rfl rfl rfl rfl ?_
     simp only[zX,simprocAttr,zY,cE,h9,de,cq,bW,dh,fj,fv,gJ,iu]
     refine aE rn rfl rfl ?_
     simp only[zX,simprocAttr,zY,cE,h9,de,cq,bW,dh,fj,fv,gJ]
     refine cV (X:=1) (Y:=2) (Z:=3) (r':=.tu [.ag [i64 x1,i64 x2,.d (bd x3)],bV x4,i64 xn,i64 xe]) (cI b a) hD.refs rfl rfl (by decide) rfl rfl rfl rfl rfl rfl ?_
     simp only[zX,simprocAttr,zY,cE,h9,de,cq,bW,dh,fj,fv,gJ]
     refine cV (X:=1) (Y:=2) (Z:=3) (r':=i64 m'.aC) (rT b a) xW rfl rfl (by decide) rfl rfl rfl rfl rfl rfl ?_
     simp only[zX,simprocAttr,zY,cE,r7]
     refine aE MB rfl rfl ?_
     simp only[zX,simprocAttr,zY,cE]
 ·simp only[zX,simprocAttr,zY,cE,Q6]
  refine cV (X:=1) (Y:=2) (Z:=3) (r':=.tu [.ag [i64 e1,i64 e2,.d (bd e3)],bV b1,i64 sn,i64 err]) (c1 b a) rfl rfl rfl (by decide) rfl rfl rfl (by subst hF;rfl) rfl rfl ?_
  simp only[zX,simprocAttr,zY,cE]
  have gT:=fun b a=>bU 0 b a m1 T1 Lg.refs
  have mc:=Lg.deep
  rw[mc]at gT
  refine an mix [] [(1,[1,2,3],[1,2,3]),(2,[0],[])] (by rfl) ?_
  simp only[zX,simprocAttr,zY,cE]
  refine wE (X:=1) (Y:=2) (Z:=3) (r':=i64 (zC L mE 0)) (gT b a) Lg.refs rfl rfl (by decide) rfl rfl rfl rfl rfl rfl ?_
  simp only[zX,simprocAttr,zY,cE]
  have KM:=Ok
  rw[← hF]at KM
  refine cz KM rfl rfl ?_
  simp only[zX,simprocAttr,zY,cE]
  refine aY (fun n e s=>∃(j:Nat) (m:aB) (T:V) (f:Int) (q:Bool),n=3-j∧j≤3∧K9 p L mE j m T∧L[j]?.isSome=q∧(q=true→f=0)∧e 9=.rf 0 0 0 0∧e 10=.d (ay t)∧e 11=i64 i∧e 12=.pp 1 0 0 0 b a∧e 14=i64 F∧e 16=bV q∧e 18=i64 f∧e 19=i64 ((j+1+1:Nat):Int) ∧
    s=[iu p,vW 2 3 m (bu [1,2,3] T),xB b a m,wH m,⟨0,true,3,[[i64 e1,i64 e2,.d (bd e3)]]⟩])
   ⟨_,_,_,dt.refl,0,m1,T1,err,b1,rfl,by omega,Lg,xP,J9,rfl,rfl,rfl,rfl,by rw[← hF];rfl,rfl,rfl,rfl,rfl⟩ ?_
  clear mc gT xP J9 Lg c1
  rintro n e s ⟨j,m,T,f,q,rfl,hj,hD,hq,BH,h9,de,cq,bW,dh,fj,fv,yz,rfl⟩
  by_cases l1:((j+1+1:Nat):Int)<5
  ·cases q with
   |true =>
    obtain rfl:=BH rfl
    obtain⟨q,EE⟩:=Option.isSome_iff_exists.1 hq
    obtain⟨m',T',y1,y2,y3,yn,ye,xx,DJ,vL⟩:=OT EE hD
    obtain⟨q',oO⟩:∃q',L[j+1]?.isSome=q':=⟨_,rfl⟩
    rw[oO]at vL DJ
    have gT:=fun b a=>bU 0 b a m' T' xx.refs
    rw[xx.deep]at gT
    have Sk:=Mn (j+1) (by omega)
    have wj:IntKind.i64.wrap (((j+1+1:Nat):Int)+1)=((j+1+1:Nat):Int)+1:=bR _ (by omega)
    simp only[zX,simprocAttr,zY,cE,h9,de,cq,bW,dh,fj,fv,yz,l1]
    refine cV (X:=1) (Y:=2) (Z:=3) (r':=.tu [.ag [i64 y1,i64 y2,.d (bd y3)],bV q',i64 yn,i64 ye]) (vL b a) hD.refs rfl rfl (by decide) rfl rfl rfl rfl rfl rfl ?_
    simp only[zX,simprocAttr,zY,cE,h9,de,cq,bW,dh,fj,fv,yz]
    refine an mix [] [(1,[1,2,3],[1,2,3]),(2,[0],[])] (by rfl) ?_
    simp only[zX,simprocAttr,zY,cE,h9,de,cq,bW,dh,fj,fv,yz]
    refine wE (X:=1) (Y:=2) (Z:=3) (r':=i64 (zC L mE (j+1))) (gT b a) xx.refs rfl rfl (by decide) rfl rfl rfl rfl rfl rfl ?_
    simp only[zX,simprocAttr,zY,cE,h9,de,cq,bW,dh,fj,fv,yz,iu]
    refine cz Sk rfl rfl ?_
    simp only[zX,simprocAttr,zY,cE,h9,de,cq,bW,dh,fj,fv,yz,wj]
    refine⟨3-(j+1),_,_,by omega,dt.cut 5 (by omega) rfl ?_ [9,10,11,12,14,16,18,19] ?_,j+1,m',T',ye,q',rfl,by omega,xx,oO,DJ,?_,?_,?_,?_,?_,?_,?_,?_,rfl⟩ <;> (try simp only[zU,Nat.reduceBEq,Nat.reduceShiftRight,Nat.reduceMod,Nat.reduceEqDiff,reduceIte])
    ·have:=Ad (m:=m') b a (Y:=2) (Z:=3) (n:=5) (by omega) (by omega) (GX (X:=1) (Y:=2) (Z:=3) (n:=5) (by omega) (by omega) (by omega) xx.refs)
     show (cP 5 (iu p)&&(cP 5 (vW 2 3 m' (bu [1,2,3] T'))&&(cP 5 (xB b a m')&&(cP 5 (wH m')&&_))))=true
     rw[this.1,this.2.1,this.2.2]
     rfl
    ·simp [bg,fP,cu,ar,h9,de,cq,bW,dh,fj,fv,yz,i64,ay]
    ·exact h9
    ·exact de
    ·exact cq
    ·exact bW
    ·exact dh
    all_goals rfl
   |false =>
    simp only[zX,simprocAttr,zY,cE,h9,de,cq,bW,dh,fj,fv,yz,l1]
    refine aY (fun n e s=>∃(c j:Nat) (m:aB) (T:V) (f:Int) (q:Bool),n=3000-c∧c≤3000∧K9 p L mE j m T∧L[j]?.isSome=q∧(q=true→f=0∧j=c+3)∧e 9=.rf 0 0 0 0∧e 10=.d (ay t)∧e 11=i64 i∧e 12=.pp 1 0 0 0 b a∧e 14=i64 F∧e 16=bV q∧e 18=i64 f∧e 20=i64 c ∧
      s=[iu p,vW 2 3 m (bu [1,2,3] T),xB b a m,wH m,⟨0,true,3,[[i64 e1,i64 e2,.d (bd e3)]]⟩])
     ⟨_,_,_,dt.refl,0,j,m,T,f,false,rfl,by omega,hD,hq,fun h=>(by cases h),h9,de,cq,bW,dh,fj,fv,rfl,rfl⟩ ?_
    clear BH h9 de cq bW dh fj fv yz hj hq hD l1
    rintro n e s ⟨c,j,m,T,f,q,rfl,hc,hD,hq,BH,h9,de,cq,bW,dh,fj,fv,gJ,rfl⟩
    cases q with
    |true =>
     obtain⟨rfl,SJ⟩:=BH rfl
     obtain⟨q,EE⟩:=Option.isSome_iff_exists.1 hq
     have La:=(List.getElem?_eq_some_iff.1 EE).1
     have l1:(c:Int)<3000:=by omega
     obtain⟨m',T',y1,y2,y3,yn,ye,xx,DJ,vL⟩:=OT EE hD
     obtain⟨q',oO⟩:∃q',L[j+1]?.isSome=q':=⟨_,rfl⟩
     rw[oO]at vL DJ
     have wc:IntKind.i64.wrap ((c:Int)+1)=(c:Int)+1:=bR _ (by omega)
     simp only[zX,simprocAttr,zY,cE,h9,de,cq,bW,dh,fj,fv,gJ,l1]
     refine cV (X:=1) (Y:=2) (Z:=3) (r':=.tu [.ag [i64 y1,i64 y2,.d (bd y3)],bV q',i64 yn,i64 ye]) (vL b a) hD.refs rfl rfl (by decide) rfl rfl rfl rfl rfl rfl ?_
     simp only[zX,simprocAttr,zY,cE,h9,de,cq,bW,dh,fj,fv,gJ,wc]
     refine⟨3000-(c+1),_,_,by omega,dt.cut 5 (by omega) rfl ?_ [9,10,11,12,14,16,18,20] ?_,c+1,j+1,m',T',ye,q',rfl,by omega,xx,oO,fun h=>⟨DJ h,by omega⟩,?_,?_,?_,?_,?_,?_,?_,?_,rfl⟩ <;> (try simp only[zU,Nat.reduceBEq,Nat.reduceShiftRight,Nat.reduceMod,Nat.reduceEqDiff,reduceIte])
     ·have:=Ad (m:=m') b a (Y:=2) (Z:=3) (n:=5) (by omega) (by omega) (GX (X:=1) (Y:=2) (Z:=3) (n:=5) (by omega) (by omega) (by omega) xx.refs)
      show (cP 5 (iu p)&&(cP 5 (vW 2 3 m' (bu [1,2,3] T'))&&(cP 5 (xB b a m')&&(cP 5 (wH m')&&_))))=true
      rw[this.1,this.2.1,this.2.2]
      rfl
     ·simp [bg,fP,cu,ar,h9,de,cq,bW,dh,fj,fv,gJ,i64,ay]
     ·exact h9
     ·exact de
     ·exact cq
     ·exact bW
     ·exact dh
     all_goals rfl
    |false =>
     by_cases l1:(c:Int)<3000
     ·have lV:L[j]?=none:=by simpa using hq
      have mc:m.aC=mE.aC:=by rw[hD.deep];unfold zC;rw[lV]
      have gT:=fun b a=>bU 0 b a m T hD.refs
      obtain⟨m',T',_,xW,NA,_,iR,_,_,cI⟩:=tz hD.MI T hD.refs hD.MD
      have rT:=fun b a=>bU 0 b a m' T' xW
      have r7:mE.aC≤m'.aC:=by omega
      rw[mc]at gT
      simp only[zX,simprocAttr,zY,cE,h9,de,cq,bW,dh,fj,fv,gJ,l1]
      refine cV (X:=1) (Y:=2) (Z:=3) (r':=i64 mE.aC) (gT b a) hD.refs rfl rfl (by decide) rfl rfl rfl rfl rfl rfl ?_
      simp only[zX,simprocAttr,zY,cE,h9,de,cq,bW,dh,fj,fv,gJ,iu]
      refine aE rn rfl rfl ?_
      simp only[zX,simprocAttr,zY,cE,h9,de,cq,bW,dh,fj,fv,gJ]
      refine cV (X:=1) (Y:=2) (Z:=3) (r':=.tu [.ag [i64 x1,i64 x2,.d (bd x3)],bV x4,i64 xn,i64 xe]) (cI b a) hD.refs rfl rfl (by decide) rfl rfl rfl rfl rfl rfl ?_
      simp only[zX,simprocAttr,zY,cE,h9,de,cq,bW,dh,fj,fv,gJ]
      refine cV (X:=1) (Y:=2) (Z:=3) (r':=i64 m'.aC) (rT b a) xW rfl rfl (by decide) rfl rfl rfl rfl rfl rfl ?_
      simp only[zX,simprocAttr,zY,cE,r7]
      refine aE MB rfl rfl ?_
      simp only[zX,simprocAttr,zY,cE]
     ·have lV:L[j]?=none:=by simpa using hq
      have mc:m.aC=mE.aC:=by rw[hD.deep];unfold zC;rw[lV]
      have gT:=fun b a=>bU 0 b a m T hD.refs
      obtain⟨m',T',_,xW,NA,_,iR,_,_,cI⟩:=tz hD.MI T hD.refs hD.MD
      have rT:=fun b a=>bU 0 b a m' T' xW
      have r7:mE.aC≤m'.aC:=by omega
      rw[mc]at gT
      simp only[zX,simprocAttr,zY,cE,h9,de,cq,bW,dh,fj,fv,gJ,l1]
      refine cV (X:=1) (Y:=2) (Z:=3) (r':=i64 mE.aC) (gT b a) hD.refs rfl rfl (by decide) rfl rfl rfl rfl rfl rfl ?_
      simp only[zX,simprocAttr,zY,cE,h9,de,cq,bW,dh,fj,fv,gJ,iu]
      refine aE rn rfl rfl ?_
      simp only[zX,simprocAttr,zY,cE,h9,de,cq,bW,dh,fj,fv,gJ]
      refine cV (X:=1) (Y:=2) (Z:=3) (r':=.tu [.ag [i64 x1,i64 x2,.d (bd x3)],bV x4,i64 xn,i64 xe]) (cI b a) hD.refs rfl rfl (by decide) rfl rfl rfl rfl rfl rfl ?_
      simp only[zX,simprocAttr,zY,cE,h9,de,cq,bW,dh,fj,fv,gJ]
      refine cV (X:=1) (Y:=2) (Z:=3) (r':=i64 m'.aC) (rT b a) xW rfl rfl (by decide) rfl rfl rfl rfl rfl rfl ?_
      simp only[zX,simprocAttr,zY,cE,r7]
      refine aE MB rfl rfl ?_
      simp only[zX,simprocAttr,zY,cE]
  ·simp only[zX,simprocAttr,zY,cE,h9,de,cq,bW,dh,fj,fv,yz,l1]
   refine aY (fun n e s=>∃(c j:Nat) (m:aB) (T:V) (f:Int) (q:Bool),n=3000-c∧c≤3000∧K9 p L mE j m T∧L[j]?.isSome=q∧(q=true→f=0∧j=c+3)∧e 9=.rf 0 0 0 0∧e 10=.d (ay t)∧e 11=i64 i∧e 12=.pp 1 0 0 0 b a∧e 14=i64 F∧e 16=bV q∧e 18=i64 f∧e 20=i64 c ∧
     s=[iu p,vW 2 3 m (bu [1,2,3] T),xB b a m,wH m,⟨0,true,3,[[i64 e1,i64 e2,.d (bd e3)]]⟩])
    ⟨_,_,_,dt.refl,0,j,m,T,f,q,rfl,by omega,hD,hq,fun h=>⟨BH h,by omega⟩,h9,de,cq,bW,dh,fj,fv,rfl,rfl⟩ ?_
   clear BH h9 de cq bW dh fj fv yz hj hq hD l1
   rintro n e s ⟨c,j,m,T,f,q,rfl,hc,hD,hq,BH,h9,de,cq,bW,dh,fj,fv,gJ,rfl⟩
   cases q with
   |true =>
    obtain⟨rfl,SJ⟩:=BH rfl
    obtain⟨q,EE⟩:=Option.isSome_iff_exists.1 hq
    have La:=(List.getElem?_eq_some_iff.1 EE).1
    have l1:(c:Int)<3000:=by omega
    obtain⟨m',T',y1,y2,y3,yn,ye,xx,DJ,vL⟩:=OT EE hD
    obtain⟨q',oO⟩:∃q',L[j+1]?.isSome=q':=⟨_,rfl⟩
    rw[oO]at vL DJ
    have wc:IntKind.i64.wrap ((c:Int)+1)=(c:Int)+1:=bR _ (by omega)
    simp only[zX,simprocAttr,zY,cE,h9,de,cq,bW,dh,fj,fv,gJ,l1]
    refine cV (X:=1) (Y:=2) (Z:=3) (r':=.tu [.ag [i64 y1,i64 y2,.d (bd y3)],bV q',i64 yn,i64 ye]) (vL b a) hD.refs rfl rfl (by decide) rfl rfl rfl rfl rfl rfl ?_
    simp only[zX,simprocAttr,zY,cE,h9,de,cq,bW,dh,fj,fv,gJ,wc]
    refine⟨3000-(c+1),_,_,by omega,dt.cut 5 (by omega) rfl ?_ [9,10,11,12,14,16,18,20] ?_,c+1,j+1,m',T',ye,q',rfl,by omega,xx,oO,fun h=>⟨DJ h,by omega⟩,?_,?_,?_,?_,?_,?_,?_,?_,rfl⟩ <;> (try simp only[zU,Nat.reduceBEq,Nat.reduceShiftRight,Nat.reduceMod,Nat.reduceEqDiff,reduceIte])
    ·have:=Ad (m:=m') b a (Y:=2) (Z:=3) (n:=5) (by omega) (by omega) (GX (X:=1) (Y:=2) (Z:=3) (n:=5) (by omega) (by omega) (by omega) xx.refs)
     show (cP 5 (iu p)&&(cP 5 (vW 2 3 m' (bu [1,2,3] T'))&&(cP 5 (xB b a m')&&(cP 5 (wH m')&&_))))=true
     rw[this.1,this.2.1,this.2.2]
     rfl
    ·simp [bg,fP,cu,ar,h9,de,cq,bW,dh,fj,fv,gJ,i64,ay]
    ·exact h9
    ·exact de
    ·exact cq
    ·exact bW
    ·exact dh
    all_goals rfl
   |false =>
    by_cases l1:(c:Int)<3000
    ·have lV:L[j]?=none:=by simpa using hq
     have mc:m.aC=mE.aC:=by rw[hD.deep];unfold zC;rw[lV]
     have gT:=fun b a=>bU 0 b a m T hD.refs
     obtain⟨m',T',_,xW,NA,_,iR,_,_,cI⟩:=tz hD.MI T hD.refs hD.MD
     have rT:=fun b a=>bU 0 b a m' T' xW
     have r7:mE.aC≤m'.aC:=by omega
     rw[mc]at gT
     simp only[zX,simprocAttr,zY,cE,h9,de,cq,bW,dh,fj,fv,gJ,l1]
     refine cV (X:=1) (Y:=2) (Z:=3) (r':=i64 mE.aC) (gT b a) hD.refs rfl rfl (by decide) rfl rfl rfl rfl rfl rfl ?_
     simp only[zX,simprocAttr,zY,cE,h9,de,cq,bW,dh,fj,fv,gJ,iu]
     refine aE rn rfl rfl ?_
     simp only[zX,simprocAttr,zY,cE,h9,de,cq,bW,dh,fj,fv,gJ]
     refine cV (X:=1) (Y:=2) (Z:=3) (r':=.tu [.ag [i64 x1,i64 x2,.d (bd x3)],bV x4,i64 xn,i64 xe]) (cI b a) hD.refs rfl rfl (by decide) rfl rfl rfl rfl rfl rfl ?_
     simp only[zX,simprocAttr,zY,cE,h9,de,cq,bW,dh,fj,fv,gJ]
     refine cV (X:=1) (Y:=2) (Z:=3) (r':=i64 m'.aC) (rT b a) xW rfl rfl (by decide) rfl rfl rfl rfl rfl rfl ?_
     simp only[zX,simprocAttr,zY,cE,r7]
     refine aE MB rfl rfl ?_
     simp only[zX,simprocAttr,zY,cE]
    ·have lV:L[j]?=none:=by simpa using hq
     have mc:m.aC=mE.aC:=by rw[hD.deep];unfold zC;rw[lV]
     have gT:=fun b a=>bU 0 b a m T hD.refs
     obtain⟨m',T',_,xW,NA,_,iR,_,_,cI⟩:=tz hD.MI T hD.refs hD.MD
     have rT:=fun b a=>bU 0 b a m' T' xW
     have r7:mE.aC≤m'.aC:=by omega
     rw[mc]at gT
     simp only[zX,simprocAttr,zY,cE,h9,de,cq,bW,dh,fj,fv,gJ,l1]
     refine cV (X:=1) (Y:=2) (Z:=3) (r':=i64 mE.aC) (gT b a) hD.refs rfl rfl (by decide) rfl rfl rfl rfl rfl rfl ?_
     simp only[zX,simprocAttr,zY,cE,h9,de,cq,bW,dh,fj,fv,gJ,iu]
     refine aE rn rfl rfl ?_
     simp only[zX,simprocAttr,zY,cE,h9,de,cq,bW,dh,fj,fv,gJ]
     refine cV (X:=1) (Y:=2) (Z:=3) (r':=.tu [.ag [i64 x1,i64 x2,.d (bd x3)],bV x4,i64 xn,i64 xe]) (cI b a) hD.refs rfl rfl (by decide) rfl rfl rfl rfl rfl rfl ?_
     simp only[zX,simprocAttr,zY,cE,h9,de,cq,bW,dh,fj,fv,gJ]
     refine cV (X:=1) (Y:=2) (Z:=3) (r':=i64 m'.aC) (rT b a) xW rfl rfl (by decide) rfl rfl rfl rfl rfl rfl ?_
     simp only[zX,simprocAttr,zY,cE,r7]
     refine aE MB rfl rfl ?_
     simp only[zX,simprocAttr,zY,cE]
end Go.Proofs.Ytllagoeijcjpiaa
