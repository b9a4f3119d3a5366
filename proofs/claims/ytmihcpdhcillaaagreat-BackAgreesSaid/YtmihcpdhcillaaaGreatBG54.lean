/- A part of the proof (S53 J1 J2). -/
import Derived.Test.YtmihcpdhcillaaaGreatBG53
import Derived.Test.YtmihcpdhcillaaaGreatBG51
import Derived.Test.YtmihcpdhcillaaaGreatBG52
set_option linter.unusedSimpArgs false
set_option linter.unusedVariables false
set_option maxRecDepth 100000
set_option maxHeartbeats 80000000
namespace Go.Proofs.YtmihcpdhcillaaaGreat
open Go.VL Go.Proofs.Tryz
theorem Ij (c1 c2:ar) (hc:c1.length≤1000000000):br prog 25 [.d (bH c1),.d (bH c2)] (bV (decide (c1=c2))):=by
 refine aw func25 rfl ntmps25 results25 rfl 0 12339 (by simp) (by simp) ?_
 by_cases q3:(c1.length:Int)=c2.length
 case neg =>
  simp only[zX,simprocAttr,i64,iD,bH,q3,W1]
  rw[decide_eq_false (fun h=>q3 (by rw[h]))];rfl
 simp only[zX,simprocAttr,i64,iD,bH,q3,W1]
 refine aX (fun n e s=>∃i:Nat,n=c1.length-i∧i≤c1.length∧e 0=.d (bH c1)∧e 1=.d (bH c2)∧e 12=i64 c2.length∧e 13=i64 i∧s=[]∧c1.take i=c2.take i)
  ⟨_,_,_,dw.refl,0,rfl,by omega,rfl,rfl,rfl,rfl,rfl,rfl⟩ ?_
 rintro n e s ⟨i,rfl,hi,h0,h1,eU,fh,rfl,vf⟩
 rcases Xw i c1.length with aS|lW
 ·have JN:i<c2.length:=by omega
  have cG:(i:Int)<c2.length:=by omega
  have r0:(0:Int)≤(i:Int):=by omega
  obtain⟨x,hx⟩:∃x,c1[i]?=some x:=⟨_,WZ aS⟩
  obtain⟨y,hy⟩:∃y,c2[i]?=some y:=⟨_,WZ JN⟩
  simp only[zX,simprocAttr,i64,bH,h0,h1,eU,fh,aS,JN,q3,cG,W1]
  refine aq mix [] [] (by rfl) ?_
  simp only[zX,simprocAttr,i64,bH,h0,h1,eU,fh,r0,aS,JN,hx,hy,iD,aT,q3,cG,W1,Xp]
  by_cases Lo:x=y
  ·have hb:(x.1 == y.1&&x.2 == y.2)=true:=by simp [Lo]
   simp only[zX,simprocAttr,i64,bH,h0,h1,eU,fh,hb]
   refine⟨c1.length-(i+1),_,_,by omega,dw.refl,i+1,rfl,aS,?_,?_,?_,?_,rfl,by rw[dZ hx,dZ hy,vf,Lo]⟩ <;> (try simp only[zU,Nat.reduceBEq,Nat.reduceShiftRight,Nat.reduceMod,Nat.reduceEqDiff,reduceIte])
   ·exact h0
   ·exact h1
   ·exact eU
   ·rw[bU _ (by omega)];rfl
  ·have hb:(x.1 == y.1&&x.2 == y.2)=false:=by
    rw[Xz];intro h;exact Lo (by simp at h;exact Prod.ext h.1 h.2)
   simp only[zX,simprocAttr,i64,bH,h0,h1,eU,fh,hb]
   rw[decide_eq_false (fun h=>by subst h;rw[hx]at hy;simp only[WX]at hy;exact Lo hy)]
   all_goals first|exact⟨rfl,rfl⟩|exact⟨rfl,trivial⟩|rfl|trivial|(rw[ay];rfl)
 ·have iQ:i=c1.length:=by omega
  subst iQ
  have Vu:c1=c2:=by
   rw[XA,Xv (by omega)]at vf;exact vf
  have V8:¬(c1.length:Int)<c2.length:=by omega
  simp only[zX,simprocAttr,i64,bH,h0,h1,eU,fh,V8,W1]
  rw[decide_eq_true Vu]
  all_goals first|exact⟨rfl,rfl⟩|exact⟨rfl,trivial⟩|rfl|trivial|(rw[ay];rfl)
theorem CW (a b:FV) (hc:a.c.length≤1000000000):br prog 9 [a.v,b.v] (bV (decide (a=b))):=by
 obtain⟨s1,e1,c1⟩:=a
 obtain⟨s2,e2,c2⟩:=b
 simp only at hc
 have hE:=Ij c1 c2 hc
 simp only[bH,bV]at hE
 refine aw func9 rfl ntmps9 results9 rfl 0 31 (by simp) (by simp) ?_
 by_cases q1:s1=s2
 case neg =>
  simp only[zX,simprocAttr,i64,iD,bH,FV.v,q1]
  rw[decide_eq_false (fun h=>q1 (by simp only[FV.mk.injEq]at h;exact h.1))];rfl
 by_cases q2:e1=e2
 case neg =>
  simp only[zX,simprocAttr,i64,iD,bH,FV.v,q1,q2]
  rw[decide_eq_false (fun h=>q2 (by simp only[FV.mk.injEq]at h;exact h.2.1))];rfl
 subst q1 q2
 simp only[zX,simprocAttr,i64,iD,bH,FV.v]
 refine aD hE rfl rfl ?_
 simp only[zX,simprocAttr,i64,iD,bH,FV.v,bV]
 exact decide_eq_decide.2 ⟨fun h=>by rw[h],fun h=>by simp only[FV.mk.injEq]at h;exact h.2.2⟩
theorem xV {p:fj}{t:List Int} (eI:∀i:Int,0≤i→i≤t.length→cV p t i (-1) 3000=0) {i s:Int} (h0:0≤i) (h1:i≤t.length) (s0:0≤s) (s1:s≤90000) :
  cV p t i 1 (100000-s)=0∧allM p t i 1 (100000-s)=allM p t i 1 100000∧dT p t i 1 (100000-s)=dT p t i 1 100000∧cV p t i 1 100000=0∧0≤dT p t i 1 100000∧dT p t i 1 100000≤3000:=by
 have hg:=eI i h0 h1
 obtain⟨p1,_,p3⟩:=rU (n:=1) (W4 _) hg
 have p1:cV p t i 1 3000=0:=p1
 obtain⟨n0,n1⟩:=lN p1
 obtain⟨a1,a2,a3,_⟩:=nS (f':=100000-s) p1 (by omega) (by omega)
 obtain⟨b1,b2,b3,_⟩:=nS (f':=100000) p1 (by omega) (by omega)
 exact⟨a1,a2.trans b2.symm,a3.trans b3.symm,b1,by omega,by omega⟩
theorem H5 {p:fj}{t:List Int} (eI:∀i:Int,0≤i→i≤t.length→cV p t i (-1) 3000=0):∀i:Int,0≤i→i≤t.length→cV p t i (-1) 6000=0:=by
 intro i h0 h1
 have hg:=eI i h0 h1
 obtain⟨n0,n1⟩:=lN hg
 exact(nS (f':=6000) hg (by omega) (by omega)).1
theorem HO {p:fj}{t:List Int} (eI:∀i:Int,0≤i→i≤t.length→cV p t i (-1) 3000=0) {n:Nat}{i s:Int} (h0:0≤i) (h1:i≤t.length) (s0:0≤s) (s1:s≤90000) :
  fV p t 100000 (n+1) i s=match allM p t i 1 100000 with
   |[]=>fV p t 100000 n (i+1) (s+dT p t i 1 100000)
   |(e,d)::_=>(some (i,e,d),s+dT p t i 1 100000,0):=by
 obtain⟨a1,a2,a3,_⟩:=xV eI h0 h1 s0 s1
 rw[fV,if_neg (by rw[a1];simp),a2,a3]
 cases allM p t i 1 100000 <;> rfl
theorem M5 {p:fj}{t:List Int}{i:Int} (h:cV p t i 1 100000=0):C5 p t i 100000=match allM p t i 1 100000 with
  |[]=>[i64 0,i64 0,.d (.sl []),bV false,i64 (dT p t i 1 100000),i64 0]
  |(e,d)::_=>[i64 i,i64 e,.d (bH d),bV true,i64 (dT p t i 1 100000),i64 0]:=by
 unfold C5
 rw[if_neg (by rw[h];simp)]
 cases allM p t i 1 100000 <;> rfl
def Hk:Option (Int×Int×ar)→List V
 |none=>[i64 0,i64 0,.d (.sl [])]
 |some (i,e,d)=>[i64 i,i64 e,.d (bH d)]
theorem H0 (r:Option (Int×Int×ar)×Int×Int):oQ r=.tu [.ag (Hk r.1),bV r.1.isSome,i64 r.2.1,i64 r.2.2]:=by
 obtain⟨o,a,b⟩:=r
 cases o <;> rfl
def HV (p:fj):VL.Obj:=⟨0,true,10,[[.d (.sc (.int .i64 p.re.op)),.d (.sl (p.re.set.map aT)),.d (.sl (p.re.kids.map Re.cells)),.d (.sc (.int .i64 p.re.mn)),.d (.sc (.int .i64 p.re.mx)),.d (.sc (.int .i64 p.re.mode)),.d (.sc (.int .i64 p.re.n)),.d (.sc (.bool p.re.neg)),.d (.sc (.int .i64 p.ak)),.d (.sc (.bool p.bk))]]⟩
def Us (p:fj) (t:List Int) (R:Option (Int×Int×ar)×Int×Int) (b a:Nat):Nat→Env→List VL.Obj→Prop:=fun n e s=>∃(i:Nat) (m:aC) (T:V) (sum:Int) (found:Bool),n=t.length+1-i∧i≤t.length+1∧TJ p m∧ao 3 T=true∧bF [0,1,2] T=T∧0≤sum∧sum≤3000*(i:Int) ∧
 ((found=false∧fV p t 100000 (t.length+1-i) i sum=R)∨(found=true∧∃x,R=(some x,sum,0))) ∧
 e 5=.rf 0 0 0 0∧e 6=.d (aB t)∧e 7=.pp 1 0 0 0 b a∧e 9=.rf 4 0 0 0∧e 10=bV R.1.isSome∧e 11=i64 R.2.1∧e 12=i64 R.2.2∧e 13=i64 sum∧e 14=bV found∧e 15=i64 i ∧
 s=[HV p,IN 2 3 m (bF [1,2,3] T),IV b a m,K8 m,⟨0,true,3,[Hk R.1]⟩]
theorem xT (l:List Int) (hl:∀x∈l,jX x) (m:List Int) (hm:∀x∈m,jX x):br Tryz.prog 3 [.d (aB l),.d (aB m)] (bV true):=by
 obtain⟨p,t,hfit,eI,wZ,hlen⟩:=Ko l m hl hm
 have rP:=(xV (s:=0) eI (i:=0) (by omega) (by omega) (by omega) (by omega)).2.2.2.1
 obtain⟨hv,_,_,_⟩:=jS rP
 have Uf:=(du hv).1
 have Wi:=HT
 have I6:=DI p t 0 100000 wZ (by omega) (fun hv i f h0 h1 f0 f1=>CH (H5 eI) hv i f h0 h1 f0 f1)
 have hX:BS p t 0 100000=fV p t 100000 (t.length+1) 0 0:=by
  unfold BS
  rw[if_neg (by rw[hv];simp),if_neg (by omega)]
  congr 1
 rw[hX,H0]at I6
 obtain⟨R,hR⟩:∃R,fV p t 100000 (t.length+1) 0 0=R:=⟨_,rfl⟩
 rw[hR]at I6
 have lq:=fun s K hk=>CF wZ Uf (s:=s) (K:=K) hk
 have fM:=fun i:Int=>Fj wZ hlen (F0:=3000) (by omega) eI i 100000 (n:=1) (W4 _)
 have VJ:((1:Nat):Int)=1:=rfl
 simp only[VJ]at fM
 have Nh:∀o:Option (Int×Int×ar),∃a b c,Hk o=[a,b,c]∧(∀n,ao n a=true∧ao n b=true∧ao n c=true):=by
  intro o
  cases o with
  |none=>exact⟨_,_,_,rfl,fun n=>⟨rfl,rfl,rfl⟩⟩
  |some x=>exact⟨_,_,_,rfl,fun n=>⟨rfl,rfl,rfl⟩⟩
 simp only[cN,Re.ae p.re,WU,WV,WR,WS,i64,iD,bD,bV]at hfit lq fM I6
 refine aw Tryz.func3 rfl Tryz.ntmps3 Tryz.results3 rfl 0 8388595 (by simp) (by simp) ?_
 simp only[zX,simprocAttr,zY,oV]
 refine aD hfit rfl rfl ?_
 simp only[zX,simprocAttr,zY,oV]
 refine lq _ _ (fun b a=>?_)
 simp only[zX,simprocAttr,zY,oV]
 refine⟨rfl,⟨_,rfl⟩,?_⟩
 refine aD I6 rfl ?_ ?_
 ·obtain⟨x,y,z,h1,h2⟩:=Nh R.1
  simp [h1,ao,ao.go,(h2 0).1,(h2 0).2.1,(h2 0).2.2]
 have RZ:(Hk R.1).length=3:=by obtain⟨x,y,z,h1,_⟩:=Nh R.1;rw[h1];rfl
 simp only[zX,simprocAttr,zY,oV,RZ,Xi,List.drop_succ_cons,X1,Xk]
 refine aX (Us p t R b a) ⟨_,_,_,dw.refl,0,fresh p,.fu [],0,false,rfl,by omega,⟨rfl,W4 _⟩,rfl,rfl,WW _,by omega,.inl ⟨rfl,hR⟩,rfl,rfl,rfl,rfl,rfl,rfl,rfl,rfl,rfl,rfl,rfl⟩ ?_
 clear hR hfit lq I6 hX rP
 rintro n e s ⟨i,m,T,sum,found,rfl,hi,Sk,hT,G7,ij,gy,Oo,h5,h6,h7,h9,gu,kV,eU,fh,eV,jB,rfl⟩
 simp only[i64,bV]at gu kV eU fh eV jB
 by_cases hle:i≤t.length
 case neg =>
  have iQ:i=t.length+1:=by omega
  subst iQ
  have ME:¬((t.length+1:Nat):Int)≤(t.length:Int):=by omega
  have TI:R=(R.1,sum,0)∧R.1.isSome=found:=by
   rcases Oo with ⟨rfl,hR⟩|⟨rfl,x,hR⟩
   ·rw[X3,fV]at hR
    rw[← hR];exact⟨rfl,rfl⟩
   ·rw[hR];exact⟨rfl,rfl⟩
  obtain⟨Wm,Vy⟩:=TI
  rw[Wm]at kV eU
  rw[Vy]at gu
  simp only at kV eU
  have IK:(found == found)=true:=by cases found <;> rfl
  simp only[zX,simprocAttr,zY,oV,h5,h6,h7,h9,gu,kV,eU,fh,eV,jB,ME,IK]
  refine aD Wi rfl rfl ?_
  simp only[zX,simprocAttr,zY,oV]
 have ME:(i:Int)≤(t.length:Int):=by omega
 obtain⟨a1,a2,a3,a4,a5,a6⟩:=xV (s:=0) eI (i:=(i:Int)) (by omega) (by omega) (by omega) (by omega)
 have FT:=M5 a4
 obtain⟨m',T',Rt,SE,Ov,_,_,_,_,c8⟩:=Mw Uf (t:=t) (by omega) (LV hv) (i:Int) 100000 Sk T hT G7
 have hA:=fM (i:Int)
 rw[a4]at hA
 have PB:=HO eI (n:=t.length-i) (i:=(i:Int)) (s:=sum) (by omega) (by omega) ij (by omega)
 have Hi:t.length+1-i=t.length-i+1:=by omega
 have Qm:t.length+1-(i+1)=t.length-i:=by omega
 have wi:IntKind.i64.wrap ((i:Int)+1)=((i+1:Nat):Int):=by rw[bU _ (by omega)];omega
 have e7:((i:Int)+1)=((i+1:Nat):Int):=by omega
 have fC:=fun x hx=>H7 (p:=p) (t:=t) (i:=(i:Int)) (n:=1) (f:=100000) x hx
 rw[FT]at c8
 generalize dT p t (i:Int) 1 100000=N at *
 generalize allM p t (i:Int) 1 100000=M at *
 have ws:IntKind.i64.wrap (sum+N)=sum+N:=bU _ (by omega)
 have kT:∀(e1:Env) (X:List V) (Fh:Int) (x7:Bool),0≤Fh→Fh≤3000*((i+1:Nat):Int)→((x7=false∧fV p t 100000 (t.length+1-(i+1)) ((i+1:Nat):Int) Fh=R)∨(x7=true∧∃x,R=(some x,Fh,0))) →
   e1 5=.rf 0 0 0 0→e1 6=.d (aB t)→e1 7=.pp 1 0 0 0 b a→e1 9=.rf 4 0 0 0→e1 10=.d (.sc (.bool R.1.isSome))→e1 11=.d (.sc (.int .i64 R.2.1))→e1 12=.d (.sc (.int .i64 R.2.2))→e1 13=.d (.sc (.int .i64 Fh))→e1 14=.d (.sc (.bool x7))→e1 15=.d (.sc (.int .i64 ((i+1:Nat):Int))) →
   Nc 0 (Us p t R b a) (t.length+1-i) e1 [HV p,IN 2 3 m' (bF [1,2,3] T'),IV b a m',K8 m',⟨0,true,3,[Hk R.1]⟩,⟨0,true,3,[X]⟩]:=by
  intro e1 X Fh x7 q0 q1 q2 g5 g6 g7 g9 Uu Uj UU UY UH Ui
  refine⟨t.length+1-(i+1),_,_,by omega,dw.cut 5 (by omega) rfl ?_ [5,6,7,9,10,11,12,13,14,15] ?_,i+1,m',T',Fh,x7,rfl,by omega,Rt,SE,Ov,q0,q1,q2,?_,?_,?_,?_,?_,?_,?_,?_,?_,?_,rfl⟩
  ·have:=QK (m:=m') b a (Y:=2) (Z:=3) (n:=5) (by omega) (by omega) (SQ (X:=1) (Y:=2) (Z:=3) (n:=5) (by omega) (by omega) (by omega) SE)
   obtain⟨x,y,z,z1,z2⟩:=Nh R.1
   show (cU 5 (HV p)&&(cU 5 (IN 2 3 m' (bF [1,2,3] T'))&&(cU 5 (IV b a m')&&(cU 5 (K8 m')&&_))))=true
   rw[this.1,this.2.1,this.2.2]
   simp [cU,HV,z1,ao,(z2 5).1,(z2 5).2.1,(z2 5).2.2]
  ·simp [g5,g6,g7,g9,Uu,Uj,UU,UY,UH,Ui,ao,aB]
  all_goals simp only[lR,List.contains_cons,List.contains_nil,Nat.reduceBEq,X7,Xj,Bool.or_true,Xq,if_true,i64,bV,g5,g6,g7,g9,Uu,Uj,UU,UY,UH,Ui,reduceIte]
 cases M with
 |nil =>
  simp only[zG,WV]at hA
  have UP:(!(false == decide ((0:Int)<((0:Nat):Int))))=false:=by decide
  have Py:AP [i64 0,i64 0,.d (.sl []),bV false,i64 N,i64 0]=.tu [.ag [i64 0,i64 0,.d (.sl [])],bV false,i64 N,i64 0]:=rfl
  rw[Py]at c8
  have PB:fV p t 100000 (t.length-i+1) (i:Int) sum=fV p t 100000 (t.length-i) ((i:Int)+1) (sum+N):=PB
  simp only[zX,simprocAttr,zY,oV,h5,h6,h7,h9,gu,kV,eU,fh,eV,jB,ME]
  refine uD (X:=1) (Y:=2) (Z:=3) (r':=.tu [.ag [i64 0,i64 0,.d (.sl [])],bV false,i64 N,i64 0]) (c8 b a) hT rfl rfl (by decide) rfl rfl rfl rfl rfl rfl ?_
  simp only[zX,simprocAttr,zY,oV,h5,h6,h7,h9,gu,kV,eU,fh,eV,jB,HV]
  refine aD hA rfl rfl ?_
  simp only[zX,simprocAttr,zY,oV,h5,h6,h7,h9,gu,kV,eU,fh,eV,jB]
  refine aq mix [] [] (by rfl) ?_
  cases found with
  |true =>
   obtain⟨x,hR⟩:∃x,R=(some x,sum,0):=by
    rcases Oo with ⟨h,_⟩|⟨_,h⟩
    ·cases h
    ·exact h
   simp only[zX,simprocAttr,zY,oV,h5,h6,h7,h9,gu,kV,eU,fh,eV,jB,UP,wi]
   refine kT _ _ sum true ij (by omega) (.inr ⟨rfl,x,hR⟩) ?_ ?_ ?_ ?_ ?_ ?_ ?_ ?_ ?_ ?_ <;> (try simp only[zU,Nat.reduceBEq,Nat.reduceShiftRight,Nat.reduceMod,Nat.reduceEqDiff,reduceIte])
   all_goals first|exact h5|exact h6|exact h7|exact h9|exact gu|exact kV|exact eU|exact fh|exact eV|rfl
  |false =>
   have hR:fV p t 100000 (t.length+1-i) (i:Int) sum=R:=by
    rcases Oo with ⟨_,h⟩|⟨h,_⟩
    ·exact h
    ·cases h
   rw[Hi,PB,← Qm,e7]at hR
   simp only[zX,simprocAttr,zY,oV,h5,h6,h7,h9,gu,kV,eU,fh,eV,jB,UP,wi,ws]
   refine kT _ _ (sum+N) false (by omega) (by omega) (.inl ⟨rfl,hR⟩) ?_ ?_ ?_ ?_ ?_ ?_ ?_ ?_ ?_ ?_ <;> (try simp only[zU,Nat.reduceBEq,Nat.reduceShiftRight,Nat.reduceMod,Nat.reduceEqDiff,reduceIte])
   all_goals first|exact h5|exact h6|exact h7|exact h9|exact gu|exact kV|exact eU|exact fh|exact eV|rfl
 |cons y tl =>
  obtain⟨ye,yd⟩:=y
  have Py:AP [i64 i,i64 ye,.d (bH yd),bV true,i64 N,i64 0]=.tu [.ag [i64 i,i64 ye,.d (bH yd)],bV true,i64 N,i64 0]:=rfl
  simp only at c8
  rw[Py]at c8
  have PB:fV p t 100000 (t.length-i+1) (i:Int) sum=(some ((i:Int),ye,yd),sum+N,0):=PB
  have Sl:=CW ⟨i,ye,yd⟩ ⟨i,ye,yd⟩ (fC (ye,yd) (by simp))
  simp only[decide_true,FV.v,i64,bV]at Sl
  simp only[zG,WU,Pe,i64,bV]at hA
  have PE:(0:Int)<((tl.length+1:Nat):Int):=by omega
  simp only[zX,simprocAttr,zY,oV,h5,h6,h7,h9,gu,kV,eU,fh,eV,jB,ME]
  refine uD (X:=1) (Y:=2) (Z:=3) (r':=.tu [.ag [i64 i,i64 ye,.d (bH yd)],bV true,i64 N,i64 0]) (c8 b a) hT rfl rfl (by decide) rfl rfl rfl rfl rfl rfl ?_
  simp only[zX,simprocAttr,zY,oV,h5,h6,h7,h9,gu,kV,eU,fh,eV,jB,HV]
  refine aD hA rfl rfl ?_
  simp only[zX,simprocAttr,zY,oV,h5,h6,h7,h9,gu,kV,eU,fh,eV,jB]
  refine aq mix [] [] (by rfl) ?_
  simp only[zX,simprocAttr,zY,oV,h5,h6,h7,h9,gu,kV,eU,fh,eV,jB,PE,beq_self_eq_true]
  refine cP Sl rfl rfl ?_
  cases found with
  |true =>
   obtain⟨x,hR⟩:∃x,R=(some x,sum,0):=by
    rcases Oo with ⟨h,_⟩|⟨_,h⟩
    ·cases h
    ·exact h
   simp only[zX,simprocAttr,zY,oV,h5,h6,h7,h9,gu,kV,eU,fh,eV,jB,wi]
   refine kT _ _ sum true ij (by omega) (.inr ⟨rfl,x,hR⟩) ?_ ?_ ?_ ?_ ?_ ?_ ?_ ?_ ?_ ?_ <;> (try simp only[zU,Nat.reduceBEq,Nat.reduceShiftRight,Nat.reduceMod,Nat.reduceEqDiff,reduceIte])
   all_goals first|exact h5|exact h6|exact h7|exact h9|exact gu|exact kV|exact eU|exact fh|exact eV|rfl
  |false =>
   have hR:fV p t 100000 (t.length+1-i) (i:Int) sum=R:=by
    rcases Oo with ⟨_,h⟩|⟨h,_⟩
    ·exact h
    ·cases h
   rw[Hi,PB]at hR
   have VT:Hk R.1=[i64 i,i64 ye,.d (bH yd)]:=by rw[← hR];rfl
   have P0:e 10=.d (.sc (.bool true)):=by rw[gu,← hR];rfl
   rw[VT]at kT ⊢
   simp only[zX,simprocAttr,zY,oV,h5,h6,h7,h9,P0,kV,eU,fh,eV,jB,wi,ws]
   refine aD Sl rfl rfl ?_
   simp only[zX,simprocAttr,zY,oV,h5,h6,h7,h9,P0,kV,eU,fh,eV,jB,wi,ws]
   refine kT _ _ (sum+N) true (by omega) (by omega) (.inr ⟨rfl,_,hR.symm⟩) ?_ ?_ ?_ ?_ ?_ ?_ ?_ ?_ ?_ ?_ <;> (try simp only[zU,Nat.reduceBEq,Nat.reduceShiftRight,Nat.reduceMod,Nat.reduceEqDiff,reduceIte])
   all_goals first|exact h5|exact h6|exact h7|exact h9|exact gu|exact kV|exact eU|exact fh|exact eV|rfl
end Go.Proofs.YtmihcpdhcillaaaGreat
