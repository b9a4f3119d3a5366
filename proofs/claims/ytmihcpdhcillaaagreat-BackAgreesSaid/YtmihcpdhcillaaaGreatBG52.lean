/- A part of the proof (S44 S45 S46 S47 S48 S49). -/
import Derived.Test.YtmihcpdhcillaaaGreatBG29
import Derived.Test.YtmihcpdhcillaaaGreatBG51
set_option linter.unusedSimpArgs false
set_option linter.unusedVariables false
set_option maxRecDepth 100000
set_option maxHeartbeats 80000000
namespace Go.Proofs.YtmihcpdhcillaaaGreat
open Go.VL Go.Proofs.Tryz
noncomputable def fV (p:fj) (t:List Int) (F:Int):Nat→Int→Int→Option (Int×Int×ar)×Int×Int
 |0,_,s=>(none,s,0)
 |n+1,i,s=>if cV p t i 1 (F-s)≠0 then (none,0,11) else match allM p t i 1 (F-s) with
  |[]=>fV p t F n (i+1) (s+dT p t i 1 (F-s))
  |(e,d)::_=>(some (i,e,d),s+dT p t i 1 (F-s),0)
noncomputable def BS (p:fj) (t:List Int) (cT F:Int):Option (Int×Int×ar)×Int×Int :=
 if cc p t F≠0 then (none,0,cc p t F) else if cT<0∨(t.length:Int)<cT then (none,0,5) else fV p t F ((t.length:Int)+1-cT).toNat cT 0
def oQ (r:Option (Int×Int×ar)×Int×Int):V:=match r.1 with
 |none=>.tu [.ag [i64 0,i64 0,.d (.sl [])],bV false,i64 r.2.1,i64 r.2.2]
 |some (i,e,d)=>.tu [.ag [i64 i,i64 e,.d (bH d)],bV true,i64 r.2.1,i64 r.2.2]
end Go.Proofs.YtmihcpdhcillaaaGreat
namespace Go.Proofs.YtmihcpdhcillaaaGreat
open Go.VL Go.Proofs.Tryz
theorem LO {p:fj}{t:List Int}{F i k:Int} (hv:cc p t F=0) (a0:0≤i) (a1:i≤t.length) (hk0:0≤k) (Tl:k≤F) {m:bp} (L6:m.p=p) (yT:m.t=t) (N9:m.fuel=F) (R6:m.steps=k) (dr:m.aK=false)
  (hB:(bj p t i 1 (F-k)).2.steps+k≤100000000) :
  ∃L m',lu 1 (m.begin i) L m'∧uZ (m.begin i) m'∧L.length≤1∧(cV p t i 1 (F-k)=0→m'.aK=false∧m'.steps=k+dT p t i 1 (F-k)∧L.map (iH p.ak.toNat i)=(allM p t i 1 (F-k)).map (lB i)∧m'.top≤m'.cO.length)∧(cV p t i 1 (F-k)≠0→m'.aK=true):=by
 subst L6 yT
 obtain⟨h1,h2,h3,h4,h5⟩:=du hv
 obtain⟨k1,k2,k3,k4,k5⟩:=eC h1
 have Jo:=pQ (f':=F-k) hv (by omega) (by omega)
 obtain⟨n,e1,_⟩:=dV (ah:=1) Jo a0 a1
 have T9:=(zH (d:=k) hk0 n _ _ _ _ _ e1).2 (by show (bj m.p m.t i 1 (F-k)).2.steps+k≤_;omega)
 have VZ:(⟨0,false,[],[]⟩:aQ).up k=⟨k,false,[],[]⟩:=by unfold aQ.up;simp
 rw[show F-k+k=F by omega,VZ]at T9
 have aW:gD (m.begin i) ([]++[m.By i]):=⟨rfl,rfl⟩
 have sA:=GL (s:=k) h1 h2 a0 a1 (fun h=>by omega) hk0 Tl T9 hB (m:=(m.begin i).pop) rfl rfl N9 R6 dr aW.last.2
 obtain⟨L,m',q1,q2,q3,q4,q5,q6⟩:=zN (n:=1) (ah:=1) (by omega) (by omega) (W4 _) (.inl rfl) aW dr sA
 have hE:cV m.p m.t i 1 (F-k)=if (bj m.p m.t i 1 (F-k)).2.empty=true then 11 else 0:=by
  unfold cV;rw[if_neg (by rw[Jo];simp),if_neg (by omega)]
 refine⟨L,m',q1,q2,?_,fun rP=>?_,fun Ls=>?_⟩
 ·have:∀{n:Nat}{a b:bp}{L:List (Int×ar)},lu n a L b→L.length≤n:=by
   intro n a b L h
   induction h with
   |full=>simp
   |stop=>simp
   |more _ _ _ _ ih=>simp;omega
  exact this q1
 ·have he:(bj m.p m.t i 1 (F-k)).2.empty=false:=by
   cases h:(bj m.p m.t i 1 (F-k)).2.empty with
   |false=>rfl
   |true=>rw[hE,h,if_pos rfl]at rP;omega
  obtain⟨r1,r2,r3,r4,r5,r6⟩:=q4 he
  refine⟨r1,?_,?_,r5⟩
  ·unfold dT
   rw[if_pos rP,r2]
   show (bj m.p m.t i 1 (F-k)).2.steps+k=_
   omega
  ·unfold allM
   rw[if_pos rP,r4,XS]
   refine XM fun y hy=>?_
   obtain⟨e,d⟩:=y
   have hd:=r6 d (List.of_mem_zip hy).2
   simp only[Function.comp_apply,LB,iH,lB]
   congr 4
   unfold cj
   rw[← hd,List.take_left']
   rfl
 ·have he:(bj m.p m.t i 1 (F-k)).2.empty=true:=by
   cases h:(bj m.p m.t i 1 (F-k)).2.empty with
   |true=>rfl
   |false=>rw[hE,h,if_neg Xe]at Ls;exact absurd rfl Ls
  exact(q5 he).1
def zh:VL.Obj:=⟨0,true,3,[[.d (iD 0),.d (iD 0),.fu []]]⟩
theorem DI (p:fj) (t:List Int) (cT F:Int) (hf:p.re.fA=true) (ht:t.length≤1000)
  (hB:cc p t F=0→∀i f:Int,0≤i→i≤t.length→0≤f→f≤F→(bj p t i 1 f).2.steps≤7000) :
  br prog 6 [cN p,.d (aB t),i64 cT,i64 F] (oQ (BS p t cT F)):=by
 have qu:=vb [p] t F (by simp) (fun q hq=>by rw[List.mem_singleton.1 hq];exact hf) (by omega)
 rw[uv]at qu
 have yH:jy p=p.re.cells++[iD p.ak,bD p.bk]:=rfl
 simp only[WU,WV,yH,Re.ae p.re,WR,WS,i64,iD,bD]at qu
 unfold BS
 by_cases hv:cc p t F=0
 case neg =>
  rw[if_pos hv]
  generalize cc p t F=v at *
  refine aw func6 rfl ntmps6 results6 rfl 0 130847 (by simp) (by simp) ?_
  simp only[zX,simprocAttr,i64,cN,Re.ae p.re,bV,iD,bD,WU,WV,WR,WS]
  refine aO [] (by simp [aM,aR.go,aR,bN];rfl) ?_
  refine aD qu rfl rfl ?_
  simp only[aM]
  simp only[zX,simprocAttr,i64,cN,bV,iD,bD,ne_eq,hv,not_false_eq_true,oQ]
 rw[hv]at qu
 rw[if_neg (by rw[hv];simp)]
 by_cases c1:cT<0
 ·rw[if_pos (.inl c1)]
  refine aw func6 rfl ntmps6 results6 rfl 0 130847 (by simp) (by simp) ?_
  simp only[zX,simprocAttr,i64,cN,Re.ae p.re,bV,iD,bD,WU,WV,WR,WS]
  refine aO [] (by simp [aM,aR.go,aR,bN];rfl) ?_
  refine aD qu rfl rfl ?_
  simp only[aM]
  simp only[zX,simprocAttr,i64,cN,bV,iD,bD,ne_eq,not_true_eq_false,c1,oQ]
 by_cases c2:(t.length:Int)<cT
 ·rw[if_pos (.inr c2)]
  refine aw func6 rfl ntmps6 results6 rfl 0 130847 (by simp) (by simp) ?_
  simp only[zX,simprocAttr,i64,cN,Re.ae p.re,bV,iD,bD,WU,WV,WR,WS]
  refine aO [] (by simp [aM,aR.go,aR,bN];rfl) ?_
  refine aD qu rfl rfl ?_
  simp only[aM]
  simp only[zX,simprocAttr,i64,cN,bV,iD,bD,ne_eq,not_true_eq_false,c1,c2,aB,gt_iff_lt,W1,oQ]
 rw[if_neg (by omega)]
 replace hB:=hB hv
 obtain⟨w1,_,_,v4,v5⟩:=du hv
 obtain⟨_,_,IL,AU,_⟩:=eC w1
 generalize hR:fV p t F ((t.length:Int)+1-cT).toNat cT 0=R
 have lq:=fun K hk=>AD (p:=p) (t:=t) (fuel:=F) (s:=[vY p,zh]) (K:=K) hk
 refine aw func6 rfl ntmps6 results6 rfl 0 130847 (by simp) (by simp) ?_
 simp only[zX,simprocAttr,i64,cN,Re.ae p.re,bV,iD,bD,WU,WV,WR,WS]
 refine aO [] (by simp [aM,aR.go,aR,bN];rfl) ?_
 refine aD qu rfl rfl ?_
 simp only[aM]
 simp only[zX,simprocAttr,i64,cN,bV,iD,bD,ne_eq,not_true_eq_false,c1,c2,aB,gt_iff_lt,W1]
 refine aO [0] (by simp [aM,bf,aR.go,aR,bN];rfl) ?_
 simp only[aM,bf,W9,Xh]
 have D9:vY p=vY p:=rfl
 conv at D9=>rhs;simp only[vY,yH,Re.ae p.re,i64,iD,bD,WU,WV,WR,WS]
 rw[← D9]
 have Py:zh=zh:=rfl
 conv at Py=>rhs;simp only[zh,iD]
 rw[← Py]
 have Oq:=F5 p
 generalize vY p=bo at *
 clear D9
 simp only[yH,Re.ae p.re,i64,iD,bD,aB,WU,WV,WR,WS,W3,Xa,Xi,Nat.reduceAdd]at lq
 refine lq _ (fun b a=>?_)
 simp only[zX,simprocAttr,i64,cN,bV,iD,bD,WR,WS]
 refine aX (fun n e s=>∃(i k:Int) (m1:bp),i+n=t.length+1∧0≤i∧0≤k∧k≤F∧k≤7000*i∧m1.p=p∧m1.t=t∧m1.fuel=F∧m1.steps=k∧m1.aK=false∧m1.top≤m1.cO.length∧fV p t F n i k=R∧e 1=.d (aB t)∧e 8=.rf 1 0 0 0∧e 13=.pp 2 0 0 0 b a∧e 14=i64 i ∧
   s=[bo,zh,v8 3 4 m1,Ed,Ic b a m1])
  ⟨_,_,_,dw.refl,cT,0,jJ p t F,by omega,by omega,WW _,v4,by omega,rfl,rfl,rfl,rfl,rfl,W4 _,hR,rfl,rfl,rfl,rfl,rfl⟩ ?_
 clear hR lq
 rintro n e s ⟨i,k,m1,yQ,hi0,hk0,Tl,UW,mp,mt,mf,ms,VP,Tf,hR,h1,h8,fh,eV,rfl⟩
 simp only[aB,iD,bD]at h1
 cases n with
 |zero =>
  have hle:¬i≤(t.length:Int):=by omega
  simp only[fV]at hR
  subst hR
  unfold v8 zh
  simp only[zX,simprocAttr,i64,bV,iD,bD,h1,h8,fh,eV,hle,W1,aB]
  refine aq mix [] [(4,[2],[]),(5,[1],[1])] (by rfl) ?_
  simp only[zX,simprocAttr,i64,bV,iD,bD,h1,h8,fh,eV,hle,W1,aB,ms,oQ]
 |succ n =>
  have hle:i≤(t.length:Int):=by omega
  have RS:=hB i (F-k) hi0 hle (by omega) (by omega)
  have U6:dT p t i 1 (F-k)≤7000:=by
   unfold dT
   split
   ·exact RS
   ·omega
  obtain⟨L,m2,q1,q2,ql,q3,q4⟩:=LO hv hi0 hle hk0 Tl mp mt mf ms VP (by omega)
  have wi:IntKind.i64.wrap (i+1)=i+1:=bU _ (by omega)
  have f1:m2.p=p:=q2.p.trans mp
  have f2:m2.t=t:=q2.t.trans mt
  have f3:m2.fuel=F:=q2.fuel.trans mf
  simp only[fV]at hR
  simp only[zX,simprocAttr,i64,bV,iD,bD,h1,h8,fh,eV,hle,W1,aB]
  refine qq (X:=2) (Y:=3) (Z:=4) (Aq 0 b a m1 i Tf) (by decide) rfl rfl rfl rfl rfl rfl ?_
  simp only[Xh,Xl]
  simp only[zX,simprocAttr,i64,cN,bV,iD,bD,h1,h8,fh,eV,WR,WS]
  cases q1 with
  |stop hs =>
   have MA:=G4 0 b a (Bn _ _ _ _ _ _ hs 0 b a)
   refine qq (X:=2) (Y:=3) (Z:=4) (r':=.tu [.ag [i64 0,i64 0,.d (.sl [])],bV false]) MA (by decide) rfl rfl rfl rfl rfl rfl ?_
   simp only[Xh,Xl]
   by_cases hE:cV p t i 1 (F-k)=0
   ·obtain⟨r1,r2,r3,r4⟩:=q3 hE
    have aW:=lN hE
    have hM:allM p t i 1 (F-k)=[]:=List.map_eq_nil_iff.1 r3.symm
    rw[if_neg (by rw[hE];simp),hM]at hR
    simp only at hR
    have e1:v8 3 4 m2=v8 3 4 m2:=rfl
    conv at e1=>rhs;unfold v8
    rw[e1]
    simp only[zX,simprocAttr,i64,bV,iD,bD,h1,h8,fh,eV,r1,W2]
    refine⟨n,_,_,Xo n,dw.cut (s':=[bo,zh,v8 3 4 m2,Ed,Ic b a m2]) 5 (by omega) ?_ ?_ [1,8,13,14] ?_,i+1,k+dT p t i 1 (F-k),m2,by omega,by omega,by omega,by omega,by omega,f1,f2,f3,r2,r1,r4,hR,?_,?_,?_,?_,rfl⟩ <;> (try simp only[zU,Nat.reduceBEq,Nat.reduceShiftRight,Nat.reduceMod,Nat.reduceEqDiff,reduceIte])
    ·unfold v8;rw[r1];rfl
    ·have h1:=Ny (Y:=3) (Z:=4) (n:=5) m2 b a (by decide) (by decide)
     have h2:cU 5 zh=true:=by rfl
     simp only[List.all_cons,List.all_nil,XT,Oq,h2,X0]
     exact h1
    ·simp [bW,ba,ao,i64,h1,h8,fh]
    ·exact h1
    ·exact h8
    ·exact fh
    ·rw[wi]
   ·rw[if_pos hE]at hR
    subst hR
    have r1:=q4 hE
    unfold v8 zh
    simp only[zX,simprocAttr,i64,bV,iD,bD,h1,h8,fh,eV,r1,oQ]
  |@more _ k2 _ m3 _ r c L3 hs hc hl BI =>
   cases BI
   have kM:=JL hs
   have MA:=C2 0 b a (Bn _ _ _ _ _ _ hs 0 b a) hc hl (by rw[f1];exact IL) (by rw[f1];exact AU)
   rw[f1,q2.start]at MA
   refine qq (X:=2) (Y:=3) (Z:=4) (r':=.tu [.ag [i64 i,i64 r.at_,.d (bH (c.take p.ak.toNat))],bV true]) MA (by decide) rfl rfl rfl rfl rfl rfl ?_
   simp only[Xh,Xl]
   unfold v8 zh
   by_cases hE:cV p t i 1 (F-k)=0
   ·obtain⟨r1,r2,r3,r4⟩:=q3 hE
    rw[if_neg (by rw[hE];simp)]at hR
    cases hM:allM p t i 1 (F-k) with
    |nil=>rw[hM]at r3;simp at r3
    |cons y l =>
     obtain⟨e1,d1⟩:=y
     rw[hM]at hR r3
     simp only at hR
     subst hR
     simp only[WU,WV,iH,lB,X4,true_and,and_true]at r3
     obtain⟨⟨r3,r5⟩,_⟩:=r3
     rw[r5]
     simp only[iD]at r3
     simp only[zX,simprocAttr,i64,bV,iD,bD,h1,h8,fh,eV,r1,W2]
     refine aq mix [] [(0,[5],[]),(4,[2],[]),(5,[1],[1])] (by rfl) ?_
     simp only[zX,simprocAttr,i64,bV,iD,bD,h1,h8,fh,eV,r1,r2,r3,oQ]
   ·rw[if_pos hE]at hR
    subst hR
    have r1:=q4 hE
    simp only[zX,simprocAttr,i64,bV,iD,bD,h1,h8,fh,eV,r1,oQ]
end Go.Proofs.YtmihcpdhcillaaaGreat
namespace Go.Proofs.YtmihcpdhcillaaaGreat
open Go.VL Go.Proofs.Tryz
theorem CH {p:fj}{t:List Int} (eI:∀i:Int,0≤i→i≤t.length→cV p t i (-1) 6000=0) {F:Int} (hv:cc p t F=0) (i f:Int) (h0:0≤i) (h1:i≤t.length) (f0:0≤f) (f1:f≤F):(bj p t i 1 f).2.steps≤7000:=by
 obtain⟨_,_,_,v4,v5⟩:=du hv
 have Jo:=pQ (f':=f) hv f0 (by omega)
 by_cases hf:f≤6500
 ·obtain⟨_,_,e2⟩:=dV (ah:=1) Jo h0 h1
  have:=e2.s1
  omega
 ·have hg:=eI i h0 h1
  have hle:=lN hg
  obtain⟨g1,_,g3,g4⟩:=nS (f':=f) hg (by omega) (by omega)
  obtain⟨q1,_,q3⟩:=rU (n:=1) (W4 _) g1
  have Vr:dT p t i 1 f=(bj p t i 1 f).2.steps:=by
   have q1:cV p t i 1 f=0:=q1
   unfold dT;rw[if_pos q1]
  have q3:dT p t i 1 f≤dT p t i (-1) f:=q3
  omega
theorem H7 {p:fj}{t:List Int}{i n f:Int}:∀x∈allM p t i n f,x.2.length≤1000000000:=by
 intro x hx
 exact HU (i:=i) ⟨i,x.1,x.2⟩ (List.mem_map.2 ⟨x,hx,rfl⟩)
end Go.Proofs.YtmihcpdhcillaaaGreat
