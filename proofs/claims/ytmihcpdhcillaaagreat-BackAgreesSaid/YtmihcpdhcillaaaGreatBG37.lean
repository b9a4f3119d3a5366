/- A part of the proof (S34 S35 S36 S37). -/
import Derived.Test.YtmihcpdhcillaaaGreatBG19
import Derived.Test.YtmihcpdhcillaaaGreatBG30
import Derived.Test.YtmihcpdhcillaaaGreatBG36
set_option linter.unusedSimpArgs false
set_option linter.unusedVariables false
set_option maxRecDepth 100000
set_option maxHeartbeats 80000000
namespace Go.Proofs.YtmihcpdhcillaaaGreat
open Go.VL Go.Proofs.Tryz
inductive ly:Nat→bp→ai→Bool→List (Int×ar)→bp→Prop where
 |full {m:bp}{p:ai}:ly 0 m p false [] m
 |stop {n:Nat}{m m':bp}{p r:ai}{al:Bool} (h:Ag m 0 p al m' r false):ly (n+1) m p al [] m'
 |more {n:Nat}{m m1 m':bp}{p r:ai}{al:Bool}{c:ar}{L:List (Int×ar)} (h:Ag m 0 p al m1 r true) (hc:r.ak=some c) (hl:c.length=9) (h2:ly n m1 .zero false L m'):ly (n+1) m p al ((r.at_,c)::L) m'
inductive lu:Nat→bp→List (Int×ar)→bp→Prop where
 |full {m:bp}:lu 0 m [] m
 |stop {n k:Nat}{m m':bp}{r:ai} (h:fG k (.search 0) m m' r false):lu (n+1) m [] m'
 |more {n k:Nat}{m m1 m':bp}{r:ai}{c:ar}{L:List (Int×ar)} (h:fG k (.search 0) m m1 r true) (hc:r.ak=some c) (hl:c.length=9) (h2:lu n m1 L m'):lu (n+1) m ((r.at_,c)::L) m'
theorem xz {m m':bp}{base:Nat}{p r:ai}{f:Bool} (h:Ag m base p false m' r f):∃k,fG k (.search base) m m' r f:=by
 obtain⟨n,h⟩:=h
 cases h with
 |dead hk h=>exact⟨_,h⟩
theorem pr {n:Nat}{m m':bp}{p:ai}{al:Bool}{L:List (Int×ar)} (h:ly n m p al L m') (ha:al=false):lu n m L m':=by
 induction h with
 |full=>exact .full
 |stop h =>
  subst ha
  obtain⟨k,hk⟩:=xz h
  exact .stop hk
 |more h hc hl _ ih =>
  subst ha
  obtain⟨k,hk⟩:=xz h
  exact .more hk hc hl (ih rfl)
theorem ru {n:Nat}{m m1 m':bp}{p p1:ai}{al Ch:Bool}{L:List (Int×ar)} (hn:1≤n) (hb:∀m2 r f,Ag m1 0 p1 Ch m2 r f→Ag m 0 p al m2 r f) (h:ly n m1 p1 Ch L m'):ly n m p al L m':=by
 cases h with
 |full=>omega
 |stop h=>exact .stop (hb _ _ _ h)
 |more h hc hl h2=>exact .more (hb _ _ _ h) hc hl h2
def LB (r:Int×ar):Int×ar:=(r.1,cj r.2)
theorem lD {m m' mf:bp}{p p':ai}{al mQ:Bool}{Q:List (Int×Option ar)}{j:Nat}{L:List (Int×ar)} (h:iL 0 m p al Q m' p' mQ) (hj:1≤j) (hn:ly j m' p' mQ L mf) :
  ∀R:List (Int×ar),Q=R.map pR→(∀r∈R,r.2.length≤9)→ly (R.length+j) m p al (R.map LB++L) mf:=by
 induction h with
 |refl =>
  intro R hR _
  have:R=[]:=List.map_eq_nil_iff.1 hR.symm
  subst this
  simpa using hn
 |call hg ha _ ih=>exact fun R hR hl=>ru (by omega) (fun _ _ _ h=>gH hg ha h) (ih hn R hR hl)
 |pop hS hb hm hs _ ih=>exact fun R hR hl=>ru (by omega) (fun _ _ _ h=>F3 hS hb hm hs h) (ih hn R hR hl)
 |@emit m m' i c p' Q mQ h ih =>
  intro R hR hl
  cases R with
  |nil=>cases hR
  |cons r R1 =>
   rw[WU]at hR
   obtain⟨h1,h2⟩:=List.cons.inj hR
   obtain⟨rfl,rfl⟩:=Prod.mk.inj h1
   have h3:=ih hn R1 h2 (fun r hr=>hl r (by simp [hr]))
   have:=ly.more (n:=R1.length+j) (m:=m) (m1:=m) (p:=⟨r.1,some (cj r.2),.nil⟩) (al:=true) (qQ rfl) rfl (jq (hl r (by simp))) h3
   rw[W3,show R1.length+1+j=R1.length+j+1 by omega]
   exact this
theorem C0 {α β:Type}:∀R:List (α×β),(R.map Prod.fst).zip (R.map Prod.snd)=R
 |[]=>rfl
 |(a,b)::l=>by simp [C0 l]
theorem zN {t:List Int}{F:Int}{nc:Nat}{i:Int}{m:bp}{q:ai}{s:Int}{b:Bool}{x:aQ}{n:Nat} (ht:t.length≤1000000) (Sy:nc≤9) (hn:1≤n) {ah:Int} (Al:ah=n∨(ah<0∧(x.ends.length:Int)+2≤n)) (hS:gD m [q]) (dr:m.aK=false)
  (h:ca t F nc 0 [] ah i m.pop q true ⟨s,false,[],[]⟩ b x) :
  ∃L m',lu n m L m'∧uZ m m'∧L.length≤x.ends.length+1∧(x.empty=false→m'.aK=false∧m'.steps=x.steps∧x.steps≤F∧L=(x.ends.zip x.ak).map LB∧m'.top≤m'.cO.length∧(∀d∈x.ak,d.length=nc))∧(x.empty=true→m'.aK=true∧m'.top≤m'.cO.length)∧(ah<0→L.length<n):=by
 obtain⟨R,m',h1,h2,h3,h4,h6⟩:=h
 simp only[WS]at h1 h2
 have kM:uZ m m':=(wV m).trans h4
 have PQ:∀r∈R,r.2.length≤9:=fun r hr=>by have:=(h3 r hr).2.2.2;omega
 have Nh:R.length=x.ends.length:=by rw[h1,W1]
 have Qe:x.ends.zip x.ak=R:=by
  rw[h1,h2]
  exact C0 R
 have cK:∀d∈x.ak,d.length=nc:=by
  intro d hd
  rw[h2]at hd
  obtain⟨r,hr,rfl⟩:=List.mem_map.1 hd
  exact(h3 r hr).2.2.2
 have front:∀{Q:List (Int×Option ar)}{m1:bp}{p1:ai}{Ch:Bool},iL 0 m.pop q true Q m1 p1 Ch→iL 0 m .zero false Q m1 p1 Ch:=fun hr=>.pop (S:=[]) hS (Nat.zero_le _) (by rw[hS.2];simp) dr hr
 rcases h6 with ⟨k1,k2,k3,k4,kF,p',k5⟩|⟨k1,k2,k3,k4,kF,S',R0,e,d,k5,k6,k7⟩|⟨k1,k2,k3,k4,p',mQ,S',k5,k6,k7⟩
 ·
  have aS:R.length<n:=by
   rcases Al with h|h
   ·have:=k3 (by omega);omega
   ·omega
  obtain⟨j,hj⟩:∃j,n=R.length+(j+1):=⟨n-R.length-1,by omega⟩
  have hE:=lD (j:=j+1) (front k5) (by omega) (.stop (gP (.inl (by rw[k4.cO.2];exact W4 _)))) R rfl PQ
  rw[← hj,Xk]at hE
  refine⟨_,m',pr hE rfl,kM,by rw[W1];omega,fun _=>⟨k4.aK,k4.steps,kF,by rw[Qe],k4.cO.len,cK⟩,fun h=>absurd (k2.symm.trans h) Xe,fun _=>by rw[W1];exact aS⟩
 ·have hmn:ah=n:=by
   rcases Al with h|h
   ·exact h
   ·omega
  subst k6
  have Oh:n=R0.length+1:=by rw[W5]at Nh;simp at Nh;omega
  have hE:=lD (j:=1) (front k7) (W4 _) (.more (qQ rfl) rfl (jq (PQ (e,d) (by simp))) .full) R0 rfl (fun r hr=>PQ r (by simp [hr]))
  rw[← Oh]at hE
  refine⟨_,m',pr hE rfl,kM,by rw[W5,W1]at *;simp at Nh ⊢;omega,fun _=>⟨k5.aK,k5.steps,kF,by rw[Qe,XC];rfl,k5.cO.len,cK⟩,fun h=>absurd (k2.symm.trans h) Xe,fun h=>by omega⟩
 ·have aS:R.length<n:=by
   rcases Al with h|h
   ·have:=k3 (by omega);omega
   ·omega
  obtain⟨j,hj⟩:∃j,n=R.length+(j+1):=⟨n-R.length-1,by omega⟩
  cases mQ with
  |false =>
   have hE:=lD (j:=j+1) (front k7) (by omega) (.stop (gP (.inr k4.aK))) R rfl PQ
   rw[← hj,Xk]at hE
   exact⟨_,m',pr hE rfl,kM,by rw[W1];omega,fun h=>absurd (h.symm.trans k2) Xe,fun _=>⟨k4.aK,k4.top⟩,fun _=>by rw[W1];exact aS⟩
  |true =>
   obtain⟨m2,r,f,j1,j2,j3,j4,j5⟩:=BR ht (base:=0) p'.todo m' p'.at_ p'.ak k4 (k6 rfl)
   cases f with
   |false =>
    have hE:=lD (j:=j+1) (front k7) (by omega) (.stop j1) R rfl PQ
    rw[← hj,Xk]at hE
    exact⟨_,m2,pr hE rfl,kM.trans j3,by rw[W1];omega,fun h=>absurd (h.symm.trans k2) Xe,fun _=>⟨j2.aK,j2.top⟩,fun _=>by rw[W1];exact aS⟩
   |true =>
    obtain⟨c,hc,hl⟩:=(j5 rfl).ak
    have rP:ly j m2 .zero false [] m2:=by
     cases j with
     |zero=>exact .full
     |succ j=>exact .stop (gP (.inr j2.aK))
    have hE:=lD (j:=j+1) (front k7) (by omega) (.more j1 hc hl rP) R rfl PQ
    rw[← hj]at hE
    exact⟨_,m2,pr hE rfl,kM.trans j3,by simp;omega,fun h=>absurd (h.symm.trans k2) Xe,fun _=>⟨j2.aK,j2.top⟩,fun hm=>by simp;rcases Al with h|h <;> omega⟩
theorem JL {n:Nat}{task:cY}{m m':bp}{r:ai}{f:Bool} (h:fG n task m m' r f):uZ m m':=by
 induction h with
 |pop hk hb ht hm hs hq h ih=>exact(wV _).trans ih
 |dead hk h ih=>exact ih
 |move jT od hp h1 h2 wK fR=>exact wK.trans fR
 |wk=>exact iq _
 |tree hk hg ho hf h ih=>exact(iq _).trans ih
 |rep hk ho h ih=>exact ih
 |nB=>exact iq _
 |w4=>exact iq _
 |xw=>exact iq _
 |uQ=>exact(iq _).trans (kx _ _)
 |uS=>exact(iq _).trans (kx _ _)
 |dv hj hy h ih=>exact ih
 |alt=>exact AT _ _ _
 |Hy hk ho hm h ih=>exact ih
 |ahead hk ho dN h ih=>exact ih
 |behind hk ho dN hp Ef h ih=>exact ih
 |atom hk ho dN h ih=>exact ih
 |first hk ht hm h h1 h2 ih=>exact⟨ih.p,ih.t,ih.start,ih.fuel⟩
 |nQ hk hs h ih=>exact ih
 |ov jT od hs h h2 ih fR=>exact ih.trans fR
 |_=>exact .refl _
theorem Rp {e:VL.Env}{s:List VL.Obj} (t sz:Nat) (h:e t=.fu []):bM e s (bW e t (.so s.length 0 0 0)) (s++[⟨0,true,sz,[]⟩]):=by
 intro σ0 s0 w0 σ w N a hE hI hR
 have hp:=lz (p:=none) (o':=⟨0,true,sz,[]⟩) (w':=w) hI rfl rfl rfl (W4 _) (fun _ _=>rfl) (fun _ _ h'=>by cases h') (fun _=>.inl (.inl ⟨rfl,rfl⟩))
 refine⟨_,hE.trans hp.1,hp.2,hR.1,hR.2.1,fun x=>?_⟩
 have hx:=(hR.2.2 x).bS hp.1
 unfold bW
 by_cases US:x=t
 ·subst US
  rw[if_pos rfl]
  rw[h]at hx
  generalize (a.tmps.getD x undef)=u at hx ⊢
  cases hx with|fu hx=>?_
  exact .so ⟨0,true,sz,[]⟩ (by simp) (W4 _) rfl (fun _=>.inl ⟨cw _ _ _,⟨_,rfl⟩,rfl,rfl⟩)
 ·rw[if_neg US];exact hx
theorem QS {L:Nat}{e:VL.Env}{s:List VL.Obj} (t sz:Nat) (h:e t=.fu []):dw L e s (bW e t (.so s.length 0 0 0)) (s++[⟨0,true,sz,[]⟩]):=.U4 (Rp t sz h)
def iH (n:Nat) (at_:Int) (x:Int×ar):List D:=[iD at_,iD x.1,bH (x.2.take n)]
def vY (p:fj):VL.Obj:=⟨0,false,10,[(jy p).map .d]⟩
theorem F5 (p:fj) (n:Nat):cU n (vY p)=true:=by
 unfold vY cU
 rw[List.all_cons,List.all_nil,XT,Xn]
 intro v hv
 obtain⟨d,_,rfl⟩:=List.mem_map.1 hv
 rfl
theorem Ny {Y Z n:Nat} (m:bp) (b a:Nat) (hY:Y<n) (hZ:Z<n):(cU n (v8 Y Z m)&&(cU n Ed&&cU n (Ic b a m)))=true:=by
 have h:=b9 m b a n
 rw[W7]at h
 have h1:cU n (v8 Y Z m)=true:=by
  unfold v8 cU
  simp [ao,i64,bV,hY,hZ]
 rw[h1,X0]
 unfold Ed Ic cU
 rw[W7]
 exact h
theorem HC (n k:Nat) (at_:Int) (L:List (Int×ar)) (g sz:Nat):cU n ⟨g,true,sz,(L.map (iH k at_)).map (·.map V.d)⟩=true:=by
 unfold cU
 rw[Xn]
 intro e he
 obtain⟨x,_,rfl⟩:=List.mem_map.1 he
 rw[Xn]
 intro v hv
 obtain⟨d,_,rfl⟩:=List.mem_map.1 hv
 rfl
theorem FE (p:fj) (t:List Int) (at_ ah fuel:Int) (hf:p.re.fA=true) (ht:t.length≤1000000000) (hv:cc p t fuel=0) (hm:1≤ah) (a0:0≤at_) (a1:at_≤t.length) (IL:0≤p.ak) (AU:p.ak≤9)
  {L:List (Int×ar)}{m':bp} (h:lu ah.toNat ((jJ p t fuel).begin at_) L m') (hL:L.length≤1000000000) :
  br prog 8 [cN p,.d (aB t),i64 at_,i64 ah,i64 fuel] (if m'.aK=true then .tu [.d (.sl []),i64 0,i64 11] else .tu [.d (.sl (L.map (iH p.ak.toNat at_))),i64 m'.steps,i64 0]):=by
 have qu:=vb [p] t fuel (by simp) (fun q hq=>by rw[List.mem_singleton.1 hq];exact hf) ht
 rw[uv,hv]at qu
 have yH:jy p=p.re.cells++[iD p.ak,bD p.bk]:=rfl
 simp only[WU,WV,yH,Re.ae p.re,WR,WS,i64,iD,bD]at qu
 have c1:¬ah<1:=by omega
 have c2:¬at_<0:=by omega
 have c3:¬(t.length:Int)<at_:=by omega
 have lq:=fun K hk=>AD (p:=p) (t:=t) (fuel:=fuel) (s:=[vY p]) (K:=K) hk
 refine aw func8 rfl ntmps8 results8 rfl 0 261183 (by simp) (by simp) ?_
 simp only[zX,simprocAttr,i64,cN,Re.ae p.re,bV,iD,bD,WU,WV,WR,WS]
 refine aO [] (by simp [aM,aR.go,aR,bN];rfl) ?_
 refine aD qu rfl rfl ?_
 simp only[zX,simprocAttr,i64,cN,bV,iD,bD,ne_eq,not_true_eq_false,c1,c2,c3,aB,gt_iff_lt,W1]
 refine aO [0] (by simp [aM,bf,aR.go,aR,bN];rfl) ?_
 simp only[aM,bf,W9,Xh]
 have D9:vY p=vY p:=rfl
 conv at D9=>rhs;simp only[vY,yH,Re.ae p.re,i64,iD,bD,WU,WV,WR,WS]
 rw[← D9]
 have Oq:=F5 p
 generalize vY p=bo at *
 clear D9
 simp only[yH,Re.ae p.re,i64,iD,bD,aB,WU,WV,WR,WS,W3,Xa,Xi,Nat.reduceAdd]at lq
 refine lq _ (fun b a=>?_)
 simp only[zX,simprocAttr,i64,cN,bV,iD,bD,WR,WS]
 refine qq (X:=1) (Y:=2) (Z:=3) (Aq 0 b a (jJ p t fuel) at_ (W4 _)) (by decide) rfl rfl rfl rfl rfl rfl ?_
 simp only[Xh,Xl]
 simp only[zX,simprocAttr,i64,cN,bV,iD,bD,WR,WS]
 refine aX (fun n e s=>∃(m1:bp) (L1 L2:List (Int×ar)) (g:Nat),n+L1.length=ah.toNat∧L1++L2=L∧lu n m1 L2 m'∧m1.start=at_∧m1.p=p∧e 3=i64 ah∧e 14=.pp 1 0 0 0 b a∧e 15=.so 4 g 0 L1.length ∧
   s=[bo,v8 2 3 m1,Ed,Ic b a m1,⟨g,true,3,(L1.map (iH p.ak.toNat at_)).map (·.map .d)⟩])
  ⟨_,_,_,QS 15 3 rfl,(jJ p t fuel).begin at_,[],L,0,by simp,rfl,h,rfl,rfl,rfl,rfl,rfl,rfl⟩ ?_
 clear h
 rintro n e s ⟨m1,L1,L2,g,hn,PN,hx,aW,L6,h3,eV,jB,rfl⟩
 have Bf:L1.length≤L.length:=by rw[← PN,W5];omega
 cases hx with
 |full =>
  have Eg:¬(L1.length:Int)<ah:=by omega
  rw[Xk]at PN
  subst PN
  have N9:∀s:List VL.Obj,List.mapM (fun e=>List.mapM (bN 7 0 s) e) (List.take L1.length (List.map (fun x=>List.map V.d x) (List.map (iH p.ak.toNat at_) L1)))=some (L1.map (iH p.ak.toNat at_)):=fun s=>by
   rw[Xv (by simp)]
   exact nF 7 0 s _
  simp only[zX,simprocAttr,i64,bV,iD,bD,h3,eV,jB,Eg,W1]
  cases dr:m'.aK with
  |true =>
   unfold v8
   simp only[zX,simprocAttr,i64,bV,iD,bD,h3,eV,jB,dr]
  |false =>
   rw[if_neg Xe]
   unfold v8
   simp only[zX,simprocAttr,i64,bV,iD,bD,h3,eV,jB,dr,W2]
   refine aq mix [] [] (by rfl) ?_
   simp only[zX,simprocAttr,i64,bV,iD,bD,h3,eV,jB,dr,N9,Xi,W4,if_true,XE]
 |stop hs =>
  have MA:=G4 0 b a (Bn _ _ _ _ _ _ hs 0 b a)
  have Eg:(L1.length:Int)<ah:=by omega
  rw[Xk]at PN
  subst PN
  have N9:∀s:List VL.Obj,List.mapM (fun e=>List.mapM (bN 7 0 s) e) (List.take L1.length (List.map (fun x=>List.map V.d x) (List.map (iH p.ak.toNat at_) L1)))=some (L1.map (iH p.ak.toNat at_)):=fun s=>by
   rw[Xv (by simp)]
   exact nF 7 0 s _
  simp only[zX,simprocAttr,i64,bV,iD,bD,h3,eV,jB,Eg,W1]
  refine qq (X:=1) (Y:=2) (Z:=3) (r':=.tu [.ag [i64 0,i64 0,.d (.sl [])],bV false]) MA (by decide) rfl rfl rfl rfl rfl rfl ?_
  simp only[Xh,Xl]
  simp only[zX,simprocAttr,i64,bV,iD,bD,h3,eV,jB,Eg,W1,W0]
  cases dr:m'.aK with
  |true =>
   unfold v8
   simp only[zX,simprocAttr,i64,bV,iD,bD,h3,eV,jB,dr]
  |false =>
   rw[if_neg Xe]
   unfold v8
   simp only[zX,simprocAttr,i64,bV,iD,bD,h3,eV,jB,dr,W2]
   refine aq mix [] [] (by rfl) ?_
   simp only[zX,simprocAttr,i64,bV,iD,bD,h3,eV,jB,dr,N9,Xi,W4,if_true,XE]
 |@more n k _ m2 _ r c L3 hs hc hl BI =>
  have kM:=JL hs
  have MA:=C2 0 b a (Bn _ _ _ _ _ _ hs 0 b a) hc hl (by rw[kM.p,L6];exact IL) (by rw[kM.p,L6];exact AU)
  rw[kM.p,L6,kM.start,aW]at MA
  have Eg:(L1.length:Int)<ah:=by omega
  simp only[zX,simprocAttr,i64,bV,iD,bD,h3,eV,jB,Eg,W1]
  refine qq (X:=1) (Y:=2) (Z:=3) (r':=.tu [.ag [i64 at_,i64 r.at_,.d (bH (c.take p.ak.toNat))],bV true]) MA (by decide) rfl rfl rfl rfl rfl rfl ?_
  simp only[Xh,Xl]
  simp only[zX,simprocAttr,i64,bV,iD,bD,h3,eV,jB,Eg,W1,WY]
  refine⟨by simp,⟨by omega,by omega⟩,n,_,_,Xo n,dw.cut (s':=[bo,v8 2 3 m2,Ed,Ic b a m2,⟨g+1,true,3,((L1++[(r.at_,c)]).map (iH p.ak.toNat at_)).map (·.map .d)⟩]) 5 (by omega) ?_ ?_ [3,14,15] ?_,m2,L1++[(r.at_,c)],L3,g+1,?_,?_,BI,?_,?_,?_,?_,?_,rfl⟩ <;> (try simp only[zU,Nat.reduceBEq,Nat.reduceShiftRight,Nat.reduceMod,Nat.reduceEqDiff,reduceIte])
  ·have vf:List.take L1.length (List.map (fun x=>List.map V.d x) (List.map (iH p.ak.toNat at_) L1))=List.map (fun x=>List.map V.d x) (List.map (iH p.ak.toNat at_) L1):=Xv (by simp)
   rw[vf,XC,XC]
   rfl
  ·have h1:=Ny (Y:=2) (Z:=3) (n:=5) m2 b a (by decide) (by decide)
   simp only[List.all_cons,List.all_nil,XT,Oq,X0,HC]
   exact h1
  ·simp [bW,ba,ao,i64,h3,eV,jB]
  ·rw[W5];simp;omega
  ·rw[Xx];exact PN
  ·exact kM.start.trans aW
  ·exact kM.p.trans L6
  ·exact h3
  ·exact eV
  ·rw[W5];rfl
def mI (p:fj) (t:List Int) (at_ ah fuel:Int):Int:=if cc p t fuel≠0 then cc p t fuel else if ah<1 then 1 else if at_<0∨(t.length:Int)<at_ then 5 else 0
theorem Fe (p:fj) (t:List Int) (at_ ah fuel:Int) (hf:p.re.fA=true) (ht:t.length≤1000000000) (hE:mI p t at_ ah fuel≠0) :
  br prog 8 [cN p,.d (aB t),i64 at_,i64 ah,i64 fuel] (.tu [.d (.sl []),i64 0,i64 (mI p t at_ ah fuel)]):=by
 have qu:=vb [p] t fuel (by simp) (fun q hq=>by rw[List.mem_singleton.1 hq];exact hf) ht
 rw[uv]at qu
 have yH:jy p=p.re.cells++[iD p.ak,bD p.bk]:=rfl
 unfold mI at *
 generalize cc p t fuel=v at *
 simp only[WU,WV,yH,Re.ae p.re,WR,WS,i64,iD,bD]at qu
 refine aw func8 rfl ntmps8 results8 rfl 0 261183 (by simp) (by simp) ?_
 simp only[zX,simprocAttr,i64,cN,Re.ae p.re,bV,iD,bD,WU,WV,WR,WS]
 refine aO [] (by simp [aM,aR.go,aR,bN];rfl) ?_
 refine aD qu rfl rfl ?_
 by_cases c0:v=0
 ·subst c0
  simp only[ne_eq,not_true_eq_false,if_false]at hE ⊢
  by_cases c1:ah<1
  ·rw[if_pos c1]
   simp only[zX,simprocAttr,i64,cN,bV,iD,bD,ne_eq,not_true_eq_false,c1,aB,gt_iff_lt,W1]
  ·rw[if_neg c1]at hE ⊢
   by_cases c2:at_<0
   ·rw[if_pos (.inl c2)]
    simp only[zX,simprocAttr,i64,cN,bV,iD,bD,ne_eq,not_true_eq_false,c1,c2,aB,gt_iff_lt,W1]
   ·by_cases c3:(t.length:Int)<at_
    ·rw[if_pos (.inr c3)]
     simp only[zX,simprocAttr,i64,cN,bV,iD,bD,ne_eq,not_true_eq_false,c1,c2,c3,aB,gt_iff_lt,W1]
    ·rw[if_neg (by omega)]at hE
     exact absurd rfl hE
 ·rw[if_pos c0]
  simp only[zX,simprocAttr,i64,cN,bV,iD,bD,ne_eq,c0,not_false_eq_true]
theorem JG {re:Re}{ak top:Int} (h:b7 re ak top=true) (hk:re.kids.length≤1000):vS ak re=true:=by
 have hsh:=of_decide_eq_true (pE h (by omega))
 obtain⟨s1,s2,s3,s4⟩:=hsh
 obtain⟨h1,h2,h3,h4,h5⟩:=gK.1 h
 refine decide_eq_true ⟨fun ho=>?_,s2,s3,hk,fun ho=>?_,fun ho=>?_,fun ho=>?_,h1.1,h1.2.1⟩
 ·rcases ho with ho|ho
  ·intro hn
   have:=h1.2.2.1
   rw[hn,ho]at this
   simp [cR]at this
  ·exact s1 ho
 ·rw[if_pos ho]at h4;exact h4
 ·rw[if_neg (by omega),if_pos ho]at h4;exact h4
 ·rw[if_pos ho]at h3;exact h3.2.2.1
theorem KD {ak top:Int} (re:Re) (h:re.whole ak top=true) (hs:re.size≤1000):re.every (vS ak)=true:=by
 revert h hs
 refine Re.ind (Q:=fun re=>re.whole ak top=true→re.size≤1000→re.every (vS ak)=true) (fun re ih h hs=>?_) re
 obtain⟨a1,a2⟩:=(Re.ck re).1 h
 have:=Re.pN re.kids
 have:=Re.size_eq re
 exact(Re.ck re).2 ⟨JG a1 (by omega),fun k hk=>ih k hk (a2 k hk) (by have:=Re.gG hk;omega)⟩
theorem KM {p:fj} (h0:0≤p.ak) (h9:p.ak≤9):cj (iR p)=List.replicate 9 (-1,-1):=by
 unfold cj iR
 rw[XD,List.replicate_append_replicate]
 congr 1
 omega
theorem GL {p:fj}{t:List Int}{at_ ah fuel s:Int}{b:Bool}{x:aQ}{k:Nat} (hp:df p=0) (ht:t.length≤65536) (a0:0≤at_) (a1:at_≤t.length) (hm:0≤ah→0<ah) (ij:0≤s) (gy:s≤fuel)
  (hx:dA t fuel k ah (.run (.mk 0 p.re 0 0 .nil) at_ (iR p)) ⟨s,false,[],[]⟩=some (b,x)) (hB:x.steps≤100000000) {m:bp} (L6:m.p=p) (yT:m.t=t) (N9:m.fuel=fuel) (R6:m.steps=s) (dr:m.aK=false) (aW:gD m []) :
  ca t fuel p.ak.toNat 0 [] ah at_ m ⟨at_,some (List.replicate 9 (-1,-1)),.tree p.re [iD p.ak,bD p.bk] .nil⟩ true ⟨s,false,[],[]⟩ b x:=by
 obtain⟨k1,k2,k3,k4,k5⟩:=eC hp
 have cK:(iR p).length=p.ak.toNat:=by unfold iR;rw[XD]
 have Sy:((p.ak.toNat:Nat):Int)=p.ak:=by omega
 have QD:=Tt (t:=t) (F:=fuel) (nc:=p.ak.toNat) ⟨by omega,by omega⟩ (Fa k _ _ _ _ _ hx) hB 0 [] ⟨rfl,ij,gy,fun h=>by have:=hm h;simpa using this,W4 _,a0,a1,⟨by show (iR p).length≤_;omega,fun q hq=>.inl (List.eq_of_mem_replicate hq)⟩,cK⟩
  m (.tree p.re [iD p.ak,bD p.bk] .nil) ⟨yT,N9,aW,R6,dr,by simpa using by omega⟩ (.tree .nil) ⟨fun _=>by rw[Sy];exact KD _ k5 (by omega),fun h=>by omega,fun h=>by omega,fun h=>by omega,fun h=>by omega,trivial⟩
 rw[KM k3 k4]at QD
 exact QD
theorem LG {p:fj}{t:List Int}{at_ ah fuel:Int} (hv:cc p t fuel=0) (a0:0≤at_) (a1:at_≤t.length) {n:Nat} (hn:1≤n) (Al:ah=n∨(ah<0∧((bj p t at_ ah fuel).2.ends.length:Int)+2≤n)) (hB:(bj p t at_ ah fuel).2.steps≤100000000) :
  ∃L m',lu n ((jJ p t fuel).begin at_) L m'∧L.length≤(bj p t at_ ah fuel).2.ends.length+1∧(cV p t at_ ah fuel=0→m'.aK=false∧m'.steps=dT p t at_ ah fuel∧L.map (iH p.ak.toNat at_)=(allM p t at_ ah fuel).map (lB at_))∧(cV p t at_ ah fuel≠0→cV p t at_ ah fuel=11∧m'.aK=true)∧(ah<0→L.length<n):=by
 obtain⟨h1,h2,h3,h4,h5⟩:=du hv
 obtain⟨k1,k2,k3,k4,k5⟩:=eC h1
 obtain⟨k,e1,_⟩:=dV (ah:=ah) hv a0 a1
 have aW:gD ((jJ p t fuel).begin at_) ([]++[(jJ p t fuel).By at_]):=⟨rfl,rfl⟩
 have sA:=GL (s:=0) h1 h2 a0 a1 (fun h=>by omega) (WW _) h4 e1 hB (m:=((jJ p t fuel).begin at_).pop) rfl rfl rfl rfl rfl aW.last.2
 obtain⟨L,m',q1,q2,q3,q4,q5,q6⟩:=zN (by omega) (by omega) hn Al aW rfl sA
 have hE:cV p t at_ ah fuel=if (bj p t at_ ah fuel).2.empty=true then 11 else 0:=by
  unfold cV;rw[if_neg (by rw[hv];simp),if_neg (by omega)]
 refine⟨L,m',q1,q3,fun rP=>?_,fun Ls=>?_,q6⟩
 ·have he:(bj p t at_ ah fuel).2.empty=false:=by
   cases h:(bj p t at_ ah fuel).2.empty with
   |false=>rfl
   |true=>rw[hE,h,if_pos rfl]at rP;omega
  obtain⟨r1,r2,r3,r4,r5,r6⟩:=q4 he
  refine⟨r1,by unfold dT;rw[if_pos rP];exact r2,?_⟩
  unfold allM
  rw[if_pos rP,r4,XS]
  refine XM fun y hy=>?_
  obtain⟨e,d⟩:=y
  have hd:=r6 d (List.of_mem_zip hy).2
  simp only[Function.comp_apply,LB,iH,lB]
  congr 4
  unfold cj
  rw[← hd,List.take_left']
  rfl
 ·have he:(bj p t at_ ah fuel).2.empty=true:=by
   cases h:(bj p t at_ ah fuel).2.empty with
   |true=>rfl
   |false=>rw[hE,h,if_neg Xe]at Ls;exact absurd rfl Ls
  exact⟨by rw[hE,if_pos he],(q5 he).1⟩
theorem Hc (p:fj) (t:List Int) (at_ ah fuel:Int) (hf:p.re.fA=true) (ht:t.length≤1000000000) (hm:1≤ah) (hB:cc p t fuel=0→0≤at_→at_≤t.length→(bj p t at_ ah fuel).2.steps≤100000000) :
  br prog 8 [cN p,.d (aB t),i64 at_,i64 ah,i64 fuel] (.tu [.d (.sl ((allM p t at_ ah fuel).map (lB at_))),i64 (dT p t at_ ah fuel),i64 (cV p t at_ ah fuel)]):=by
 by_cases rP:mI p t at_ ah fuel=0
 ·have hv:cc p t fuel=0:=by
   apply Classical.byContradiction;intro hc
   unfold mI at rP;rw[if_pos hc]at rP;exact hc rP
  have hr:¬(at_<0∨(t.length:Int)<at_):=by
   intro hc
   unfold mI at rP;rw[if_neg (by rw[hv];simp),if_neg (by omega),if_pos hc]at rP;omega
  obtain⟨h1,h2,h3,h4,h5⟩:=du hv
  obtain⟨k1,k2,k3,k4,k5⟩:=eC h1
  obtain⟨_,_,QC⟩:=dV (ah:=ah) hv (at_:=at_) (by omega) (by omega)
  obtain⟨new,mg,z1,_,_,z4,_,_⟩:=QC.more
  have hB:=hB hv (by omega) (by omega)
  have zT:(bj p t at_ ah fuel).2.ends.length≤200000000:=by
   rw[z1]
   simp only[WS]
   have:(0:Int)≤(⟨0,false,[],[]⟩:aQ).steps:=WW _
   simp only at z4
   omega
  obtain⟨L,m',q1,q2,q3,q4,_⟩:=LG (ah:=ah) (n:=ah.toNat) hv (by omega) (by omega) (by omega) (.inl (by omega)) hB
  have c8:=FE p t at_ ah fuel hf ht hv hm (by omega) (by omega) k3 k4 q1 (by omega)
  by_cases hE:cV p t at_ ah fuel=0
  ·obtain⟨r1,r2,r3⟩:=q3 hE
   rw[r1,if_neg Xe,r2,r3]at c8
   rw[hE]
   exact c8
  ·obtain⟨r1,r2⟩:=q4 hE
   rw[r2,if_pos rfl]at c8
   have hM:allM p t at_ ah fuel=[]:=by unfold allM;rw[if_neg hE]
   have hN:dT p t at_ ah fuel=0:=by unfold dT;rw[if_neg hE]
   rw[hM,hN,r1]
   exact c8
 ·have Sj:=Fe p t at_ ah fuel hf ht rP
  have hE:cV p t at_ ah fuel=mI p t at_ ah fuel:=by
   unfold mI at *
   unfold cV
   have rF:¬ah<1:=by omega
   by_cases hv:cc p t fuel=0
   ·by_cases hr:at_<0∨(t.length:Int)<at_
    ·simp only[hv,ne_eq,not_true_eq_false,if_false,rF,hr,if_true]
    ·exfalso
     simp only[hv,ne_eq,not_true_eq_false,if_false,rF,hr]at rP
   ·rw[if_pos hv,if_pos hv]
  have hM:allM p t at_ ah fuel=[]:=by unfold allM;rw[if_neg (by rw[hE];exact rP)]
  have hN:dT p t at_ ah fuel=0:=by unfold dT;rw[if_neg (by rw[hE];exact rP)]
  rw[hM,hN,hE]
  exact Sj
end Go.Proofs.YtmihcpdhcillaaaGreat
