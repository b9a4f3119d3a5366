/- A part of the proof (G50 G51 G52). -/
import Derived.Test.YtmihcpdhcillaaaGreatBG3
import Derived.Test.YtmihcpdhcillaaaGreatBG21
import Derived.Test.YtmihcpdhcillaaaGreatBG39
import Derived.Test.YtmihcpdhcillaaaGreatBG46
import Derived.Test.YtmihcpdhcillaaaGreatBG47
set_option linter.unusedSimpArgs false
set_option linter.unusedVariables false
set_option maxRecDepth 100000
set_option maxHeartbeats 80000000
namespace Go.Proofs.YtmihcpdhcillaaaGreat
open Go.VL Go.Proofs.Tryz
theorem KF {re:Re}{ak top:Int} (h:b7 re ak top=true) (hk:re.kids.length≤1000000000):vB ak re=true:=by
 have hsh:=of_decide_eq_true (pE h hk)
 obtain⟨s1,s2,s3,s4⟩:=hsh
 obtain⟨h1,h2,h3,h4,h5⟩:=gK.1 h
 refine decide_eq_true ⟨fun ho=>?_,s2,s3,s4,fun ho=>?_,fun ho=>?_,fun ho=>?_⟩
 ·rcases ho with ho|ho
  ·intro hn
   have:=h1.2.2.1
   rw[hn,ho]at this
   simp [cR]at this
  ·exact s1 ho
 ·rw[if_pos ho]at h4;exact h4
 ·rw[if_neg (by omega),if_pos ho]at h4;exact h4
 ·rw[if_pos ho]at h3;exact h3.2.2.1
theorem Jd {ak top:Int} (re:Re) (h:re.whole ak top=true) (hs:re.size≤1000000):re.every (vB ak)=true:=by
 revert h hs
 refine Re.ind (Q:=fun re=>re.whole ak top=true→re.size≤1000000→re.every (vB ak)=true) (fun re ih h hs=>?_) re
 obtain⟨a1,a2⟩:=(Re.ck re).1 h
 have:=Re.pN re.kids
 have:=Re.size_eq re
 exact(Re.ck re).2 ⟨KF a1 (by omega),fun k hk=>ih k hk (a2 k hk) (by have:=Re.gG hk;omega)⟩
theorem MN {p:fj}{t:List Int}{at_ ah fuel:Int} (hv:cc p t fuel=0) (a0:0≤at_) (a1:at_≤t.length) (hm:0≤ah→0<ah) {m:aC} (hp:m.p=p) :
  gF p.re t fuel p.ak.toNat 0 [] ah at_ (m.vJ t at_ fuel) (kq m at_) true ⟨0,false,[],[]⟩ (bj p t at_ ah fuel).1 (bj p t at_ ah fuel).2:=by
 obtain⟨h1,h2,h3,h4,h5⟩:=du hv
 obtain⟨k1,k2,k3,k4,k5⟩:=eC h1
 obtain⟨n,e1,_⟩:=dV (ah:=ah) hv a0 a1
 have cK:(iR p).length=p.ak.toNat:=by unfold iR;rw[XD]
 have Lt:kq m at_=⟨at_,iR p,.mk 0 .root 0 0 .nil⟩:=by unfold kq iR;rw[hp]
 rw[Lt]
 refine G3 ⟨by omega,by omega,by omega⟩ n ah _ _ _ _ e1 0 [] (m.vJ t at_ fuel) ⟨at_,iR p,.mk 0 .root 0 0 .nil⟩ ⟨by show m.p.re=p.re;rw[hp],rfl,rfl,(fun h=>by cases h),⟨rfl,rfl,by show 0≤_;omega⟩,rfl,rfl,WW _⟩
  ⟨rfl,WW _,h4,fun h=>by have:=hm h;simpa using this⟩ (W4 _) ⟨rfl,rfl,.tree rfl .nil⟩ ?_ a0 a1 ⟨by show (iR p).length≤_;omega,fun q hq=>.inl (List.eq_of_mem_replicate hq)⟩ cK
 refine⟨fun _=>?_,fun h=>by omega,fun h=>by omega,fun h=>by omega,fun h=>by omega,trivial⟩
 have:((p.ak.toNat:Nat):Int)=p.ak:=by omega
 rw[this]
 exact Jd _ k5 (by omega)
theorem O6 {P:Re}{t:List Int}{F:Int}{nc:Nat}{i:Int}{m:aC}{q:aA}{al:Bool}{s:Int}{b:Bool}{x:aQ} (h:gF P t F nc 0 [] 1 i m q al ⟨s,false,[],[]⟩ b x) :
  ∃m1 r found,Ev m 0 q al (m1,r,found)∧Po m m1∧m1.top≤m1.cO.length∧s≤x.steps∧r.ak.length≤nc ∧
   ((x.empty=false∧m1.aK=false∧m1.steps=x.steps∧x.steps≤F∧((found=true∧∃e d,x.ends=[e]∧x.ak=[d]∧r=⟨e,d,.nil⟩)∨(found=false∧x.ends=[]∧x.ak=[]))) ∨
    (x.empty=true∧m1.aK=true∧found=false)):=by
 obtain⟨R,m',h1,h2,h3,h4,h5,h6⟩:=h
 simp only[WS]at h1 h2
 rcases h6 with ⟨k1,k2,k3,k4,kF,p',k5⟩|⟨k1,k2,k3,k4,kF,S',R0,e,d,k5,k6,k7⟩|⟨k1,k2,k3,k4,p',S',k5,k6⟩
 ·have hx:x.ends=[]:=Xb (by have:=k3 (by omega);omega)
  have hR:R=[]:=by rw[h1]at hx;exact List.map_eq_nil_iff.1 hx
  subst hR
  exact⟨m',.zero,false,qB k5 rfl (wC k4.cO.2.1),h4,k4.cO.len,h5,Nat.zero_le _,.inl ⟨k2,k4.aK,k4.steps,kF,.inr ⟨rfl,by simpa using h1,by simpa using h2⟩⟩⟩
 ·have Oh:R0=[]:=by
   have:=congrArg List.length h1
   rw[k6]at this
   simp at this
   exact Xb (by omega)
  subst Oh
  simp only[WS]at k6
  subst k6
  have he:Ev m 0 q al (m',⟨e,d,.nil⟩,true):=by
   refine qB k7 rfl ?_
   have:=Cx (m:=m') (base:=0) (p:=⟨e,d,.nil⟩) rfl
   rwa [k5.aK]at this
  have hr:=h3 (e,d) (by simp)
  exact⟨m',_,true,he,h4,k5.cO.len,h5,by show d.length≤nc;rw[hr.2.2.2];exact W4 _,.inl ⟨k2,k5.aK,k5.steps,kF,.inl ⟨rfl,e,d,by simpa using h1,by simpa using h2,rfl⟩⟩⟩
 ·have hx:x.ends=[]:=Xb (by have:=k3 (by omega);omega)
  have hR:R=[]:=by rw[h1]at hx;exact List.map_eq_nil_iff.1 hx
  subst hR
  have kT:∃m2,Ev m' 0 p' false (m2,.zero,false)∧m2.top≤m2.cO.length∧m2.aK=true∧Po m' m2:=by
   simp only[WS]at k5
   rcases List.eq_nil_or_concat S' with rfl|⟨S2,q2,rfl⟩
   ·exact⟨m',wC k5.2.1,k5.len,k4,.refl _⟩
   ·have Kz:va m' (S2++[q2]):=by simpa [List.concat_eq_append]using k5
    refine⟨m'.pop,?_,Kz.last.2.len,k4,EN m'⟩
    have hl:=Kz.len
    have ht:m'.top=S2.length+1:=by rw[Kz.2.1,W5];rfl
    refine⟨2,?_⟩
    rw[bh.eq_2,if_neg (show ¬(false=true∧m'.aK=true) from fun h=>by cases h.1),if_neg (fun h=>by cases h.1),if_neg (fun h=>by cases h),if_neg (by omega),if_neg (by have:=Kz.2.2;omega),Kz.last.1]
    simp only
    rw[bh.eq_2,if_pos ⟨rfl,k4⟩]
  obtain⟨m2,j1,j2,j3,j4⟩:=kT
  exact⟨m2,.zero,false,qB k6 rfl j1,h4.trans j4,j2,h5,Nat.zero_le _,.inr ⟨k2,j3,rfl⟩⟩
noncomputable def C5 (p:fj) (t:List Int) (at_ fuel:Int):List V :=
 if cV p t at_ 1 fuel≠0 then [i64 0,i64 0,.d (.sl []),bV false,i64 0,i64 (cV p t at_ 1 fuel)]
 else match allM p t at_ 1 fuel with
  |[]=>[i64 0,i64 0,.d (.sl []),bV false,i64 (dT p t at_ 1 fuel),i64 0]
  |(e,d)::_=>[i64 at_,i64 e,.d (bH d),bV true,i64 (dT p t at_ 1 fuel),i64 0]
theorem Mc {p:fj}{t:List Int}{at_ fuel:Int} (hv:cc p t fuel=0) (a0:0≤at_) (a1:at_≤t.length) {m:aC} (hp:m.p=p) :
  ∃k m2 r found,bh k true (m.vJ t at_ fuel) 0 (kq m at_) true=some (m2,r,found)∧Po (m.vJ t at_ fuel) m2∧m2.top≤m2.cO.length∧r.ak.length≤1000000000∧m2.res r found=C5 p t at_ fuel∧(m2.done found).ready=(decide (cV p t at_ 1 fuel=0)&&!(allM p t at_ 1 fuel).isEmpty):=by
 obtain⟨h1,h2,h3,h4,h5⟩:=du hv
 obtain⟨k1,k2,k3,k4,k5⟩:=eC h1
 have sA:=MN (ah:=1) hv a0 a1 (fun _=>by omega) hp
 obtain⟨m1,r,found,j1,j2,j3,_,j4,j5⟩:=O6 sA
 obtain⟨k,hk⟩:=IW (m:=m.vJ t at_ fuel) rfl j1
 have hE:cV p t at_ 1 fuel=if (bj p t at_ 1 fuel).2.empty=true then 11 else 0:=by
  unfold cV;rw[if_neg (by rw[hv];simp),if_neg (by omega)]
 have aW:m1.start=at_:=j2.fr.start
 refine⟨k,m1,r,found,hk,j2,j3,by omega,?_,?_⟩
 ·unfold C5 aC.res
  rcases j5 with ⟨l1,l2,l3,lF,l4⟩|⟨l1,l2,rfl⟩
  ·have rP:cV p t at_ 1 fuel=0:=by rw[hE,if_neg (by rw[l1];simp)]
   have hN:dT p t at_ 1 fuel=(bj p t at_ 1 fuel).2.steps:=by unfold dT;rw[if_pos rP]
   have SO:allM p t at_ 1 fuel=(bj p t at_ 1 fuel).2.ends.zip (bj p t at_ 1 fuel).2.ak:=by unfold allM;rw[if_pos rP]
   rw[if_neg (by rw[l2];simp),if_neg (show ¬(cV p t at_ 1 fuel≠0) from by rw[rP];simp),SO,hN,aW,l3]
   rcases l4 with ⟨rfl,e,d,q1,q2,rfl⟩|⟨rfl,q1,q2⟩
   ·rw[if_pos rfl,q1,q2];rfl
   ·rw[if_neg (by simp),q1,q2];rfl
  ·have Ls:cV p t at_ 1 fuel=11:=by rw[hE,if_pos l1]
   rw[if_pos l2,if_pos (show cV p t at_ 1 fuel≠0 from by rw[Ls];simp),Ls]
 ·show (found&&!m1.aK)=_
  rcases j5 with ⟨l1,l2,l3,lF,l4⟩|⟨l1,l2,rfl⟩
  ·have rP:cV p t at_ 1 fuel=0:=by rw[hE,if_neg (by rw[l1];simp)]
   have SO:allM p t at_ 1 fuel=(bj p t at_ 1 fuel).2.ends.zip (bj p t at_ 1 fuel).2.ak:=by unfold allM;rw[if_pos rP]
   rw[l2,rP,SO]
   rcases l4 with ⟨rfl,e,d,q1,q2,rfl⟩|⟨rfl,q1,q2⟩
   ·rw[q1,q2];rfl
   ·rw[q1,q2];rfl
  ·rw[l2,hE,if_pos l1];rfl
def IN (Y Z:Nat) (m:aC) (T:V):VL.Obj:=⟨0,true,19,[[.d (iD m.p.re.op),.d (.sl (m.p.re.set.map aT)),.d (.sl (m.p.re.kids.map Re.cells)),.d (iD m.p.re.mn),.d (iD m.p.re.mx),.d (iD m.p.re.mode),.d (iD m.p.re.n),.d (bD m.p.re.neg),i64 m.p.ak,bV m.p.bk,T,
 .so Z m.eP 0 m.own.length,.so Y m.gen 0 m.top,i64 m.cr,i64 m.start,i64 m.steps,i64 m.fuel,bV m.aK,bV m.ready]]⟩
def IV (b a:Nat) (m:aC):VL.Obj:=⟨m.gen,true,3,m.cO.map (GV b a)⟩
def K8 (m:aC):VL.Obj:=⟨m.eP,true,1,m.own.map fun x=>[.d (iD x)]⟩
theorem Ae (X Y Z b a:Nat) (m:aC) (T:V):(m.az 0 b a T).map (bX [X,Y,Z])=[IN Y Z m (bF [X,Y,Z] T),IV b a m,K8 m]:=by
 unfold aC.az IN IV K8
 simp only[WU,WV,X4,and_true]
 refine⟨?_,?_,?_⟩
 ·unfold bX
  simp [bF.go,bF,i64,bV]
 ·unfold bX
  simp only[XS]
  congr 1
  refine XM fun p _=>?_
  cases p <;> rfl
 ·exact sa [X,Y,Z] m.eP true 1 m.own iD
def uN (p:fj):List V:=[.d (iD p.re.op),.d (.sl (p.re.set.map aT)),.d (.sl (p.re.kids.map Re.cells)),.d (iD p.re.mn),.d (iD p.re.mx),.d (iD p.re.mode),.d (iD p.re.n),.d (bD p.re.neg),i64 p.ak,bV p.bk]
def qm:List V:=[i64 0,i64 0,i64 0,i64 0,bV false,bV false]
def Cu (p:fj) (X:Nat):VL.Obj:=⟨0,true,19,[(uN p++[.fu []])++.fu []::(.so (X+1) 0 0 0::qm)]⟩
def fresh (p:fj):aC:=⟨p,[],false,[],0,[],0,0,0,0,0,0,false,false⟩
theorem CF {p:fj} (hf:p.re.fA=true) (hv:df p=0) {s:List VL.Obj}{K:V→List VL.Obj→Prop}
  (hk:∀b a:Nat,K (.tu [.pp s.length 0 0 0 b a,i64 0]) (s++[IN (s.length+1) (s.length+2) (fresh p) (.fu []),IV b a (fresh p),K8 (fresh p)])):av prog 5 [cN p] s K:=by
 have h1:av prog 5 [cN p] s fun v s1=>v=.tu [.rf s.length 0 0 0,i64 0]∧s1=s++[Bo p]:=by
  refine po (MR p hf hv) [] rfl (by simp) (fun k o h=>by simp at h) (by cases p;simp [cN,bF,bF.go,Re.ae,i64,bV,iD,bD]) (by cases p;simp [cN,ao,ao.go,Re.ae,i64,bV]) rfl ?_
  rintro v s' ⟨rfl,rfl⟩ _
  refine⟨?_,?_⟩
  ·simp [xB,bF,bF.go,i64]
  ·simp [aZ,Bo,bX,bF,bF.go,i64,bV,iD,bD]
 refine vn h1 ?_
 rintro v s1 ⟨rfl,rfl⟩ σ w u hI hu
 have hX:(s++[Bo p])[s.length]?=some (Bo p):=by simp
 -- II address
 cases hu with|@tu _ arr iB nI=>?_
 obtain⟨b,a,BH⟩:=aI.NH hX rfl (nI 0 _ rfl)
 -- II two Sp
 obtain⟨σ1,e1,i1⟩:=rY hI s.length 3 hX (pre:=uN p++[.fu [],.fu []]) (post:=qm) rfl rfl
 have gy:(s++[Bo p]).set s.length { Bo p with aV:=[(uN p++[.fu [],.fu []])++V.so (s++[Bo p]).length 0 0 0::qm] }=s++[Cu p s.length]:=by
  rw[List.set_append_right _ _ (W4 _),X3,W5]
  simp [Bo,Cu]
 rw[gy]at e1 i1
 have U7:(s++[Cu p s.length]++[(⟨0,true,3,[]⟩:VL.Obj)])[s.length]?=some (Cu p s.length):=by simp
 obtain⟨σ2,e2,i2⟩:=rY i1 s.length 1 U7 (pre:=uN p++[.fu []]) (post:=.so (s.length+1) 0 0 0::qm) rfl rfl
 have BW:(s++[Cu p s.length]++[(⟨0,true,3,[]⟩:VL.Obj)]).set s.length { Cu p s.length with aV:=[(uN p++[.fu []])++V.so (s++[Cu p s.length]++[(⟨0,true,3,[]⟩:VL.Obj)]).length 0 0 0::(.so (s.length+1) 0 0 0::qm)] }++[⟨0,true,1,[]⟩] =
   s++[IN (s.length+1) (s.length+2) (fresh p) (.fu []),IV b a (fresh p),K8 (fresh p)]:=by
  rw[Xx,List.set_append_right _ _ (W4 _),X3]
  simp [IN,IV,K8,fresh,Cu,uN,qm]
 rw[BW]at e2 i2
 refine⟨σ2,_,_,e1.trans e2,i2,?_,hk b a⟩
 have Ta:=BH.bS (e1.trans e2)
 refine .tu iB fun i x hx=>?_
 match i with
 |0=>cases hx;exact Ta
 |1=>cases hx;exact(nI 1 _ rfl).bS (e1.trans e2)
 |i+2=>simp at hx
theorem uD {f:FuncId}{cargs args:List V}{r r':V}{m m':aC}{T T' TX Ut:V}{X Y Z b a:Nat}{s:List VL.Obj}{K:V→List VL.Obj→Prop} (h:av prog f cargs (m.az 0 b a T) fun v s=>v=r∧s=m'.az 0 b a T')
  (hT:ao 3 T=true) (VC:bF [X,Y,Z] T=TX) (S8:bF [X,Y,Z] T'=Ut) (hnd:[X,Y,Z].Nodup) (hX:s[X]?=some (IN Y Z m TX)) (hY:s[Y]?=some (IV b a m)) (hZ:s[Z]?=some (K8 m)) (ha:args=cargs.map (bF [X,Y,Z])) (td:ao.go 3 cargs=true) (hr:bF [X,Y,Z] r=r')
  (hk:K r' (((s.set X (IN Y Z m' Ut)).set Y (IV b a m')).set Z (K8 m'))):av prog f args s K:=by
 refine jt [X,Y,Z] h hnd (by rfl) ?_ ha td (fg 0 b a m T 3 (W4 _) hT) hr ?_
 ·have e:(m.az 0 b a T).map (fun o=>some (bX [X,Y,Z] o))=((m.az 0 b a T).map (bX [X,Y,Z])).map some:=by rw[XS];rfl
  rw[e,Ae,VC]
  simp only[WU,WV,hX,hY,hZ]
 ·rw[Ae,S8]
  exact hk
def Qo:Re:=.mk 1 [(97,97)] [] 0 0 0 0 false
def TN:Re:=.mk 1 [(98,98)] [] 0 0 0 0 false
def pL:fj:=⟨.mk 3 [] [Qo,.mk 2 [] [Qo,TN] 0 0 0 0 false] 0 0 0 0 false,0,false⟩
def xg:Option Rs:=bh 30 true ((fresh pL).vJ [97,98] 0 9) 0 (kq (fresh pL) 0) true
def JI (o:Option Rs):aC:=match o with|some x=>x.1|none=>fresh pL
def Ol (o:Option Rs):aA:=match o with|some x=>x.2.1|none=>.zero
def KS (o:Option Rs):Bool:=match o with|some x=>x.2.2|none=>false
theorem A3 {o:Option Rs} (h:o.isSome=true):o=some (JI o,Ol o,KS o):=by
 cases o with
 |none=>cases h
 |some x=>rfl
def NA:aC:=((JI xg).done (KS xg)).kept
def sC:Option Rs:=bh 30 true NA 0 .zero false
def N6:aC:=(JI sC).done (KS sC)
def nY:Option Rs:=bh 30 true N6 0 .zero false
def Lx:aC:=(JI nY).done (KS nY)
theorem G8:xg.isSome=true:=by rfl
theorem Fc:sC.isSome=true:=by rfl
theorem B8:nY.isSome=true:=by rfl
theorem KO:(JI xg).res (Ol xg) (KS xg)=[i64 0,i64 1,.d (bH []),bV true,i64 2,i64 0]:=by rfl
theorem HF:(JI sC).res (Ol sC) (KS sC)=[i64 0,i64 2,.d (bH []),bV true,i64 5,i64 0]:=by rfl
theorem ED:(JI nY).res (Ol nY) (KS nY)=[i64 0,i64 0,.d (.sl []),bV false,i64 5,i64 0]:=by rfl
theorem MH:Lx.cr=1:=by rfl
theorem H3:NA.ready=true:=by rfl
theorem Is:N6.ready=true:=by rfl
theorem QI:((JI xg).done (KS xg)).jg=NA.text:=by rfl
theorem JH:gM pL.bk [97,98] 0 9=0:=by rfl
theorem J6:df pL=0:=by decide
end Go.Proofs.YtmihcpdhcillaaaGreat
