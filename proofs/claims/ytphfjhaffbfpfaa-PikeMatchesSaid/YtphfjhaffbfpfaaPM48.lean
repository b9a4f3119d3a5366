/- A part of the proof (G50 G51 G52 G53). -/
import Derived.Test.YtphfjhaffbfpfaaPM3
import Derived.Test.YtphfjhaffbfpfaaPM16
import Derived.Test.YtphfjhaffbfpfaaPM38
import Derived.Test.YtphfjhaffbfpfaaPM46
import Derived.Test.YtphfjhaffbfpfaaPM47
set_option linter.all false
set_option maxRecDepth 100000
set_option maxHeartbeats 80000000
namespace Go.Proofs.Ytphfjhaffbfpfaa
open Go.VL Go.Proofs.Try
variable{top:Int}{ah:Int}{t:List Int}{fuel:Int}{m:aA}{at_:Int}{p:iF}{s:List VL.Obj}
theorem Oo {re:Re} (h:b9 re ah top=true) (hk:re.kids.length<=1000000000):vB ah re=true:=by
 have hsh:=of_decide_eq_true (xk h hk);obtain⟨s1,s2,s3,s4⟩:=hsh;obtain⟨h1,h2,h3,h4,h5⟩:=eT.1 h;refine adu ⟨λho=>?_,s2,s3,s4,λho=>?_,λho=>?_,λho=>?_⟩
 ·rcases ho with ho|ho
  ·intro hn;have:=h1.2.2.1;rw[hn,ho]at this;simp [cR]at this
  ·exact s1 ho
 ·rw[ap ho]at h4;exact h4
 ·rw[am (by omega),ap ho]at h4;exact h4
 ·rw[ap ho]at h3;exact h3.2.2.1
theorem NN (re:Re) (h:re.whole ah top=true) (hs:re.size<=1000000):re.every (vB ah)=true:=by revert h hs;refine Re.ind (Q:=λre=>re.whole ah top=true->re.size<=1000000->re.every (vB ah)=true) (λre ih h hs=>?_) re;obtain⟨a1,a2⟩:=(Re.aQ re).1 h;have:=Re.ot re.kids;have:=Re.size_eq re;exact(Re.aQ re).2 ⟨Oo a1 (by omega),λk hk=>ih k hk (a2 k hk) (by have:=Re.dr hk;omega)⟩
theorem QV{ai:Int} (hv:dW p t fuel=0) (a0:0<=at_) (a1:at_<=t.length) (hm:0<=ai->0<ai) (hp:m.p=p) :
  ic p.re t fuel p.ah.toNat 0 [] ai at_ (m.Au t at_ fuel) (mH m at_) true ⟨0,false,[],[]⟩ (cO p t at_ ai fuel).1 (cO p t at_ ai fuel).2:=by
 obtain⟨h1,h2,h3,h4,h5⟩:=im hv;obtain⟨k1,k2,k3,k4,k5⟩:=eL h1;obtain⟨n,e1,_⟩:=gE (ai:=ai) hv a0 a1;have cZ:(lD p).length=p.ah.toNat:=by unfold lD;rw[List.length_replicate]
 have tW:mH m at_=⟨at_,lD p,.mk 0 .root 0 0 .nil⟩:=by unfold mH lD;rw[hp]
 rw[tW];refine Kk ⟨by omega,by omega,by omega⟩ n ai _ _ _ _ e1 0 [] (m.Au t at_ fuel) ⟨at_,lD p,.mk 0 .root 0 0 .nil⟩ ⟨by show m.p.re=p.re;rw[hp],rfl,rfl,(λh=>by cases h),⟨rfl,rfl,by show 0<=_;omega⟩,rfl,rfl,ady _⟩
  ⟨rfl,ady _,h4,λh=>by have:=hm h;simpa using this⟩ (adB _) ⟨rfl,rfl,.tree rfl .nil⟩ ?_ a0 a1 ⟨by show (lD p).length<=_;omega,λq hq=>.inl (List.eq_of_mem_replicate hq)⟩ cZ
 refine⟨λ_=>?_,λh=>by omega,λh=>by omega,λh=>by omega,λh=>by omega,trivial⟩;have:((p.ah.toNat:Nat):Int)=p.ah:=by omega
 rw[this];exact NN _ k5 (by omega)
theorem Tp {P:Re}{F:Int}{nc:Nat}{i:Int}{q:aw}{al:Bool}{s:Int}{b:Bool}{x:bd} (h:ic P t F nc 0 [] 1 i m q al ⟨s,false,[],[]⟩ b x) :
  ∃m1 r found,Ev m 0 q al (m1,r,found)/\Po m m1/\m1.top<=m1.gj.length/\s<=x.steps/\r.ah.length<=nc /\
   ((x.empty=false/\m1.bU=false/\m1.steps=x.steps/\x.steps<=F/\((found=true/\∃e d,x.ends=[e]/\x.ah=[d]/\r=⟨e,d,.nil⟩)\/(found=false/\x.ends=[]/\x.ah=[]))) \/
    (x.empty=true/\m1.bU=true/\found=false)):=by
 obtain⟨R,m',h1,h2,h3,h4,h5,h6⟩:=h;simp only[adt]at h1 h2;rcases h6 with ⟨k1,k2,k3,k4,kF,p',k5⟩|⟨k1,k2,k3,k4,kF,S',R0,e,d,k5,k6,k7⟩|⟨k1,k2,k3,k4,p',S',k5,k6⟩
 ·have hx:x.ends=[]:=adJ (by have:=k3 (by omega);omega);have hR:R=[]:=by rw[h1]at hx;exact List.map_eq_nil_iff.1 hx
  subst hR;exact⟨m',.zero,false,sV k5 rfl (yw k4.gj.2.1),h4,k4.gj.len,h5,Nat.zero_le _,.inl ⟨k2,k4.bU,k4.steps,kF,.inr ⟨rfl,by simpa using h1,by simpa using h2⟩⟩⟩
 ·have Y0:R0=[]:=by have:=congrArg List.length h1;rw[k6]at this;simp at this;exact adJ (by omega)
  subst Y0;simp only[adt]at k6;subst k6;have he:Ev m 0 q al (m',⟨e,d,.nil⟩,true):=by refine sV k7 rfl ?_;have:=FK (m:=m') (base:=0) (p:=⟨e,d,.nil⟩) rfl;rwa [k5.bU]at this
  have hr:=h3 (e,d) (by simp);exact⟨m',_,true,he,h4,k5.gj.len,h5,by show d.length<=nc;rw[hr.2.2.2];exact adB _,.inl ⟨k2,k5.bU,k5.steps,kF,.inl ⟨rfl,e,d,by simpa using h1,by simpa using h2,rfl⟩⟩⟩
 ·have hx:x.ends=[]:=adJ (by have:=k3 (by omega);omega);have hR:R=[]:=by rw[h1]at hx;exact List.map_eq_nil_iff.1 hx
  subst hR;have oh:∃m2,Ev m' 0 p' false (m2,.zero,false)/\m2.top<=m2.gj.length/\m2.bU=true/\Po m' m2:=by
   simp only[adt]at k5;rcases List.eq_nil_or_concat S' with rfl|⟨S2,q2,rfl⟩
   ·exact⟨m',yw k5.2.1,k5.len,k4,.refl _⟩
   ·have Py:wB m' (S2++[q2]):=by simpa [List.concat_eq_append]using k5
    refine⟨m'.pop,?_,Py.last.2.len,k4,IN m'⟩;have hl:=Py.len;have ht:m'.top=S2.length+1:=by rw[Py.2.1,adx];rfl
    refine⟨2,?_⟩;rw[bn.eq_2,am (show ¬(false=true/\m'.bU=true) from λh=>by cases h.1),am (λh=>by cases h.1),am (λh=>by cases h),am (by omega),am (by have:=Py.2.2;omega),Py.last.1];simp only;rw[bn.eq_2,ap ⟨rfl,k4⟩]
  obtain⟨m2,j1,j2,j3,j4⟩:=oh;exact⟨m2,.zero,false,sV k6 rfl j1,h4.trans j4,j2,h5,Nat.zero_le _,.inr ⟨k2,j3,rfl⟩⟩
noncomputable def Er (p:iF) (t:List Int) (at_ fuel:Int):List V :=
 if fv p t at_ 1 fuel≠0 then [i64 0,i64 0,.d (.sl []),bV false,i64 0,i64 (fv p t at_ 1 fuel)]
 else match allM p t at_ 1 fuel with
  |[]=>[i64 0,i64 0,.d (.sl []),bV false,i64 (jy p t at_ 1 fuel),i64 0]
  |(e,d)::_=>[i64 at_,i64 e,.d (bQ d),bV true,i64 (jy p t at_ 1 fuel),i64 0]
theorem QN (hv:dW p t fuel=0) (a0:0<=at_) (a1:at_<=t.length) (hp:m.p=p) :
  ∃k m2 r found,bn k true (m.Au t at_ fuel) 0 (mH m at_) true=some (m2,r,found)/\Po (m.Au t at_ fuel) m2/\m2.top<=m2.gj.length/\r.ah.length<=1000000000/\m2.res r found=Er p t at_ fuel/\(m2.done found).ready=(decide (fv p t at_ 1 fuel=0)&&!(allM p t at_ 1 fuel).isEmpty):=by
 obtain⟨h1,h2,h3,h4,h5⟩:=im hv;obtain⟨k1,k2,k3,k4,k5⟩:=eL h1;have FH:=QV (ai:=1) hv a0 a1 (λ_=>by omega) hp;obtain⟨m1,r,found,j1,j2,j3,_,j4,j5⟩:=Tp FH;obtain⟨k,hk⟩:=Ot (m:=m.Au t at_ fuel) rfl j1;have hE:fv p t at_ 1 fuel=if (cO p t at_ 1 fuel).2.empty=true then 11 else 0:=by unfold fv;rw[am (by rw[hv];simp),am (by omega)]
 have aU:m1.start=at_:=j2.fr.start;refine⟨k,m1,r,found,hk,j2,j3,by omega,?_,?_⟩
 ·unfold Er aA.res;rcases j5 with ⟨l1,l2,l3,lF,l4⟩|⟨l1,l2,rfl⟩
  ·have Ov:fv p t at_ 1 fuel=0:=by rw[hE,am (by rw[l1];simp)]
   have hN:jy p t at_ 1 fuel=(cO p t at_ 1 fuel).2.steps:=by unfold jy;rw[ap Ov]
   have Yt:allM p t at_ 1 fuel=(cO p t at_ 1 fuel).2.ends.zip (cO p t at_ 1 fuel).2.ah:=by unfold allM;rw[ap Ov]
   rw[am (by rw[l2];simp),am (show ¬(fv p t at_ 1 fuel≠0) from by rw[Ov];simp),Yt,hN,aU,l3];rcases l4 with ⟨rfl,e,d,q1,q2,rfl⟩|⟨rfl,q1,q2⟩
   ·rw[ap rfl,q1,q2];rfl
   ·rw[am (by simp),q1,q2];rfl
  ·have U5:fv p t at_ 1 fuel=11:=by rw[hE,ap l1]
   rw[ap l2,ap (show fv p t at_ 1 fuel≠0 from by rw[U5];simp),U5]
 ·show (found&&!m1.bU)=_;rcases j5 with ⟨l1,l2,l3,lF,l4⟩|⟨l1,l2,rfl⟩
  ·have Ov:fv p t at_ 1 fuel=0:=by rw[hE,am (by rw[l1];simp)]
   have Yt:allM p t at_ 1 fuel=(cO p t at_ 1 fuel).2.ends.zip (cO p t at_ 1 fuel).2.ah:=by unfold allM;rw[ap Ov]
   rw[l2,Ov,Yt];rcases l4 with ⟨rfl,e,d,q1,q2,rfl⟩|⟨rfl,q1,q2⟩
   ·rw[q1,q2];rfl
   ·rw[q1,q2];rfl
  ·rw[l2,hE,ap l1];rfl
def MN (Y Z:Nat) (m:aA) (T:V):VL.Obj:=⟨0,true,19,[[.d (iD m.p.re.op),.d (.sl (m.p.re.set.map aN)),.d (.sl (m.p.re.kids.map Re.cells)),.d (iD m.p.re.mn),.d (iD m.p.re.mx),.d (iD m.p.re.mode),.d (iD m.p.re.n),.d (bD m.p.re.neg),i64 m.p.ah,bV m.p.aK,T,
 .so Z m.eV 0 m.own.length,.so Y m.gen 0 m.top,i64 m.cN,i64 m.start,i64 m.steps,i64 m.fuel,bV m.bU,bV m.ready]]⟩
def Od (b a:Nat) (m:aA):VL.Obj:=⟨m.gen,true,3,m.gj.map (KZ b a)⟩
def PS (m:aA):VL.Obj:=⟨m.eV,true,1,m.own.map λx=>[.d (iD x)]⟩
theorem Cs (X Y Z b a:Nat) (m:aA) (T:V):(m.ay 0 b a T).map (bp [X,Y,Z])=[MN Y Z m (aX [X,Y,Z] T),Od b a m,PS m]:=by
 unfold aA.ay MN Od PS;simp only[adG,adP,List.cons.injEq,and_true];refine⟨?_,?_,?_⟩
 ·unfold bp;simp [aX.go,aX,i64,bV]
 ·unfold bp;simp only[List.map_map];congr 1;refine aei λp _=>?_;cases p <;> rfl
 ·exact uv [X,Y,Z] m.eV true 1 m.own iD
def xf (p:iF):List V:=[.d (iD p.re.op),.d (.sl (p.re.set.map aN)),.d (.sl (p.re.kids.map Re.cells)),.d (iD p.re.mn),.d (iD p.re.mx),.d (iD p.re.mode),.d (iD p.re.n),.d (bD p.re.neg),i64 p.ah,bV p.aK]
def rV:List V:=[i64 0,i64 0,i64 0,i64 0,bV false,bV false]
def Gt (p:iF) (X:Nat):VL.Obj:=⟨0,true,19,[(xf p++[.fu []])++.fu []::(.so (X+1) 0 0 0::rV)]⟩
def fresh (p:iF):aA:=⟨p,[],false,[],0,[],0,0,0,0,0,0,false,false⟩
theorem PT (hf:p.re.eN=true) (hv:dR p=0){K:V->List VL.Obj->Prop}
  (hk:∀b a:Nat,K (.tu [.pp s.length 0 0 0 b a,i64 0]) (s++[MN (s.length+1) (s.length+2) (fresh p) (.fu []),Od b a (fresh p),PS (fresh p)])):au prog 6 [dF p] s K:=by
 have h1:au prog 6 [dF p] s λv s1=>v=.tu [.rf s.length 0 0 0,i64 0]/\s1=s++[Du p]:=by
  refine mS (Ry p hf hv) [] rfl (by simp) (λk o h=>by simp at h) (by cases p;simp [dF,aX,aX.go,Re.ae,i64,bV,iD,bD]) (by cases p;simp [dF,ak,ak.go,Re.ae,i64,bV]) rfl ?_;rintro v s' ⟨rfl,rfl⟩ _;refine⟨?_,?_⟩
  ·simp [qv,aX,aX.go,i64]
  ·simp [aZ,Du,bp,aX,aX.go,i64,bV,iD,bD]
 refine Ga h1 ?_;rintro v s1 ⟨rfl,rfl⟩ σ w u hI hu;have hX:(s++[Du p])[s.length]?=some (Du p):=by simp
 -- JL address
 cases hu with|@tu _ arr gf nn=>?_
 obtain⟨b,a,HE⟩:=aG.V1 hX rfl (nn 0 _ rfl)
 -- JL two Yp
 obtain⟨σ1,e1,i1⟩:=tT hI s.length 3 hX (pre:=xf p++[.fu [],.fu []]) (post:=rV) rfl rfl;have eC:(s++[Du p]).set s.length { Du p with aI:=[(xf p++[.fu [],.fu []])++V.so (s++[Du p]).length 0 0 0::rV] }=s++[Gt p s.length]:=by rw[List.set_append_right _ _ (adB _),Nat.sub_self,adx];simp [Du,Gt]
 rw[eC]at e1 i1;have Uo:(s++[Gt p s.length]++[(⟨0,true,3,[]⟩:VL.Obj)])[s.length]?=some (Gt p s.length):=by simp
 obtain⟨σ2,e2,i2⟩:=tT i1 s.length 1 Uo (pre:=xf p++[.fu []]) (post:=.so (s.length+1) 0 0 0::rV) rfl rfl;have lP:(s++[Gt p s.length]++[(⟨0,true,3,[]⟩:VL.Obj)]).set s.length { Gt p s.length with aI:=[(xf p++[.fu []])++V.so (s++[Gt p s.length]++[(⟨0,true,3,[]⟩:VL.Obj)]).length 0 0 0::(.so (s.length+1) 0 0 0::rV)] }++[⟨0,true,1,[]⟩] =
   s++[MN (s.length+1) (s.length+2) (fresh p) (.fu []),Od b a (fresh p),PS (fresh p)]:=by
  rw[adX,List.set_append_right _ _ (adB _),Nat.sub_self];simp [MN,Od,PS,fresh,Gt,xf,rV]
 rw[lP]at e2 i2;refine⟨σ2,_,_,e1.trans e2,i2,?_,hk b a⟩;have Zt:=HE.bF (e1.trans e2);refine .tu gf λi x hx=>?_
 match i with
 |0=>cases hx;exact Zt
 |1=>cases hx;exact(nn 1 _ rfl).bF (e1.trans e2)
 |i+2=>simp at hx
theorem NG {f:FuncId}{cargs args:List V}{r r':V}{m':aA}{T T' TX TX':V}{X Y Z b a:Nat}{K:V->List VL.Obj->Prop} (h:au prog f cargs (m.ay 0 b a T) λv s=>v=r/\s=m'.ay 0 b a T')
  (hT:ak 3 T=true) (hTX:aX [X,Y,Z] T=TX) (YG:aX [X,Y,Z] T'=TX') (hnd:[X,Y,Z].Nodup) (hX:s[X]?=some (MN Y Z m TX)) (hY:s[Y]?=some (Od b a m)) (hZ:s[Z]?=some (PS m)) (ha:args=cargs.map (aX [X,Y,Z])) (x8:ak.go 3 cargs=true) (hr:aX [X,Y,Z] r=r')
  (hk:K r' (((s.set X (MN Y Z m' TX')).set Y (Od b a m')).set Z (PS m'))):au prog f args s K:=by
 refine gx [X,Y,Z] h hnd (by rfl) ?_ ha x8 (fp 0 b a m T 3 (adB _) hT) hr ?_
 ·have e:(m.ay 0 b a T).map (λo=>some (bp [X,Y,Z] o))=((m.ay 0 b a T).map (bp [X,Y,Z])).map some:=by rw[List.map_map];rfl
  rw[e,Cs,hTX];simp only[adG,adP,hX,hY,hZ]
 ·rw[Cs,YG];exact hk
end Go.Proofs.Ytphfjhaffbfpfaa
namespace Go.Proofs.Ytphfjhaffbfpfaa
open Go.VL Go.Proofs.Try
theorem Nk {m:aA} (h:m.top<=m.gj.length):m.kept.top<=m.kept.gj.length:=by unfold aA.kept;split <;> exact h
end Go.Proofs.Ytphfjhaffbfpfaa
