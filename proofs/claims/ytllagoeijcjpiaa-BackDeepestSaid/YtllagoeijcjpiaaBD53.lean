/- A part of the proof (H18 H19). -/
import Derived.Test.YtllagoeijcjpiaaBD48
import Derived.Test.YtllagoeijcjpiaaBD30
import Derived.Test.YtllagoeijcjpiaaBD51
import Derived.Test.YtllagoeijcjpiaaBD52
set_option linter.unusedSimpArgs false
set_option linter.unusedVariables false
set_option maxRecDepth 100000
set_option maxHeartbeats 80000000
namespace Go.Proofs.Ytllagoeijcjpiaa
open Go.VL
theorem JA {p:ic}{t:List Int}{at_ M F w':Int} (hv:cF p t F=0) (a0:0≤at_) (a1:at_≤t.length) (hm:0≤M→1≤M) (ly:M≤1000000) (ht:t.length≤1000000) (hT:Fp p t at_ M F w') :
  ∃(st':aU) (w e:Int) (l:aq),dH 0 t F 56 (Goal.mk 0 p.re 0 0 .nil).d at_ (iv p) (if M<0 then 1152921504606846976 else M) ⟨0,false,[],[]⟩ 0 0 st' w' w e l:=by
 obtain⟨h1,h2,h3,h4,h5⟩:=dA hv
 obtain⟨k1,k2,k3,k4,k5⟩:=eF h1
 have cI:(iv p).length=p.ai.toNat:=by unfold iv;rw[V7]
 have hw:fI M ⟨0,false,[],[]⟩=if M<0 then 1152921504606846976 else M:=by unfold fI;simp
 obtain⟨w,e,l,hp,hc⟩:=PQ (g0:=0) (nc:=p.ai.toNat) ht (by omega) (by omega) hT ⟨rfl,Vr _,h4,by rw[hw];split <;> omega,by omega,a0,a1,⟨by omega,fun q hq=>.inl (Wm hq)⟩,cI,Vr _,Vr _⟩ (by
  refine⟨fun _=>?_,fun h=>by omega,fun h=>by omega,fun h=>by omega,fun h=>by omega,trivial⟩
  have:((p.ai.toNat:Nat):Int)=p.ai:=by omega
  rw[this]
  exact yc _ k5 (by omega))
 rw[hw]at hc
 exact⟨_,w,e,l,hc⟩
theorem xZ {p:ic}{t:List Int}{at_ k F w':Int} (hf:p.re.gi=true) (hv:cF p t F=0) (a0:0≤at_) (a1:at_≤t.length) (dL:0≤k) (eO:k≤1000000) (ht:t.length≤1000000) (hT:Fp p t at_ (if k=0 then -1 else k) F w') :
  bI Try.prog 25 [eb p,.d (ay t),i64 at_,i64 k,i64 F] (i64 w'):=by
 obtain⟨h1,h2,h3,h4,h5⟩:=dA hv
 obtain⟨k1,k2,k3,k4,k5⟩:=eF h1
 obtain⟨st',w,e,l,hc⟩:=JA hv a0 a1 (by split <;> omega) (by split <;> omega) ht hT
 have hn:(if (if k=0 then -1 else k)<0 then 1152921504606846976 else (if k=0 then -1 else k))=if k=0 then (1152921504606846976:Int) else k:=by
  by_cases h:k=0
  ·rw[if_pos h,if_pos h,if_pos (by omega)]
  ·rw[if_neg h,if_neg h,if_neg (by omega)]
 rw[hn]at hc
 have yB:=u4 p hf (by omega)
 rw[h1]at yB
 obtain⟨N,hN⟩:∃N:Nat,p.ai=N:=⟨p.ai.toNat,by omega⟩
 have gD:iv p=List.replicate N (-1,-1):=by unfold iv;rw[hN];rfl
 rw[gD]at hc
 have b1:¬at_<0:=by omega
 have b2:¬(t.length:Int)<at_:=by omega
 have mZ:Goal.nil.d=.sc (.pointer none):=rfl
 unfold dH cW fm at hc
 simp only[Goal.aN,mZ,eb,Re.ae p.re,VP,VO,Vz,Vx,i64,iD,bD,bV,ay]at yB hc ⊢
 by_cases hk:k=0
 ·rw[if_pos hk]at hc
  refine av Try.func25 rfl Try.ntmps25 Try.results25 rfl 0 15423 (by simp) (by simp) ?_
  simp only[zX,simprocAttr,i64,bV,iD,bD,Vv]
  refine aE yB rfl rfl ?_
  simp only[zX,simprocAttr,i64,bV,iD,bD,Vv,ne_eq,not_true_eq_false,decide_false,b1,b2,gt_iff_lt,hk]
  refine aY (fun m E S=>∃(j g:Nat),m=N-j∧j≤N∧E 2=i64 at_∧E 3=i64 (if k=0 then 1152921504606846976 else k)∧E 5=.rf 0 0 0 0∧E 11=.rf 1 0 0 0∧E 12=.so 2 g 0 j∧E 13=i64 j ∧
    S=[⟨0,true,10,[[.d (.sc (.int .i64 p.re.op)),.d (.sl (p.re.set.map aM)),.d (.sl (p.re.kids.map Re.cells)),.d (.sc (.int .i64 p.re.mn)),.d (.sc (.int .i64 p.re.mx)),.d (.sc (.int .i64 p.re.mode)),.d (.sc (.int .i64 p.re.n)),.d (.sc (.bool p.re.neg)),.d (.sc (.int .i64 p.ai)),.d (.sc (.bool p.bG))]]⟩,cW 0 t F ⟨0,false,[],[]⟩ 0 0,⟨g,true,2,List.replicate j [i64 (-1),i64 (-1)]⟩])
   ⟨_,_,_,.Sr (va 12 2 rfl),0,0,rfl,by omega,rfl,by rw[if_pos hk];rfl,rfl,rfl,rfl,rfl,rfl⟩ ?_
  rintro m E S ⟨j,g,rfl,hj,Ml,L1,Nl,cq,bW,kf,rfl⟩
  rw[if_pos hk]at L1
  unfold cW
  rcases VX j N with aT|iR
  ·have cn:(j:Int)<p.ai:=by omega
   simp only[zX,simprocAttr,i64,bV,iD,bD,ay,Ml,L1,Nl,cq,bW,kf,cn,V7]
   refine⟨fun e he=>by rw[List.mem_singleton.1 he];rfl,⟨by omega,by omega⟩,N-(j+1),_,_,by omega,dt.refl,j+1,g+1,rfl,aT,?_,?_,?_,?_,?_,?_,?_⟩ <;> (try simp only[zU,Nat.reduceBEq,Nat.reduceShiftRight,Nat.reduceMod,Nat.reduceEqDiff,reduceIte])
   ·exact Ml
   ·rw[if_pos hk];exact L1
   ·exact Nl
   ·exact cq
   ·rw[bR _ (by omega)];rfl
   ·rw[VZ (by simp),List.replicate_succ']
  ·have cn:¬(j:Int)<p.ai:=by omega
   have Sa:j=N:=by omega
   subst Sa
   simp only[zX,simprocAttr,i64,bV,iD,bD,ay,Ml,L1,Nl,cq,bW,kf,cn,Re.ae p.re]
   refine aP [2,3] (cargs:=[.rf 1 0 0 0,.d (.el [D.sc (.int .i64 0),D.sc (.int .i64 p.re.op),.sl (p.re.set.map aM),.sl (p.re.kids.map Re.cells),D.sc (.int .i64 p.re.mn),D.sc (.int .i64 p.re.mx),D.sc (.int .i64 p.re.mode),D.sc (.int .i64 p.re.n),D.sc (.bool p.re.neg),D.sc (.int .i64 0),D.sc (.int .i64 0),D.sc (.pointer none)]),.d (.sc (.int .i64 at_)),.d (bd (List.replicate j (-1,-1))),.d (.sc (.int .i64 1152921504606846976))]) ?_ (tl 1 hc rfl rfl rfl rfl rfl ?_)
   ·simp only[aZ.go]
    rw[wX (live:=false) (sz:=2) (aL:=List.replicate j [V.d (D.sc (.int .i64 (-1))),V.d (D.sc (.int .i64 (-1)))]) (ds:=(List.replicate j (-1,-1)).map aM) rfl (by rw[Wx,VZ (by simp)];simp [aM,iD]) (by simp) (.inr rfl)]
    simp [bk,bA,aZ,bQ,bd]
   simp only[zX,simprocAttr,i64,bV,iD,bD,bk,bA,VQ,List.getElem?_cons_succ,V9,V5,cq,ct,bu.go,bu,VP,VO]
 ·rw[if_neg hk]at hc
  refine av Try.func25 rfl Try.ntmps25 Try.results25 rfl 0 15423 (by simp) (by simp) ?_
  simp only[zX,simprocAttr,i64,bV,iD,bD,Vv]
  refine aE yB rfl rfl ?_
  simp only[zX,simprocAttr,i64,bV,iD,bD,Vv,ne_eq,not_true_eq_false,decide_false,b1,b2,gt_iff_lt,decide_eq_false hk]
  refine aY (fun m E S=>∃(j g:Nat),m=N-j∧j≤N∧E 2=i64 at_∧E 3=i64 (if k=0 then 1152921504606846976 else k)∧E 5=.rf 0 0 0 0∧E 11=.rf 1 0 0 0∧E 12=.so 2 g 0 j∧E 13=i64 j ∧
    S=[⟨0,true,10,[[.d (.sc (.int .i64 p.re.op)),.d (.sl (p.re.set.map aM)),.d (.sl (p.re.kids.map Re.cells)),.d (.sc (.int .i64 p.re.mn)),.d (.sc (.int .i64 p.re.mx)),.d (.sc (.int .i64 p.re.mode)),.d (.sc (.int .i64 p.re.n)),.d (.sc (.bool p.re.neg)),.d (.sc (.int .i64 p.ai)),.d (.sc (.bool p.bG))]]⟩,cW 0 t F ⟨0,false,[],[]⟩ 0 0,⟨g,true,2,List.replicate j [i64 (-1),i64 (-1)]⟩])
   ⟨_,_,_,.Sr (va 12 2 rfl),0,0,rfl,by omega,rfl,by rw[if_neg hk];rfl,rfl,rfl,rfl,rfl,rfl⟩ ?_
  rintro m E S ⟨j,g,rfl,hj,Ml,L1,Nl,cq,bW,kf,rfl⟩
  rw[if_neg hk]at L1
  unfold cW
  rcases VX j N with aT|iR
  ·have cn:(j:Int)<p.ai:=by omega
   simp only[zX,simprocAttr,i64,bV,iD,bD,ay,Ml,L1,Nl,cq,bW,kf,cn,V7]
   refine⟨fun e he=>by rw[List.mem_singleton.1 he];rfl,⟨by omega,by omega⟩,N-(j+1),_,_,by omega,dt.refl,j+1,g+1,rfl,aT,?_,?_,?_,?_,?_,?_,?_⟩ <;> (try simp only[zU,Nat.reduceBEq,Nat.reduceShiftRight,Nat.reduceMod,Nat.reduceEqDiff,reduceIte])
   ·exact Ml
   ·rw[if_neg hk];exact L1
   ·exact Nl
   ·exact cq
   ·rw[bR _ (by omega)];rfl
   ·rw[VZ (by simp),List.replicate_succ']
  ·have cn:¬(j:Int)<p.ai:=by omega
   have Sa:j=N:=by omega
   subst Sa
   simp only[zX,simprocAttr,i64,bV,iD,bD,ay,Ml,L1,Nl,cq,bW,kf,cn,Re.ae p.re]
   refine aP [2,3] (cargs:=[.rf 1 0 0 0,.d (.el [D.sc (.int .i64 0),D.sc (.int .i64 p.re.op),.sl (p.re.set.map aM),.sl (p.re.kids.map Re.cells),D.sc (.int .i64 p.re.mn),D.sc (.int .i64 p.re.mx),D.sc (.int .i64 p.re.mode),D.sc (.int .i64 p.re.n),D.sc (.bool p.re.neg),D.sc (.int .i64 0),D.sc (.int .i64 0),D.sc (.pointer none)]),.d (.sc (.int .i64 at_)),.d (bd (List.replicate j (-1,-1))),.d (.sc (.int .i64 k))]) ?_ (tl 1 hc rfl rfl rfl rfl rfl ?_)
   ·simp only[aZ.go]
    rw[wX (live:=false) (sz:=2) (aL:=List.replicate j [V.d (D.sc (.int .i64 (-1))),V.d (D.sc (.int .i64 (-1)))]) (ds:=(List.replicate j (-1,-1)).map aM) rfl (by rw[Wx,VZ (by simp)];simp [aM,iD]) (by simp) (.inr rfl)]
    simp [bk,bA,aZ,bQ,bd]
   simp only[zX,simprocAttr,i64,bV,iD,bD,bk,bA,VQ,List.getElem?_cons_succ,V9,V5,cq,ct,bu.go,bu,VP,VO]
def zC (L:List (Int×aq×aB)) (mE:aB) (k:Nat):Int:=match L[k]? with
 |some r=>r.2.2.aC
 |none=>mE.aC
structure K9 (p:ic) (L:List (Int×aq×aB)) (mE:aB) (k:Nat) (m:aB) (T:V):Prop where
 refs:ar 3 T=true
 MD:bu [0,1,2] T=T
 MI:PU p m
 deep:m.aC=zC L mE k
 at_:∀r,L[k]?=some r→AtR r.2.2 m T
theorem FL (m:aB):∃n err:Int,tX (m.res .zero false)=.tu [.ag [i64 0,i64 0,.d (bd [])],bV false,i64 n,i64 err]:=by
 unfold aB.res
 by_cases h:m.aW=true
 ·rw[if_pos h];exact⟨_,_,rfl⟩
 ·rw[if_neg h,if_neg (by simp)];exact⟨_,_,rfl⟩
section steps
variable {p:ic}{t:List Int}{i F:Int} (hv:cF p t F=0) (a0:0≤i) (a1:i≤t.length) {L:List (Int×aq×aB)}{mE:aB} (hL:∀r∈L,r.2.2.aW=false∧r.2.1.length=p.ai.toNat) (hO:nZ ((fresh p).iG t i F) (df (fresh p) i) true L mE) (HE:mE.top≤mE.dY.length) (IG:Po ((fresh p).iG t i F) mE)
include hv a0 a1 hL hO HE IG
theorem Sp:∃(m':aB) (T':V) (e1 e2:Int) (e3:aq) (n err:Int),K9 p L mE 0 m' T'∧(L[0]?.isSome=true→err=0)∧∀b a:Nat,az Try.prog 24 [.pp 0 0 0 0 b a,.d (ay t),i64 i,i64 F] ((fresh p).aA 0 b a (.fu [])) fun v s=>v=.tu [.ag [i64 e1,i64 e2,.d (bd e3)],bV L[0]?.isSome,i64 n,i64 err]∧s=m'.aA 0 b a T':=by
 obtain⟨c1,c2⟩:=Jk hv a0 a1 (m0:=fresh p) (T0:=.fu []) ⟨rfl,VA _⟩ rfl rfl hL hO
 cases h0:L[0]? with
 |some r =>
  obtain⟨m',T',Jm,hc⟩:=c1 r h0
  obtain⟨_,_,_,n4,n5⟩:=CQ hv a0 a1 (m:=fresh p) rfl hO h0
  obtain⟨s1,s2,s3,s4⟩:=LW Jm
  refine⟨m',T',i,r.1,r.2.1,r.2.2.steps,0,⟨(Qk Jm).1,(Qk Jm).2,⟨by rw[s1,n5.fr.p];rfl,by rw[s3,s4];exact n4⟩,?_,fun r' hr=>?_⟩,fun _=>rfl,hc⟩
  ·unfold zC;rw[h0];exact s2
  ·rw[h0]at hr;cases hr;exact Jm
 |none =>
  obtain⟨m',T',hr,hT,Cq,s1,s2,s3,s4,hc⟩:=c2 h0
  obtain⟨n,err,he⟩:=FL mE
  rw[he]at hc
  refine⟨m',T',0,0,[],n,err,⟨hT,Cq,⟨by rw[s1,IG.fr.p];rfl,by rw[s3,s4];exact HE⟩,?_,fun r' hr=>?_⟩,fun h=>(by cases h),hc⟩
  ·unfold zC;rw[h0];exact s2
  ·rw[h0]at hr;cases hr
theorem Pf {k:Nat}{q:Int×aq×aB} (hk:L[k]?=some q) {m:aB}{T:V} (hn:K9 p L mE k m T):∃(m':aB) (T':V) (e1 e2:Int) (e3:aq) (n err:Int),K9 p L mE (k+1) m' T'∧(L[k+1]?.isSome=true→err=0)∧∀b a:Nat,az Try.prog 26 [.pp 0 0 0 0 b a] (m.aA 0 b a T) fun v s=>v=.tu [.ag [i64 e1,i64 e2,.d (bd e3)],bV L[k+1]?.isSome,i64 n,i64 err]∧s=m'.aA 0 b a T':=by
 cases h0:L[k+1]? with
 |some r =>
  have hr:=hL r (Vy h0)
  obtain⟨_,_,_,n4,n5⟩:=CQ hv a0 a1 (m:=fresh p) rfl hO h0
  obtain⟨m',T',c,t1,t2,s1,s2,s3,s4,x1,_⟩:=FV (hn.at_ q hk) ((zo hO hk).1 r h0) (by show r.2.1.length≤1000000000;have:=(eF (dA hv).1).2.2.2.1;omega)
  have e:tX (r.2.2.res ⟨r.1,r.2.1,.nil⟩ true)=.tu [.ag [i64 r.2.2.start,i64 r.1,.d (bd r.2.1)],bV true,i64 r.2.2.steps,i64 0]:=by
   unfold aB.res
   rw[if_neg (by rw[hr.1];simp),if_pos rfl];rfl
  rw[e]at c
  refine⟨m',T',_,r.1,r.2.1,r.2.2.steps,0,⟨t1,t2,⟨by rw[s1,n5.fr.p];rfl,by rw[s3,s4];exact n4⟩,?_,fun r' Lf=>?_⟩,fun _=>rfl,c⟩
  ·unfold zC;rw[h0];exact s2
  ·rw[h0]at Lf;cases Lf;exact x1 rfl hr.1
 |none =>
  obtain⟨m',T',c,t1,t2,s1,s2,s3,s4,_,x2⟩:=FV (hn.at_ q hk) ((zo hO hk).2 h0) (Nat.zero_le _)
  obtain⟨n,err,he⟩:=FL mE
  rw[he]at c
  refine⟨m',T',0,0,[],n,err,⟨t1,t2,⟨by rw[s1,IG.fr.p];rfl,by rw[s3,s4];exact HE⟩,?_,fun r' hr=>?_⟩,fun h=>(by cases h),c⟩
  ·unfold zC;rw[h0];exact s2
  ·rw[h0]at hr;cases hr
omit hL HE IG in
theorem Jw (hf:p.re.gi=true) (ht:t.length≤1000000) (k:Nat) (hk:k≤100):bI Try.prog 25 [eb p,.d (ay t),i64 i,i64 ((k+1:Nat):Int),i64 F] (i64 (zC L mE k)):=by
 obtain⟨d,hd⟩:=KY (ah:=(k:Int)+1) hv a0 a1
 have h1:=IW hv a0 a1 (m:=fresh p) rfl rfl hO hd
 have h2:zC L mE k=d:=by
  unfold zC
  cases h0:L[k]? with
  |some r=>rw[h0]at h1;exact h1
  |none=>rw[h0]at h1;exact h1
 rw[h2]
 exact xZ hf hv a0 a1 (by omega) (by omega) ht (by rw[if_neg (by omega)];exact hd)
omit hL HE IG in
theorem KD (hf:p.re.gi=true) (ht:t.length≤1000000):bI Try.prog 25 [eb p,.d (ay t),i64 i,i64 0,i64 F] (i64 mE.aC):=by
 obtain⟨d,hd⟩:=KY (ah:=-1) hv a0 a1
 rw[JY hv a0 a1 (m:=fresh p) rfl rfl hO hd]
 exact xZ hf hv a0 a1 (by omega) (by omega) ht (by rw[if_pos rfl];exact hd)
end steps
end Go.Proofs.Ytllagoeijcjpiaa
