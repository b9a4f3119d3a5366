/- A part of the proof (O36 O37). -/
import Derived.Test.YtfmdmlfhigocaaaON43
import Derived.Test.YtfmdmlfhigocaaaON44
set_option linter.unusedSimpArgs false
set_option linter.unusedVariables false
open Nat renaming reduceShiftRight → cQ, reduceMod → dx, reduceLT → dB, reduceMul → dC, reduceSub → dD, reduceEqDiff → eI, reduceAdd → eJ, reduceLeDiff → fX, reduceBEq → gj
open Int renaming reduceToNat → gl, reduceNeg → ja, reduceLT → jg, reduceLE → jk, reduceEq → mA
set_option maxRecDepth 100000
set_option maxHeartbeats 80000000
namespace Go.Proofs.Ytfmdmlfhigocaaa
open Go.VL
theorem X2 (k g':Nat) (v:V) (t:List Int) (root parts:D) (bg nb:Nat):(⟨(dp t root parts bg nb).g,(dp t root parts bg nb).live,(dp t root parts bg nb).sz,(dp t root parts bg nb).aw.map λc=>c.map (nO k g' v)⟩:VL.Obj)=dp t root parts bg nb:=rfl
theorem SX (k g':Nat) (v:V) (q:Nat) (l:List Nat):(⟨(bo q l).g,(bo q l).live,(bo q l).sz,(bo q l).aw.map λc=>c.map (nO k g' v)⟩:VL.Obj)=bo q l:=by unfold bo;simp only[agy];congr 1
theorem OS {α:Type} (a b:α) {N i:Nat} (h:i<N):(List.replicate i a++List.replicate (N-i) b).set i a=List.replicate (i+1) a++List.replicate (N-(i+1)) b:=by
 rw[ahd _ _ (by simp)];obtain⟨m,hm⟩:∃m,N-i=m+1:=⟨N-i-1,by omega⟩
 rw[hm];simp only[ahe,ahi,List.replicate_succ,agd];have:N-(i+1)=m:=by omega
 rw[this,<- List.replicate_succ,List.replicate_succ',agu];rfl
def YU (g N:Nat):VL.Obj:=⟨0,false,1,[[.so 2 g 0 N]]⟩
def V1 (N:Nat):VL.Obj:=⟨0,false,1,List.replicate N [i64 (-1)]⟩
def Mt (N i:Nat):VL.Obj:=⟨0,true,1,List.replicate i [i64 (-1)]++List.replicate (N-i) [i64 0]⟩
def Uq:Option nK->VL.Obj
 |none=>Me
 |some m=>RQ m.s m.e (.d (cM m.c))
theorem Q3 {L:Nat}{e:VL.Env}{s:List VL.Obj}{gb:Nat}{B:List kI} (k:Nat) (ho:s[k]?=some (eM gb B)):br L e s e (s.set k (eM gb [])):=by
 cases B with
 |nil =>
  have:s.set k (eM gb [])=s:=by
   apply agT;intro j;by_cases hj:j=k
   ·subst hj;rw[agc (List.getElem?_eq_some_iff.1 ho).1,ho]
   ·rw[agp (Ne.symm hj)]
  rw[this];exact br.refl
 |cons x B =>
  refine br.TE (o:=eM gb (x::B)) k 0 ho (λes h=>?_);have h1:(eM gb (x::B)).aw[0]?=some [.d (iD x.kg),.d (al x.dP)]:=rfl;rw[h,eR,afO]at h1;obtain⟨y,_,h2⟩:=Option.map_eq_some_iff.1 h1;have h3:=congrArg (λl=>l[1]?) h2;simp [al]at h3
theorem Pe (aY:List Nat) (m:Option nK):fy aY (Uq m)=Uq m:=by
 cases m <;> rfl
theorem Vc (n:Nat) (m:Option nK):aG n (Uq m)=true:=by
 cases m <;> rfl
theorem PT (aY:List Nat) (n:Nat):fy aY (V1 n)=V1 n:=by unfold fy V1;simp [ej.go,ej,i64]
theorem VQ (n N:Nat):aG n (V1 N)=true:=by unfold aG V1;rw[af8];intro e he;rw[(List.mem_replicate.1 he).2];rfl
section
variable (t:List Int) (root parts:D) (bg nb:Nat) (Bs:List (List Bool)) (g b a:Nat) (C:List ay) (q:Nat) (N:Nat)
def VH (st:il) (gb:Nat) (B:List kI) (iC:Option nK):List VL.Obj :=
 [dp t root parts bg nb,fr bg Bs,cG g b a C,bo q st.ad,YU g C.length,da 3 q C.length,Me,V1 N,da 11 st.gn st.rd.length,OJ st.cl,qJ g C.length 9 5 8 10,eM st.gn st.rd,Uq iC,eM gb B]
def zC (st:il) (gn:Nat) (rd:List kI) (iC:Option nK):List VL.Obj :=
 [dp t root parts bg nb,fr bg Bs,cG g b a C,bo q st.ad,YU g C.length,da 3 q C.length,Me,V1 N,da 13 st.gn st.rd.length,OJ st.cl,qJ g C.length 9 5 8 10,eM gn rd,Uq iC,eM st.gn st.rd]
theorem yT (st:il) (gn:Nat) (rd:List kI) (iC:Option nK):(zC t root parts bg nb Bs g b a C q N st gn rd iC).all (aG 14)=true:=by have:=gr 14 bg Bs;simp only[zC,agq,agA,kj 14 _ _ _ (by omega),ni,tc,Vc,VQ,af5];simp [aG,dp,da,OJ,qJ,YU,Me,ah,ah.go,bV,i64,this]
theorem LV (st:il) (gn:Nat) (rd:List kI) (iC:Option nK):lF [0,1,2,3,4,5,6,7,8,9,10,13,12,11] (zC t root parts bg nb Bs g b a C q N st gn rd iC)=VH t root parts bg nb Bs g b a C q N st gn rd iC:=by unfold zC VH;simp only[lF,afR,afU,agW,agX,ji,pZ,K3,Pe,PT,lD _ (rfl:List.idxOf? 0 [0,1,2,3,4,5,6,7,8,9,10,13,12,11]=some 0)];rfl
end
section
variable (t:List Int) (root parts:D) (bg nb:Nat) (Bs:List (List Bool)) (g b a:Nat) (C:List ay) (q:Nat)
theorem Nl (hg:m8 t Bs C) (c:Nat) (OC:E8 C (2*c)) (hc:c<=1000) (nr:nb=Bs.length) (ht:t.length<=1000000) (hC:0<C.length) (p:Nat) (hp:p<=t.length) (ad:List Nat) (RH:ad.length=C.length) :
  aq Try.prog 29 [.rf 0 0 0 0,.so 2 g 0 C.length,.so 3 q 0 C.length,i64 p,i64 c] [dp t root parts bg nb,fr bg Bs,cG g b a C,bo q ad] λv s =>
   v=.tu [(QB (iA t Bs C p c).1).v,bV (iA t Bs C p c).1.isSome]/\s=[dp t root parts bg nb,fr bg Bs,cG g b a C,bo q (iA t Bs C p c).2]:=by
 obtain⟨R,hR⟩:∃R,R=iA t Bs C p c:=⟨_,rfl⟩
 rw[<- hR];have WD:=hg.len;have wc:IntKind.i64.wrap (2*(c:Int))=((2*c:Nat):Int):=by rw[bd _ (by omega)];omega
 have e1:∀q l,(bo q l).g=q:=λ_ _=>rfl;have e2:∀q l,(bo q l).sz=1:=λ_ _=>rfl;have e3:∀q l,(bo q l).aw.length=l.length:=λ_ _=>by simp [bo]
 refine an Try.func29 rfl Try.ntmps29 Try.results29 rfl 4 16140901065307454686 (by simp) (by simp) ?_;simp only[zX,cQ,dx,dB,dC,dD,gl,ja,jg,jk,mA,eI,eJ,fX,reduceIte,reduceCtorEq,gj,i64,bV,iD,bD,wc,e1,e2,e3,RH,oM,afX,afN];refine⟨⟨rfl,af3 _⟩,⟨agn _,by omega,by omega⟩,?_⟩;obtain⟨N,hN⟩:∃N,N=2*c:=⟨_,rfl⟩
 rw[<- hN]at OC ⊢;refine au (λn e s=>∃i:Nat,n=N-i/\i<=N/\e 3=i64 p/\e 6=.bx (.so 2 g 0 C.length)/\e 7=.rf 5 0 0 0/\e 10=.rf 6 0 0 0/\e 12=.so 7 0 0 N/\e 28=i64 N/\e 29=i64 i/\s=[dp t root parts bg nb,fr bg Bs,cG g b a C,bo q (List.replicate C.length 0),YU g C.length,da 3 q C.length,Me,Mt N i])
  ⟨_,_,_,.DD (bO.bx 4 rfl rfl rfl),0,rfl,by omega,rfl,rfl,rfl,rfl,rfl,rfl,rfl,?_⟩ ?_
 ·simp only[K5,bM,agF,agm,agf,agd,afR,afU,MB,OQ,X2,SX];have q1:List.map (λc=>List.map (nO 4 0 (V.so 2 g 0 C.length)) c) (iX (bo q ad).aw 0 (List.replicate C.length [V.d (D.sc (Value.int IntKind.i64 0))]))=(bo q (List.replicate C.length 0)).aw:=by simp [bo,iX,RH,nO,i64]
  have q2:List.map (λc=>List.map (nO 4 0 (V.so 2 g 0 C.length)) c) (List.replicate N [V.d (D.sc (Value.int IntKind.i64 0))])=List.replicate N [V.d (D.sc (Value.int IntKind.i64 0))]:=by simp [nO]
  rw[q1,q2];rfl
 rintro n e s ⟨i,rfl,hi,h3,h6,h7,du,jn,Yi,Yy,rfl⟩;rcases agi i N with az|fI
 ·have aC:(i:Int)<N:=by omega
  have ep:(List.replicate i [V.d (.sc (.int .i64 (-1)))]++List.replicate (N-i) [V.d (.sc (.int .i64 0))])[i]?=some [V.d (.sc (.int .i64 0))]:=by rw[af6 (by simp)];simp [List.getElem?_replicate];omega
  simp only[zX,cQ,dx,dB,dC,dD,gl,ja,jg,jk,mA,eI,eJ,fX,reduceIte,reduceCtorEq,gj,i64,bV,iD,bD,h3,h6,h7,du,jn,Yi,Yy,aC,Mt,ep,afX];refine⟨N-(i+1),_,_,by omega,br.refl,i+1,rfl,az,?_,?_,?_,?_,?_,?_,?_,?_⟩ <;> (try simp only[zU,gj,cQ,dx,eI,reduceIte])
  ·exact h3
  ·exact h6
  ·exact h7
  ·exact du
  ·exact jn
  ·exact Yi
  ·rw[bd _ (by omega)];rfl
  ·rw[<- OS _ _ az]
 ·have cV:i=N:=by omega
  subst cV;have aC:¬(i:Int)<i:=by omega
  simp only[zX,cQ,dx,dB,dC,dD,gl,ja,jg,jk,mA,eI,eJ,fX,reduceIte,reduceCtorEq,gj,i64,bV,iD,bD,h3,h6,h7,du,jn,Yi,Yy,aC];have Xv:Mt i i=⟨0,true,1,List.replicate i [i64 (-1)]⟩:=by simp [Mt]
  have T7:vg C c ⟨List.replicate C.length 0,false,[],0⟩:=⟨by simp,by simp,by simp⟩
  have Pu:lL C p ⟨List.replicate C.length 0,false,[],0⟩:=by have:iM p (List.replicate C.length 0)<=(List.replicate C.length 0).length:=ag5;unfold lL;simp only[ahe,af0]at *;omega
  have Ms:(nt c).length=2*c:=by simp [nt]
  obtain⟨Tz,TN⟩:=yW (t:=t) (Bs:=Bs) (p:=p) (k:=C.length+1) (n:=0) T7 Pu Ms;have HV:=yc t root parts bg nb Bs g b a C q p i hg OC (by omega) nr ht hp C.length;have cI:ij t Bs C p (C.length+1) 0 (nt c) ⟨List.replicate C.length 0,false,[],0⟩=xU t Bs C p c:=rfl;rw[cI]at Tz TN;have VO:R=sN t Bs C p c (t.length+2-p) p (xU t Bs C p c) 0 none:=hR;have Pm:=λ(s:List VL.Obj) (K:V->List VL.Obj->Prop)=>yD (s:=s) (K:=K) HV (n:=0) (rg:=nt c) (st:=⟨List.replicate C.length 0,false,[],0⟩) hC (by omega) (by simp) (by simp only;have:iM p (List.replicate C.length 0)<=(List.replicate C.length 0).length:=ag5;simpa using this) Pu 5 9 8 11 10 (by decide);generalize xU t Bs C p c=S at *;rw[Xv];refine Bu (y:=.d (al (nt c))) [7] 2 rfl ?_ ?_
  ·simp only[bE,bM,agF,agm,agf,agd,afZ,af0];rw[nM (ds:=(nt c).map λx=>[iD x]) (by rfl) ?_ ?_ (.inr rfl)]
   ·rw[agH,af1 (by simp)];simp [nt,iD,hN,i64]
   ·simp
  simp only[bE,bM,agF,agm,agf,agd];refine Qs (pre:=[]) (post:=[]) 8 2 rfl rfl rfl ?_;simp only[agf,agd,afQ,afS,afZ,af0,afX,eJ];refine Pm _ _ rfl rfl rfl rfl rfl rfl rfl rfl rfl cI.symm ?_;simp only[agf,agd];simp only[zX,cQ,dx,dB,dC,dD,gl,ja,jg,jk,mA,eI,eJ,fX,reduceIte,reduceCtorEq,gj,i64,bV,iD,bD,h3,h6,h7,du,jn,Yi,Yy];have h3':=h3;have h6':=h6;have h7':=h7;have abt:=du;clear h3 h6 h7 du jn Yi Yy Pm HV cI T7 Pu aC;have t1:∀q l,(eM q l).g=q:=λ_ _=>rfl;have t2:∀q l,(eM q l).sz=2:=λ_ _=>rfl;have t3:∀q l,(eM q l).aw.length=l.length:=λ_ _=>by simp [eM]
  refine au (λn e s=>∃(p':Nat) (st:il) (gb:Nat) (B:List kI) (iC:Option nK),n+p'=t.length+2/\vg C c st/\lL C p' st/\(st.rd≠[]->p'<=t.length)/\sN t Bs C p c n p' st gb iC=R /\
   e 3=i64 p/\e 6=.bx (.so 2 g 0 C.length)/\e 7=.rf 5 0 0 0/\e 10=.rf 6 0 0 0/\e 14=.rf 8 0 0 0/\e 15=.so 13 gb 0 B.length/\e 16=.rf 9 0 0 0/\e 17=.rf 10 0 0 0/\e 18=.rf 12 0 0 0/\e 19=bV iC.isSome/\e 20=i64 p'/\s=VH t root parts bg nb Bs g b a C q i st gb B iC) ?_ ?_
  ·refine⟨_,_,_,.DD (eE 15 2 rfl),p,S,0,[],none,by omega,Tz,TN,λ_=>hp,VO.symm,?_,?_,?_,?_,?_,?_,?_,?_,?_,?_,?_,?_⟩ <;> (try simp only[zU,gj,cQ,dx,eI,reduceIte])
   all_goals first|exact h3'|exact h6'|exact h7'|exact abt|rfl
  rintro n e s ⟨p',st,gb,B,iC,T9,hinv,W9,hp',hL,h3,h6,h7,du,cP,fm,lT,pV,ku,kR,ny,rfl⟩;by_cases RT:st.rd=[]
  ·have hz:(st.rd.length:Int)=0:=by rw[RT];rfl
   have Wx:=eq_true hz;have Wn:R=(iC,st.ad):=by
    rw[<- hL];cases n with
    |zero=>rfl
    |succ k=>rw[sN,be RT]
   rw[Wn];have a1:((dp t root parts bg nb).aw.all λe=>e.all (ah 4))=true:=rfl;have a2:((fr bg Bs).aw.all λe=>e.all (ah 4))=true:=gr 4 bg Bs;have a3:((cG g b a C).aw.all λe=>e.all (ah 4))=true:=kj 4 g b a (by omega) C;have a4:((bo q st.ad).aw.all λe=>e.all (ah 4))=true:=ni 4 q st.ad;cases iC with
   |none =>
    simp only[zX,cQ,dx,dB,dC,dD,gl,ja,jg,jk,mA,eI,eJ,fX,reduceIte,reduceCtorEq,gj,i64,bV,iD,bD,h3,h6,h7,du,cP,fm,lT,pV,ku,kR,ny,VH,da,OJ,t1,hz,agO,gt_iff_lt,Uq,Me,RQ,a1,a2,a3,a4,af5];rfl
   |some m =>
    simp only[zX,cQ,dx,dB,dC,dD,gl,ja,jg,jk,mA,eI,eJ,fX,reduceIte,reduceCtorEq,gj,i64,bV,iD,bD,h3,h6,h7,du,cP,fm,lT,pV,ku,kR,ny,VH,da,OJ,t1,hz,agO,gt_iff_lt,Uq,Me,RQ,a1,a2,a3,a4,af5];rfl
  obtain⟨k,rfl⟩:∃k,n=k+1:=⟨n-1,by have:=hp' RT;omega⟩
  have hpt:=hp' RT;have gp:(0:Int)<(st.rd.length:Int):=by have:=List.length_pos_iff.2 RT;omega
  rw[sN,ap RT]at hL;have hrl:st.rd.length<=C.length:=by have:=W9;unfold lL at this;omega
  have Ua:vg C c ⟨st.ad,false,[],gb⟩:=⟨hinv.ad,by simp,by simp⟩
  have T6:lL C (p'+1) ⟨st.ad,false,[],gb⟩:=by have:iM (p'+1) st.ad<=st.ad.length:=ag5;have:=hinv.ad;unfold lL;simp only[af0];omega
  cases fK:st.cl with
  |true =>
   obtain⟨x0,R4⟩:∃x0,st.rd[st.rd.length-1]?=some x0:=⟨_,afP (by omega)⟩
   have ZM:=hinv.th x0 (afW R4);have tp:st.rd.getLastD ⟨0,[]⟩=x0:=by rw[List.getLastD_eq_getLast?,List.getLast?_eq_getElem?,R4];rfl
   have Rn:Cv p p' c st iC=some ⟨p,p',MC c x0.dP⟩:=by unfold Cv;rw[be fK,tp]
   rw[Rn]at hL;have w1:IntKind.i64.wrap ((st.rd.length:Int)-1)=((st.rd.length-1:Nat):Int):=by rw[bd _ (by have:=W9;unfold lL at this;omega)];omega
   have b1:((st.rd.length-1:Nat):Int)<(st.rd.length:Int):=by omega
   have b0:(0:Int)<=((st.rd.length-1:Nat):Int):=by omega
   have XR:(eM st.gn st.rd).aw[st.rd.length-1]?=some [V.d (iD x0.kg),V.d (al x0.dP)]:=by simp [eM,R4,kI.cells]
   have hma:=MP c hc p p' x0.dP ZM.1;simp only[i64]at hma;simp only[zX,cQ,dx,dB,dC,dD,gl,ja,jg,jk,mA,eI,eJ,fX,reduceIte,reduceCtorEq,gj,i64,bV,iD,bD,h3,h6,h7,du,cP,fm,lT,pV,ku,kR,ny,VH,da,OJ,t1,t2,t3,gp,gt_iff_lt,fK,w1,b0,b1,XR,afX,afT];refine aj hma rfl rfl ?_;obtain⟨va,vb,vc,Su⟩:∃va vb vc,Uq iC=⟨0,true,3,[[va,vb,vc]]⟩:=by cases iC <;> exact⟨_,_,_,rfl⟩
   rw[Su];simp only[zX,cQ,dx,dB,dC,dD,gl,ja,jg,jk,mA,eI,eJ,fX,reduceIte,reduceCtorEq,gj,i64,bV,iD,bD,h3,h6,h7,du,cP,fm,lT,pV,ku,kR,ny,t1,t2,t3,gp,gt_iff_lt,afX,nK.v];refine ar mix [3,4,5] [] (by rfl) ?_;simp only[zX,cQ,dx,dB,dC,dD,gl,ja,jg,jk,mA,eI,eJ,fX,reduceIte,reduceCtorEq,gj,i64,bV,iD,bD,h3,h6,h7,du,cP,fm,lT,pV,ku,kR,ny,afX,gt_iff_lt,gp,t1,t2,t3,af3,ahn,and_self,true_and,agn,ahh];refine au (λn e s=>∃m:Nat,n=st.rd.length-m/\m<=st.rd.length/\e 3=i64 p/\e 6=.bx (.so 2 g 0 C.length)/\e 7=.rf 5 0 0 0/\e 10=.rf 6 0 0 0/\e 14=.rf 8 0 0 0/\e 15=.so 11 st.gn 0 st.rd.length/\e 16=.rf 9 0 0 0/\e 17=.rf 10 0 0 0/\e 18=.rf 12 0 0 0/\e 19=bV ((some (nK.mk p p' (MC c x0.dP)))).isSome/\e 20=i64 p'/\e 61=.so 11 st.gn 0 st.rd.length/\e 62=i64 st.rd.length/\e 63=i64 m/\s=zC t root parts bg nb Bs g b a C q i (kv t Bs C p' (st.rd.take m) ⟨st.ad,false,[],gb⟩) st.gn st.rd (some (nK.mk p p' (MC c x0.dP)))) ?_ ?_
   ·refine⟨_,_,_,Q3 13 rfl,0,rfl,by omega,?_,?_,?_,?_,?_,?_,?_,?_,?_,?_,?_,?_,?_,?_,?_⟩ <;> (try simp only[zU,gj,cQ,dx,eI,reduceIte])
    all_goals first|exact h3|exact h6|exact h7|exact du|exact cP|exact lT|exact pV|exact ku|exact kR|exact ny|rfl
   clear h3 h6 h7 du cP fm lT pV ku kR ny;rintro n e s ⟨m,rfl,hm,h3,h6,h7,du,cP,fm,lT,pV,ku,kR,ny,uS,vo,Da,rfl⟩;have hX:=qR (t:=t) (Bs:=Bs) (p:=p') (st.rd.take m) ⟨st.ad,false,[],gb⟩ (λx hx=>hinv.th x (agJ hx)) Ua T6;rcases agi m st.rd.length with az|fI
   ·have aC:(m:Int)<(st.rd.length:Int):=by omega
    have wI:(0:Int)<=(m:Int):=by omega
    obtain⟨x,hx⟩:∃x,st.rd[m]?=some x:=⟨_,afP az⟩
    have QF:=hinv.th x (afW hx);have hn:=QF.2.1;have iw:(x.kg:Int)<(C.length:Int):=by omega
    have yX:(0:Int)<=(x.kg:Int):=by omega
    obtain⟨ins,hi⟩:∃ins,C[x.kg]?=some ins:=⟨_,afP hn⟩
    have kH:eV C x.kg=ins:=by unfold eV;rw[af9,hi];rfl
    have ep:(eM st.gn st.rd).aw[m]?=some [V.d (D.sc (.int .i64 x.kg)),V.d (al x.dP)]:=by simp [eM,hx,kI.cells,iD]
    have kJ:kv t Bs C p' (st.rd.take (m+1)) ⟨st.ad,false,[],gb⟩=lH t Bs C p' (kv t Bs C p' (st.rd.take m) ⟨st.ad,false,[],gb⟩) x:=by rw[aR hx,Ch]
    generalize kv t Bs C p' (st.rd.take m) ⟨st.ad,false,[],gb⟩=X at *;by_cases o1:ins.op=1
    ·obtain⟨SU,ak,mU,Ap,su,rS⟩:=qe t root parts bg nb Bs b a C hg nr ht hn (.inl (by rw[kH];exact o1)) p' hpt;have Q5:=Ge (t:=t) (Bs:=Bs) (p:=p') hg hn (by rw[kH];exact o1);have Wp:=hg.next x.kg hn (.inl (by rw[kH];exact o1));have hF:lH t Bs C p' X x=if ins.pass t Bs p'=true then ij t Bs C (p'+1) (C.length+1) (x.kg+1) x.dP X else X:=by unfold lH;rw[kH];simp [o1]
     rw[hF]at kJ;rw[kH]at mU rS Q5;have w1:IntKind.i64.wrap ((x.kg:Int)+1)=((x.kg+1:Nat):Int):=by rw[bd _ (by omega)];rfl
     have w2:IntKind.i64.wrap ((p':Int)+1)=((p'+1:Nat):Int):=by rw[bd _ (by omega)];rfl
     generalize ins.pass t Bs p'=y at *;cases y with
     |true =>
      have Rs:=yc t root parts bg nb Bs g b a C q (p'+1) i hg OC (by omega) nr ht (Q5 rfl) C.length;have Y2:iM (p'+1) X.ad<=X.ad.length:=ag5;have hXa:=hX.1.ad;have Xl:=hX.2;unfold lL at Xl;rw[be rfl]at kJ;have DO:=λ(s:List VL.Obj) (K:V->List VL.Obj->Prop)=>yD (s:=s) (K:=K) Rs (n:=x.kg+1) (rg:=x.dP) (st:=X) Wp (by rw[QF.1,hN]) hXa (by omega) Xl 5 9 8 13 10 (by decide);simp only[zX,cQ,dx,dB,dC,dD,gl,ja,jg,jk,mA,eI,eJ,fX,reduceIte,reduceCtorEq,gj,i64,bV,iD,bD,h3,h6,h7,du,cP,fm,lT,pV,ku,kR,ny,uS,vo,Da,zC,qJ,cG,ay.cells,bU,aP,t1,t2,t3,afO,afN,hi,afV,iw,yX,wI,aC,ep,afX,afT,o1,mU];refine dN t root parts bg nb Bs rS ?_ ?_ rfl rfl rfl ?_
      ·simp [aL,i64,su]
      ·simp [ah,ah.go,i64,Ap]
      simp only[zX,cQ,dx,dB,dC,dD,gl,ja,jg,jk,mA,eI,eJ,fX,reduceIte,reduceCtorEq,gj,i64,bV,iD,bD,h3,h6,h7,du,cP,fm,lT,pV,ku,kR,ny,uS,vo,Da,zC,qJ,cG,ay.cells,bU,aP,t1,t2,t3,afO,afN,hi,afV,iw,yX,wI,aC,ep,afX,afT,o1,mU,w1,w2];refine DO _ _ rfl rfl rfl rfl rfl rfl rfl rfl rfl rfl ?_;simp only[agf,agd];simp only[zX,cQ,dx,dB,dC,dD,gl,ja,jg,jk,mA,eI,eJ,fX,reduceIte,reduceCtorEq,gj,i64,bV,iD,bD,h3,h6,h7,du,cP,fm,lT,pV,ku,kR,ny,uS,vo,Da,zC,qJ,cG,ay.cells,bU,aP,t1,t2,t3,afO,afN,hi,afV,iw,yX,wI,aC,ep,afX,afT,o1,mU,w1,w2];refine⟨st.rd.length-(m+1),_,_,by omega,br.cut (s':=zC t root parts bg nb Bs g b a C q i (ij t Bs C (p'+1) (C.length+1) (x.kg+1) x.dP X) st.gn st.rd (some (nK.mk p p' (MC c x0.dP)))) 14 (by omega) rfl (yT t root parts bg nb Bs g b a C q i _ _ _ _) [3,6,7,10,14,15,16,17,18,19,20,61,62,63] (by simp [bz,aH,ah,ah.go,h3,h6,h7,du,cP,fm,lT,pV,ku,kR,ny,uS,vo,Da,i64,bV]),m+1,rfl,az,?_,?_,?_,?_,?_,?_,?_,?_,?_,?_,?_,?_,?_,?_,by rw[kJ];rfl⟩ <;> (try simp only[zU,gj,cQ,dx,eI,reduceIte])
      ·exact h3
      ·exact h6
      ·exact h7
      ·exact du
      ·exact cP
      ·exact fm
      ·exact lT
      ·exact pV
      ·exact ku
      ·exact kR
      ·exact ny
      ·exact uS
      ·exact vo
      ·rw[bd _ (by omega)];rfl
     |false =>
      rw[ap (by simp)]at kJ;simp only[zX,cQ,dx,dB,dC,dD,gl,ja,jg,jk,mA,eI,eJ,fX,reduceIte,reduceCtorEq,gj,i64,bV,iD,bD,h3,h6,h7,du,cP,fm,lT,pV,ku,kR,ny,uS,vo,Da,zC,qJ,cG,ay.cells,bU,aP,t1,t2,t3,afO,afN,hi,afV,iw,yX,wI,aC,ep,afX,afT,o1,mU];refine dN t root parts bg nb Bs rS ?_ ?_ rfl rfl rfl ?_
      ·simp [aL,i64,su]
      ·simp [ah,ah.go,i64,Ap]
      simp only[zX,cQ,dx,dB,dC,dD,gl,ja,jg,jk,mA,eI,eJ,fX,reduceIte,reduceCtorEq,gj,i64,bV,iD,bD,h3,h6,h7,du,cP,fm,lT,pV,ku,kR,ny,uS,vo,Da,zC,qJ,cG,ay.cells,bU,aP,t1,t2,t3,afO,afN,hi,afV,iw,yX,wI,aC,ep,afX,afT,o1,mU,w1,w2];refine⟨st.rd.length-(m+1),_,_,by omega,br.cut (s':=zC t root parts bg nb Bs g b a C q i (X) st.gn st.rd (some (nK.mk p p' (MC c x0.dP)))) 14 (by omega) rfl (yT t root parts bg nb Bs g b a C q i _ _ _ _) [3,6,7,10,14,15,16,17,18,19,20,61,62,63] (by simp [bz,aH,ah,ah.go,h3,h6,h7,du,cP,fm,lT,pV,ku,kR,ny,uS,vo,Da,i64,bV]),m+1,rfl,az,?_,?_,?_,?_,?_,?_,?_,?_,?_,?_,?_,?_,?_,?_,by rw[kJ];rfl⟩ <;> (try simp only[zU,gj,cQ,dx,eI,reduceIte])
      ·exact h3
      ·exact h6
      ·exact h7
      ·exact du
      ·exact cP
      ·exact fm
      ·exact lT
      ·exact pV
      ·exact ku
      ·exact kR
      ·exact ny
      ·exact uS
      ·exact vo
      ·rw[bd _ (by omega)];rfl
    ·have hF:lH t Bs C p' X x=X:=by unfold lH;rw[kH];simp [o1]
     rw[hF]at kJ;simp only[zX,cQ,dx,dB,dC,dD,gl,ja,jg,jk,mA,eI,eJ,fX,reduceIte,reduceCtorEq,gj,i64,bV,iD,bD,h3,h6,h7,du,cP,fm,lT,pV,ku,kR,ny,uS,vo,Da,zC,qJ,cG,ay.cells,bU,aP,t1,t2,t3,afO,afN,hi,afV,iw,yX,wI,aC,ep,afX,afT,o1];refine⟨st.rd.length-(m+1),_,_,by omega,br.cut (s':=zC t root parts bg nb Bs g b a C q i (X) st.gn st.rd (some (nK.mk p p' (MC c x0.dP)))) 14 (by omega) rfl (yT t root parts bg nb Bs g b a C q i _ _ _ _) [3,6,7,10,14,15,16,17,18,19,20,61,62,63] (by simp [bz,aH,ah,ah.go,h3,h6,h7,du,cP,fm,lT,pV,ku,kR,ny,uS,vo,Da,i64,bV]),m+1,rfl,az,?_,?_,?_,?_,?_,?_,?_,?_,?_,?_,?_,?_,?_,?_,by rw[kJ];rfl⟩ <;> (try simp only[zU,gj,cQ,dx,eI,reduceIte])
     ·exact h3
     ·exact h6
     ·exact h7
     ·exact du
     ·exact cP
     ·exact fm
     ·exact lT
     ·exact pV
     ·exact ku
     ·exact kR
     ·exact ny
     ·exact uS
     ·exact vo
     ·rw[bd _ (by omega)];rfl
   ·have QL:m=st.rd.length:=by omega
    subst QL;rw[agj]at *;have aC:¬(st.rd.length:Int)<(st.rd.length:Int):=by omega
    have Vy:(kv t Bs C p' st.rd ⟨st.ad,false,[],gb⟩).rd≠[]->p'+1<=t.length:=by intro h;refine Decidable.byContradiction λhc=>h ?_;rw[zf hg (c:=c) (by omega) st.rd _ hinv.th]
    generalize kv t Bs C p' st.rd ⟨st.ad,false,[],gb⟩=X at *;simp only[zX,cQ,dx,dB,dC,dD,gl,ja,jg,jk,mA,eI,eJ,fX,reduceIte,reduceCtorEq,gj,i64,bV,iD,bD,h3,h6,h7,du,cP,fm,lT,pV,ku,kR,ny,uS,vo,Da,zC,aC,agO];refine⟨k,_,_,Nat.lt_succ_self k,br.C8 [0,1,2,3,4,5,6,7,8,9,10,13,12,11] [3,6,7,10,14,15,16,17,18,19,20] (by rfl),p'+1,X,st.gn,st.rd,(some (nK.mk p p' (MC c x0.dP))),by omega,hX.1,hX.2,Vy,hL,?_,?_,?_,?_,?_,?_,?_,?_,?_,?_,?_,LV t root parts bg nb Bs g b a C q i X st.gn st.rd (some (nK.mk p p' (MC c x0.dP)))⟩;all_goals
     rw[Bp,be (by rfl)];try simp only[zU,gj,cQ,dx,eI,reduceIte]
    ·rw[h3];rfl
    ·rw[h6];rfl
    ·rw[h7];rfl
    ·rw[du];rfl
    ·rw[cP];rfl
    ·rw[fm];rfl
    ·rw[lT];rfl
    ·rw[pV];rfl
    ·rw[ku];rfl
    ·rw[kR];rfl
    ·rw[bd _ (by omega)];rfl
  |false =>
   have Rn:Cv p p' c st iC=iC:=by unfold Cv;rw[ap (by rw[fK];simp)]
   rw[Rn]at hL;simp only[zX,cQ,dx,dB,dC,dD,gl,ja,jg,jk,mA,eI,eJ,fX,reduceIte,reduceCtorEq,gj,i64,bV,iD,bD,h3,h6,h7,du,cP,fm,lT,pV,ku,kR,ny,VH,da,OJ,t1,t2,t3,gp,gt_iff_lt,fK];refine ar mix [3,4,5] [] (by rfl) ?_;simp only[zX,cQ,dx,dB,dC,dD,gl,ja,jg,jk,mA,eI,eJ,fX,reduceIte,reduceCtorEq,gj,i64,bV,iD,bD,h3,h6,h7,du,cP,fm,lT,pV,ku,kR,ny,afX,gt_iff_lt,gp,t1,t2,t3,af3,ahn,and_self,true_and,agn,ahh];refine au (λn e s=>∃m:Nat,n=st.rd.length-m/\m<=st.rd.length/\e 3=i64 p/\e 6=.bx (.so 2 g 0 C.length)/\e 7=.rf 5 0 0 0/\e 10=.rf 6 0 0 0/\e 14=.rf 8 0 0 0/\e 15=.so 11 st.gn 0 st.rd.length/\e 16=.rf 9 0 0 0/\e 17=.rf 10 0 0 0/\e 18=.rf 12 0 0 0/\e 19=bV (iC).isSome/\e 20=i64 p'/\e 61=.so 11 st.gn 0 st.rd.length/\e 62=i64 st.rd.length/\e 63=i64 m/\s=zC t root parts bg nb Bs g b a C q i (kv t Bs C p' (st.rd.take m) ⟨st.ad,false,[],gb⟩) st.gn st.rd iC) ?_ ?_
   ·refine⟨_,_,_,Q3 13 rfl,0,rfl,by omega,?_,?_,?_,?_,?_,?_,?_,?_,?_,?_,?_,?_,?_,?_,?_⟩ <;> (try simp only[zU,gj,cQ,dx,eI,reduceIte])
    all_goals first|exact h3|exact h6|exact h7|exact du|exact cP|exact lT|exact pV|exact ku|exact kR|exact ny|rfl
   clear h3 h6 h7 du cP fm lT pV ku kR ny;rintro n e s ⟨m,rfl,hm,h3,h6,h7,du,cP,fm,lT,pV,ku,kR,ny,uS,vo,Da,rfl⟩;have hX:=qR (t:=t) (Bs:=Bs) (p:=p') (st.rd.take m) ⟨st.ad,false,[],gb⟩ (λx hx=>hinv.th x (agJ hx)) Ua T6;rcases agi m st.rd.length with az|fI
   ·have aC:(m:Int)<(st.rd.length:Int):=by omega
    have wI:(0:Int)<=(m:Int):=by omega
    obtain⟨x,hx⟩:∃x,st.rd[m]?=some x:=⟨_,afP az⟩
    have QF:=hinv.th x (afW hx);have hn:=QF.2.1;have iw:(x.kg:Int)<(C.length:Int):=by omega
    have yX:(0:Int)<=(x.kg:Int):=by omega
    obtain⟨ins,hi⟩:∃ins,C[x.kg]?=some ins:=⟨_,afP hn⟩
    have kH:eV C x.kg=ins:=by unfold eV;rw[af9,hi];rfl
    have ep:(eM st.gn st.rd).aw[m]?=some [V.d (D.sc (.int .i64 x.kg)),V.d (al x.dP)]:=by simp [eM,hx,kI.cells,iD]
    have kJ:kv t Bs C p' (st.rd.take (m+1)) ⟨st.ad,false,[],gb⟩=lH t Bs C p' (kv t Bs C p' (st.rd.take m) ⟨st.ad,false,[],gb⟩) x:=by rw[aR hx,Ch]
    generalize kv t Bs C p' (st.rd.take m) ⟨st.ad,false,[],gb⟩=X at *;by_cases o1:ins.op=1
    ·obtain⟨SU,ak,mU,Ap,su,rS⟩:=qe t root parts bg nb Bs b a C hg nr ht hn (.inl (by rw[kH];exact o1)) p' hpt;have Q5:=Ge (t:=t) (Bs:=Bs) (p:=p') hg hn (by rw[kH];exact o1);have Wp:=hg.next x.kg hn (.inl (by rw[kH];exact o1));have hF:lH t Bs C p' X x=if ins.pass t Bs p'=true then ij t Bs C (p'+1) (C.length+1) (x.kg+1) x.dP X else X:=by unfold lH;rw[kH];simp [o1]
     rw[hF]at kJ;rw[kH]at mU rS Q5;have w1:IntKind.i64.wrap ((x.kg:Int)+1)=((x.kg+1:Nat):Int):=by rw[bd _ (by omega)];rfl
     have w2:IntKind.i64.wrap ((p':Int)+1)=((p'+1:Nat):Int):=by rw[bd _ (by omega)];rfl
     generalize ins.pass t Bs p'=y at *;cases y with
     |true =>
      have Rs:=yc t root parts bg nb Bs g b a C q (p'+1) i hg OC (by omega) nr ht (Q5 rfl) C.length;have Y2:iM (p'+1) X.ad<=X.ad.length:=ag5;have hXa:=hX.1.ad;have Xl:=hX.2;unfold lL at Xl;rw[be rfl]at kJ;have DO:=λ(s:List VL.Obj) (K:V->List VL.Obj->Prop)=>yD (s:=s) (K:=K) Rs (n:=x.kg+1) (rg:=x.dP) (st:=X) Wp (by rw[QF.1,hN]) hXa (by omega) Xl 5 9 8 13 10 (by decide);simp only[zX,cQ,dx,dB,dC,dD,gl,ja,jg,jk,mA,eI,eJ,fX,reduceIte,reduceCtorEq,gj,i64,bV,iD,bD,h3,h6,h7,du,cP,fm,lT,pV,ku,kR,ny,uS,vo,Da,zC,qJ,cG,ay.cells,bU,aP,t1,t2,t3,afO,afN,hi,afV,iw,yX,wI,aC,ep,afX,afT,o1,mU];refine dN t root parts bg nb Bs rS ?_ ?_ rfl rfl rfl ?_
      ·simp [aL,i64,su]
      ·simp [ah,ah.go,i64,Ap]
      simp only[zX,cQ,dx,dB,dC,dD,gl,ja,jg,jk,mA,eI,eJ,fX,reduceIte,reduceCtorEq,gj,i64,bV,iD,bD,h3,h6,h7,du,cP,fm,lT,pV,ku,kR,ny,uS,vo,Da,zC,qJ,cG,ay.cells,bU,aP,t1,t2,t3,afO,afN,hi,afV,iw,yX,wI,aC,ep,afX,afT,o1,mU,w1,w2];refine DO _ _ rfl rfl rfl rfl rfl rfl rfl rfl rfl rfl ?_;simp only[agf,agd];simp only[zX,cQ,dx,dB,dC,dD,gl,ja,jg,jk,mA,eI,eJ,fX,reduceIte,reduceCtorEq,gj,i64,bV,iD,bD,h3,h6,h7,du,cP,fm,lT,pV,ku,kR,ny,uS,vo,Da,zC,qJ,cG,ay.cells,bU,aP,t1,t2,t3,afO,afN,hi,afV,iw,yX,wI,aC,ep,afX,afT,o1,mU,w1,w2];refine⟨st.rd.length-(m+1),_,_,by omega,br.cut (s':=zC t root parts bg nb Bs g b a C q i (ij t Bs C (p'+1) (C.length+1) (x.kg+1) x.dP X) st.gn st.rd iC) 14 (by omega) rfl (yT t root parts bg nb Bs g b a C q i _ _ _ _) [3,6,7,10,14,15,16,17,18,19,20,61,62,63] (by simp [bz,aH,ah,ah.go,h3,h6,h7,du,cP,fm,lT,pV,ku,kR,ny,uS,vo,Da,i64,bV]),m+1,rfl,az,?_,?_,?_,?_,?_,?_,?_,?_,?_,?_,?_,?_,?_,?_,by rw[kJ];rfl⟩ <;> (try simp only[zU,gj,cQ,dx,eI,reduceIte])
      ·exact h3
      ·exact h6
      ·exact h7
      ·exact du
      ·exact cP
      ·exact fm
      ·exact lT
      ·exact pV
      ·exact ku
      ·exact kR
      ·exact ny
      ·exact uS
      ·exact vo
      ·rw[bd _ (by omega)];rfl
     |false =>
      rw[ap (by simp)]at kJ;simp only[zX,cQ,dx,dB,dC,dD,gl,ja,jg,jk,mA,eI,eJ,fX,reduceIte,reduceCtorEq,gj,i64,bV,iD,bD,h3,h6,h7,du,cP,fm,lT,pV,ku,kR,ny,uS,vo,Da,zC,qJ,cG,ay.cells,bU,aP,t1,t2,t3,afO,afN,hi,afV,iw,yX,wI,aC,ep,afX,afT,o1,mU];refine dN t root parts bg nb Bs rS ?_ ?_ rfl rfl rfl ?_
      ·simp [aL,i64,su]
      ·simp [ah,ah.go,i64,Ap]
      simp only[zX,cQ,dx,dB,dC,dD,gl,ja,jg,jk,mA,eI,eJ,fX,reduceIte,reduceCtorEq,gj,i64,bV,iD,bD,h3,h6,h7,du,cP,fm,lT,pV,ku,kR,ny,uS,vo,Da,zC,qJ,cG,ay.cells,bU,aP,t1,t2,t3,afO,afN,hi,afV,iw,yX,wI,aC,ep,afX,afT,o1,mU,w1,w2];refine⟨st.rd.length-(m+1),_,_,by omega,br.cut (s':=zC t root parts bg nb Bs g b a C q i (X) st.gn st.rd iC) 14 (by omega) rfl (yT t root parts bg nb Bs g b a C q i _ _ _ _) [3,6,7,10,14,15,16,17,18,19,20,61,62,63] (by simp [bz,aH,ah,ah.go,h3,h6,h7,du,cP,fm,lT,pV,ku,kR,ny,uS,vo,Da,i64,bV]),m+1,rfl,az,?_,?_,?_,?_,?_,?_,?_,?_,?_,?_,?_,?_,?_,?_,by rw[kJ];rfl⟩ <;> (try simp only[zU,gj,cQ,dx,eI,reduceIte])
      ·exact h3
      ·exact h6
      ·exact h7
      ·exact du
      ·exact cP
      ·exact fm
      ·exact lT
      ·exact pV
      ·exact ku
      ·exact kR
      ·exact ny
      ·exact uS
      ·exact vo
      ·rw[bd _ (by omega)];rfl
    ·have hF:lH t Bs C p' X x=X:=by unfold lH;rw[kH];simp [o1]
     rw[hF]at kJ;simp only[zX,cQ,dx,dB,dC,dD,gl,ja,jg,jk,mA,eI,eJ,fX,reduceIte,reduceCtorEq,gj,i64,bV,iD,bD,h3,h6,h7,du,cP,fm,lT,pV,ku,kR,ny,uS,vo,Da,zC,qJ,cG,ay.cells,bU,aP,t1,t2,t3,afO,afN,hi,afV,iw,yX,wI,aC,ep,afX,afT,o1];refine⟨st.rd.length-(m+1),_,_,by omega,br.cut (s':=zC t root parts bg nb Bs g b a C q i (X) st.gn st.rd iC) 14 (by omega) rfl (yT t root parts bg nb Bs g b a C q i _ _ _ _) [3,6,7,10,14,15,16,17,18,19,20,61,62,63] (by simp [bz,aH,ah,ah.go,h3,h6,h7,du,cP,fm,lT,pV,ku,kR,ny,uS,vo,Da,i64,bV]),m+1,rfl,az,?_,?_,?_,?_,?_,?_,?_,?_,?_,?_,?_,?_,?_,?_,by rw[kJ];rfl⟩ <;> (try simp only[zU,gj,cQ,dx,eI,reduceIte])
     ·exact h3
     ·exact h6
     ·exact h7
     ·exact du
     ·exact cP
     ·exact fm
     ·exact lT
     ·exact pV
     ·exact ku
     ·exact kR
     ·exact ny
     ·exact uS
     ·exact vo
     ·rw[bd _ (by omega)];rfl
   ·have QL:m=st.rd.length:=by omega
    subst QL;rw[agj]at *;have aC:¬(st.rd.length:Int)<(st.rd.length:Int):=by omega
    have Vy:(kv t Bs C p' st.rd ⟨st.ad,false,[],gb⟩).rd≠[]->p'+1<=t.length:=by intro h;refine Decidable.byContradiction λhc=>h ?_;rw[zf hg (c:=c) (by omega) st.rd _ hinv.th]
    generalize kv t Bs C p' st.rd ⟨st.ad,false,[],gb⟩=X at *;simp only[zX,cQ,dx,dB,dC,dD,gl,ja,jg,jk,mA,eI,eJ,fX,reduceIte,reduceCtorEq,gj,i64,bV,iD,bD,h3,h6,h7,du,cP,fm,lT,pV,ku,kR,ny,uS,vo,Da,zC,aC,agO];refine⟨k,_,_,Nat.lt_succ_self k,br.C8 [0,1,2,3,4,5,6,7,8,9,10,13,12,11] [3,6,7,10,14,15,16,17,18,19,20] (by rfl),p'+1,X,st.gn,st.rd,iC,by omega,hX.1,hX.2,Vy,hL,?_,?_,?_,?_,?_,?_,?_,?_,?_,?_,?_,LV t root parts bg nb Bs g b a C q i X st.gn st.rd iC⟩;all_goals
     rw[Bp,be (by rfl)];try simp only[zU,gj,cQ,dx,eI,reduceIte]
    ·rw[h3];rfl
    ·rw[h6];rfl
    ·rw[h7];rfl
    ·rw[du];rfl
    ·rw[cP];rfl
    ·rw[fm];rfl
    ·rw[lT];rfl
    ·rw[pV];rfl
    ·rw[ku];rfl
    ·rw[kR];rfl
    ·rw[bd _ (by omega)];rfl
end
section
variable (P:ay->Prop) (node:Re->Bool)
structure tK:Prop where
 xy:∀i x y,P i->P ⟨i.op,x,y,i.n,i.node⟩
 ZS:∀x y,P (eT x y)
 jmp:∀x,P (lZ x)
 set:∀re k,node re=true->re.op=1->P (xQ re k)
 ask:∀re k,node re=true->re.op=11\/re.op=7\/re.op=8->P (oB re k)
 sav:∀re,node re=true->re.op=5->P (jE (2*re.n-2))/\P (jE (2*re.n-1))
def kL (C:List ay):Prop:=∀i∈C,P i
variable {P node}
variable{C:List ay}
theorem kL.add (h:kL P C) {i:ay} (hp:P i):kL P (C++[i]):=λj hj=>by
 rcases List.mem_append.1 hj with hj|hj
 ·exact h j hj
 ·rw[List.mem_singleton.1 hj];exact hp
theorem kL.xy (hP:tK P node) (h:kL P C) (c:Nat) (x y:Int):kL P (yn C c x y):=λj hj=>by
 unfold yn at hj;by_cases hc:c<C.length
 ·rcases agU hj with hj|rfl
  ·exact h j hj
  ·have hm:eV C c∈C:=by unfold eV;rw[af9,afP hc];exact List.getElem_mem hc
   exact hP.xy _ _ _ (h _ hm)
 ·rw[List.set_eq_of_length_le (by omega)]at hj;exact h j hj
theorem kL.xs (hP:tK P node) (E:Int):∀(J:List Nat) {C:List ay},kL P C->kL P (J.foldl (xO E) C)
 |[],_,h=>h
 |c::J,C,h=>kL.xs hP E J (h.xy hP c _ _)
theorem kL.KK (hP:tK P node) (mode:Int):∀(J:List Nat) {C:List ay},kL P C->kL P (J.foldl (pY mode) C)
 |[],_,h=>h
 |c::J,C,h=>by
  rw[List.foldl_cons];refine kL.KK hP mode J ?_;unfold pY;split
  ·exact h.xy hP c _ _
  ·exact h.xy hP c _ _
theorem Fm (hP:tK P node) (re:Re):re.every node=true->∀k C,kL P C->kL P (re.emit k C):=by
 refine Re.ind (Q:=λre=>re.every node=true->∀k C,kL P C->kL P (re.emit k C)) (λre ih hs k C hC=>?_) re;obtain⟨ez,iO⟩:=(Re.aB re).1 hs;rw[Re.ln];by_cases o1:re.op=1
 ·rw[be o1];exact hC.add (hP.set re k ez o1)
 rw[ap o1];by_cases o7:re.op=11\/re.op=7\/re.op=8
 ·rw[be o7];exact hC.add (hP.ask re k ez o7)
 rw[ap o7];have hL:∀(l:List Re) (k:Nat) (C:List ay),(∀x∈l,x∈re.kids)->kL P C->kL P (Re.dn l k C):=by
  intro l;induction l with
  |nil=>intro k C _ h;exact h
  |cons x l yM =>
   intro k C hm h;rw[Re.dn];exact yM _ _ (λy hy=>hm y (by simp [hy])) (ih x (hm x (by simp)) (iO x (hm x (by simp))) k C h)
 by_cases o2:re.op=2
 ·rw[be o2];exact hL _ _ _ (λ_ h=>h) hC
 rw[ap o2];by_cases o3:re.op=3
 ·rw[be o3];have hA:∀(l:List Re) (k:Nat) (C:List ay) (J:List Nat),(∀x∈l,x∈re.kids)->kL P C->kL P (Re.ow l k C J):=by
   intro l;induction l with
   |nil=>intro k C J _ h;exact h
   |cons x l yM =>
    intro k C J hm h;have hx:=λC h=>ih x (hm x (by simp)) (iO x (hm x (by simp))) k C h;cases l with
    |nil =>
     rw[Re.ow];exact kL.xs hP _ J (hx C h)
    |cons y l =>
     rw[Re.ow];exact yM _ _ _ (λz hz=>hm z (by simp only[agV]at hz ⊢;exact .inr hz)) (((hx _ (h.add (hP.ZS 0 0))).add (hP.jmp 0)).xy hP _ _ _)
   done
  exact hA _ _ _ _ (λ_ h=>h) hC
 rw[ap o3];by_cases o5:re.op=5
 ·rw[be o5];exact(hL _ _ _ (λ_ h=>h) (hC.add (hP.sav re ez o5).1)).add (hP.sav re ez o5).2
 rw[ap o5];by_cases o4:re.op=4
 ·rw[be o4];have hf:∀C,kL P C->kL P (Re.dn re.kids k C):=λC h=>hL _ _ _ (λ_ h=>h) h;have h1:∀n,kL P (iS (λC=>Re.dn re.kids k C) n C):=by
   intro n;induction n with
   |zero=>exact hC
   |succ n VW=>exact hf _ VW
  unfold mW;simp only;have h1:=h1 re.mn.toNat;generalize iS (λC=>Re.dn re.kids k C) re.mn.toNat C=C1 at *;split
  ·exact kL.KK hP _ _ ((hf _ (h1.add (hP.ZS 0 0))).add (hP.jmp _))
  ·refine kL.KK hP _ _ ?_;have:∀n,kL P (ki (λC=>Re.dn re.kids k C) n C1).1:=by
    intro n;induction n with
    |zero=>exact h1
    |succ n VW=>exact hf _ (VW.add (hP.ZS 0 0))
   exact this _
 rw[ap o4];exact hC
end
def X9 (c:Int) (re:Re):Bool:=decide (re.op=5->1<=re.n/\re.n<=c)
theorem WG {re:Re}{ak top:Int} (h:bK re ak top=true):X9 ak re=true:=by obtain⟨h1,h2,h3,h4,h5⟩:=fz.1 h;unfold X9;rw[decide_eq_true_eq];intro o5;rw[be (.inl o5)]at h4;omega
theorem On {re:Re}{c:Nat}{top:Int} (h:re.whole c top=true) (k:Nat):E8 (re.emit k []++[cq]) (2*c):=by
 have hP:tK (λi:ay=>i.op=4->0<=i.n/\i.n<((2*c:Nat):Int)) (X9 c):=by refine⟨λi x y h=>h,λx y h=>by simp [eT]at h,λx h=>by simp [lZ]at h,λre k _ _ h=>by simp [xQ]at h,λre k _ _ h=>by simp [oB]at h,λre h o=>?_⟩;unfold X9 at h;have:=of_decide_eq_true h o;exact⟨λ_=>⟨by simp only[jE];omega,by simp only[jE];omega⟩,λ_=>⟨by simp only[jE];omega,by simp only[jE];omega⟩⟩
 have hs:re.every (X9 c)=true:=iR (λr h=>WG h) re h;have ha:=Fm hP re hs k [] (λi hi=>by simp at hi);intro n hn ho;have hm:eV (re.emit k []++[cq]) n∈re.emit k []++[cq]:=by unfold eV;rw[af9,afP hn];exact List.getElem_mem hn
 rcases List.mem_append.1 hm with hm|hm
 ·exact ha _ hm ho
 ·rw[List.mem_singleton.1 hm]at ho;simp [cq]at ho
end Go.Proofs.Ytfmdmlfhigocaaa
