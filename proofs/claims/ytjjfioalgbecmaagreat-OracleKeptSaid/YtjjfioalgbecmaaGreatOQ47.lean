/- A part of the proof (O36 O37). -/
import Derived.Test.YtjjfioalgbecmaaGreatOQ41
set_option linter.unusedSimpArgs false
set_option linter.unusedVariables false
open Nat renaming reduceShiftRight → jN, reduceMod → oN, reduceEqDiff → oV, reduceBEq → pZ
set_option maxRecDepth 100000
set_option maxHeartbeats 80000000
namespace Go.Proofs.YtjjfioalgbecmaaGreat
open Go.VL
theorem abC (k g':Nat) (v:V) (t:List Int) (root parts:D) (bg nb:Nat):(⟨(dz t root parts bg nb).g,(dz t root parts bg nb).live,(dz t root parts bg nb).sz,(dz t root parts bg nb).au.map λc=>c.map (nZ k g' v)⟩:VL.Obj)=dz t root parts bg nb:=rfl
theorem We (k g':Nat) (v:V) (q:Nat) (l:List Nat):(⟨(bp q l).g,(bp q l).live,(bp q l).sz,(bp q l).au.map λc=>c.map (nZ k g' v)⟩:VL.Obj)=bp q l:=by unfold bp;simp only[akq];congr 1
theorem RD {α:Type} (a b:α) {N i:Nat} (h:i<N):(List.replicate i a++List.replicate (N-i) b).set i a=List.replicate (i+1) a++List.replicate (N-(i+1)) b:=by
 rw[akI _ _ ak];obtain⟨m,hm⟩:∃m,N-i=m+1:=⟨N-i-1,ae⟩
 rw[hm];simp only[akK,akQ,ale,aj9];have:N-(i+1)=m:=ae;rw[this,<- ale,List.replicate_succ',aj7];rfl
def dkO (g N:Nat):VL.Obj:=⟨0,false,1,[[.so 2 g 0 N]]⟩
def Zn (N:Nat):VL.Obj:=⟨0,false,1,List.replicate N [i64 (-1)]⟩
def OZ (N i:Nat):VL.Obj:=⟨0,true,1,List.replicate i [i64 (-1)]++List.replicate (N-i) [i64 0]⟩
def XP:Option jy->VL.Obj
 |none=>OE
 |some m=>UY m.s m.e (.d (cQ m.c))
theorem T6 {L:Nat}{e:VL.Env}{s:List VL.Obj}{gb:Nat}{B:List jC} (k:Nat) (ho:s[k]?=some (eV gb B)):bA L e s e (s.set k (eV gb [])):=by
 cases B with
 |nil =>
  have:s.set k (eV gb [])=s:=by
   apply List.ext_getElem?;intro j;by_cases hj:j=k
   ·subst hj;rw[List.getElem?_set_self (List.getElem?_eq_some_iff.1 ho).1,ho]
   ·rw[List.getElem?_set_ne (Ne.symm hj)]
  rw[this];exact bA.refl
 |cons x B =>
  refine bA.W4 (o:=eV gb (x::B)) k 0 ho (λes h=>?_);have h1:(eV gb (x::B)).au[0]?=some [.d (iD x.cI),.d (ao x.aF)]:=rfl;rw[h,fz,List.getElem?_map]at h1;obtain⟨y,_,h2⟩:=Option.map_eq_some_iff.1 h1;have h3:=congrArg (λl=>l[1]?) h2;simp [ao]at h3
theorem R0 (aZ:List Nat) (m:Option jy):di aZ (XP m)=XP m:=by
 cases m <;> rfl
theorem YE (n:Nat) (m:Option jy):aK n (XP m)=true:=by
 cases m <;> rfl
theorem SN (aZ:List Nat) (n:Nat):di aZ (Zn n)=Zn n:=by unfold di Zn;simp [cJ.go,cJ,i64]
theorem Ze (n N:Nat):aK n (Zn N)=true:=by unfold aK Zn;rw[aj3];intro e he;rw[(List.mem_replicate.1 he).2];rfl
section
variable (t:List Int) (root parts:D) (bg nb:Nat) (Bs:List (List Bool)) (g b a:Nat) (C:List aq) (q:Nat) (N:Nat)
def Y6 (st:fE) (gb:Nat) (B:List jC) (ig:Option jy):List VL.Obj :=
 [dz t root parts bg nb,fx bg Bs,cN g b a C,bp q st.ad,dkO g C.length,dh 3 q C.length,OE,Zn N,dh 11 st.gn st.rd.length,Rt st.cl,rn g C.length 9 5 8 10,eV st.gn st.rd,XP ig,eV gb B]
def AG (st:fE) (gn:Nat) (rd:List jC) (ig:Option jy):List VL.Obj :=
 [dz t root parts bg nb,fx bg Bs,cN g b a C,bp q st.ad,dkO g C.length,dh 3 q C.length,OE,Zn N,dh 13 st.gn st.rd.length,Rt st.cl,rn g C.length 9 5 8 10,eV gn rd,XP ig,eV st.gn st.rd]
theorem zB (st:fE) (gn:Nat) (rd:List jC) (ig:Option jy):(AG t root parts bg nb Bs g b a C q N st gn rd ig).all (aK 14)=true:=by have:=gu 14 bg Bs;simp only[AG,aks,akB,kv 14 _ _ _ ae,nq,tR,YE,Ze,aj4];simp [aK,dz,dh,Rt,rn,dkO,OE,aj,aj.go,bV,i64,this]
theorem Od (st:fE) (gn:Nat) (rd:List jC) (ig:Option jy):kx [0,1,2,3,4,5,6,7,8,9,10,13,12,11] (AG t root parts bg nb Bs g b a C q N st gn rd ig)=Y6 t root parts bg nb Bs g b a C q N st gn rd ig:=by unfold AG Y6;simp only[kx,ajR,ajV,akM,akN,ju,qo,Nb,R0,SN,lU _ (rfl:List.idxOf? 0 [0,1,2,3,4,5,6,7,8,9,10,13,12,11]=some 0)];rfl
end
section
variable (t:List Int) (root parts:D) (bg nb:Nat) (Bs:List (List Bool)) (g b a:Nat) (C:List aq) (q:Nat)
theorem PT (hg:nj t Bs C) (c:Nat) (Rj:He C (2*c)) (hc:c<=1000) (nD:nb=Bs.length) (ht:t.length<=1000000) (hC:0<C.length) (p:Nat) (hp:p<=t.length) (ad:List Nat) (UN:ad.length=C.length) :
  ar Tryz.prog 31 [.rf 0 0 0 0,.so 2 g 0 C.length,.so 3 q 0 C.length,i64 p,i64 c] [dz t root parts bg nb,fx bg Bs,cN g b a C,bp q ad] λv s =>
   v=.tu [(Tx (fL t Bs C p c).1).v,bV (fL t Bs C p c).1.isSome]/\s=[dz t root parts bg nb,fx bg Bs,cN g b a C,bp q (fL t Bs C p c).2]:=by
 obtain⟨R,hR⟩:∃R,R=fL t Bs C p c:=⟨_,rfl⟩
 rw[<- hR];have XR:=hg.len;have wc:IntKind.i64.wrap (2*(c:Int))=((2*c:Nat):Int):=by rw[bG _ ae];omega
 have e1:∀q l,(bp q l).g=q:=λ_ _=>rfl;have e2:∀q l,(bp q l).sz=1:=λ_ _=>rfl;have e3:∀q l,(bp q l).au.length=l.length:=λ_ _=>by simp [bp]
 refine bo Tryz.func31 Tryz.ntmps31 Tryz.results31 4 16140901065307454686 ?_;simp only[zQ,simprocAttr,wc,e1,e2,e3,UN,nr,ajT,ajM];refine⟨⟨rfl,ajZ _⟩,⟨akc _,ae,ae⟩,?_⟩;obtain⟨N,hN⟩:∃N,N=2*c:=⟨_,rfl⟩
 rw[<- hN]at Rj ⊢;refine aw (λn e s=>∃i:Nat,n=N-i/\i<=N/\e 3=i64 p/\e 6=.bx (.so 2 g 0 C.length)/\e 7=.rf 5 0 0 0/\e 10=.rf 6 0 0 0/\e 12=.so 7 0 0 N/\e 28=i64 N/\e 29=i64 i/\s=[dz t root parts bg nb,fx bg Bs,cN g b a C,bp q (List.replicate C.length 0),dkO g C.length,dh 3 q C.length,OE,OZ N i])
  ⟨_,_,_,.K4 (bW.bx 4 rfl rfl rfl),0,rfl,ae,rfl,rfl,rfl,rfl,rfl,rfl,rfl,?_⟩ ?_
 ·simp only[Ng,ck,List.getElem?_cons_succ,List.getElem?_cons_zero,akf,aj9,ajR,ajV,O8,RA,abC,We];have q1:List.map (λc=>List.map (nZ 4 0 (V.so 2 g 0 C.length)) c) (iG (bp q ad).au 0 (List.replicate C.length [V.d (D.sc (Value.int IntKind.i64 0))]))=(bp q (List.replicate C.length 0)).au:=by simp [bp,iG,UN,nZ,i64]
  have q2:List.map (λc=>List.map (nZ 4 0 (V.so 2 g 0 C.length)) c) (List.replicate N [V.d (D.sc (Value.int IntKind.i64 0))])=List.replicate N [V.d (D.sc (Value.int IntKind.i64 0))]:=by simp [nZ]
  rw[q1,q2];rfl
 rintro n e s ⟨i,rfl,hi,h3,h6,h7,cA,dV,h28,h29,rfl⟩;rcases akd i N with az|gx
 ·have aA:(i:Int)<N:=by omega
  have dO:(List.replicate i [V.d (.sc (.int .i64 (-1)))]++List.replicate (N-i) [V.d (.sc (.int .i64 0))])[i]?=some [V.d (.sc (.int .i64 0))]:=by rw[List.getElem?_append_right ak];simp [List.getElem?_replicate];omega
  simp only[zQ,simprocAttr,h3,h6,h7,cA,dV,h28,h29,aA,OZ,dO,ajT];refine⟨N-(i+1),_,_,ae,bA.refl,i+1,rfl,az,?_,?_,?_,?_,?_,?_,?_,?_⟩ <;> (try simp only[zU,pZ,jN,oN,oV,reduceIte])
  ·exact h3
  ·exact h6
  ·exact h7
  ·exact cA
  ·exact dV
  ·exact h28
  ·rw[bG _ ae];rfl
  ·rw[<- RD _ _ az]
 ·have dX:i=N:=by omega
  subst dX;have aA:¬(i:Int)<i:=ae;simp only[zQ,simprocAttr,h3,h6,h7,cA,dV,h28,h29,aA];have aa5:OZ i i=⟨0,true,1,List.replicate i [i64 (-1)]⟩:=by simp [OZ]
  have Dg:vK C c ⟨List.replicate C.length 0,false,[],0⟩:=⟨ak,ak,ak⟩
  have Sn:l8 C p ⟨List.replicate C.length 0,false,[],0⟩:=by have:jd p (List.replicate C.length 0)<=(List.replicate C.length 0).length:=akP;unfold l8;simp only[akK,ajX]at *;omega
  have QF:(lI c).length=2*c:=by simp [lI]
  obtain⟨WX,Xg⟩:=zH (t:=t) (Bs:=Bs) (p:=p) (k:=C.length+1) (n:=0) Dg Sn QF;have zr:=yJ t root parts bg nb Bs g b a C q p i hg Rj ae nD ht hp C.length;have bH:gU t Bs C p (C.length+1) 0 (lI c) ⟨List.replicate C.length 0,false,[],0⟩=mJ t Bs C p c:=rfl;rw[bH]at WX Xg;have Zc:R=mm t Bs C p c (t.length+2-p) p (mJ t Bs C p c) 0 none:=hR;have Sd:=λ(s:List VL.Obj) (K:V->List VL.Obj->Prop)=>zb (s:=s) (K:=K) zr (n:=0) (rg:=lI c) (st:=⟨List.replicate C.length 0,false,[],0⟩) hC ae ak (by simp only;have:jd p (List.replicate C.length 0)<=(List.replicate C.length 0).length:=akP;simpa using this) Sn 5 9 8 11 10 aU;generalize mJ t Bs C p c=S at *;rw[aa5];refine Cu (y:=.d (ao (lI c))) [7] 2 rfl ?_ ?_
  ·simp only[br,ck,List.getElem?_cons_succ,List.getElem?_cons_zero,akf,aj9,ajW,ajX];rw[lh (ds:=(lI c).map λx=>[iD x]) cB ?_ ?_ (.inr rfl)]
   ·rw[akJ,akb ak];simp [lI,iD,hN,i64]
   ·simp
  simp only[br,ck,List.getElem?_cons_succ,List.getElem?_cons_zero,akf,aj9];refine Tl (pre:=[]) (post:=[]) 8 2 rfl rfl rfl ?_;simp only[akf,aj9,ajN,ajO,ajW,ajX,ajT,Nat.reduceAdd];refine Sd _ _ rfl rfl rfl rfl rfl rfl rfl rfl rfl bH.symm ?_;simp only[akf,aj9];simp only[zQ,simprocAttr,h3,h6,h7,cA,dV,h28,h29];have h3':=h3;have h6':=h6;have h7':=h7;have afx:=cA;clear h3 h6 h7 cA dV h28 h29 Sd zr bH Dg Sn aA;have t1:∀q l,(eV q l).g=q:=λ_ _=>rfl;have t2:∀q l,(eV q l).sz=2:=λ_ _=>rfl;have t3:∀q l,(eV q l).au.length=l.length:=λ_ _=>by simp [eV]
  refine aw (λn e s=>∃(p':Nat) (st:fE) (gb:Nat) (B:List jC) (ig:Option jy),n+p'=t.length+2/\vK C c st/\l8 C p' st/\(st.rd≠[]->p'<=t.length)/\mm t Bs C p c n p' st gb ig=R /\
   e 3=i64 p/\e 6=.bx (.so 2 g 0 C.length)/\e 7=.rf 5 0 0 0/\e 10=.rf 6 0 0 0/\e 14=.rf 8 0 0 0/\e 15=.so 13 gb 0 B.length/\e 16=.rf 9 0 0 0/\e 17=.rf 10 0 0 0/\e 18=.rf 12 0 0 0/\e 19=bV ig.isSome/\e 20=i64 p'/\s=Y6 t root parts bg nb Bs g b a C q i st gb B ig) ?_ ?_
  ·refine⟨_,_,_,.K4 (fW 15 2 rfl),p,S,0,[],none,ae,WX,Xg,λ_=>hp,Zc.symm,?_,?_,?_,?_,?_,?_,?_,?_,?_,?_,?_,?_⟩ <;> (try simp only[zU,pZ,jN,oN,oV,reduceIte])
   all_goals first|exact h3'|exact h6'|exact h7'|exact afx|rfl
  rintro n e s ⟨p',st,gb,B,ig,UT,hinv,aaA,hp',hL,h3,h6,h7,cA,dA,ji,ka,ql,kH,lk,nI,rfl⟩;by_cases U3:st.rd=[]
  ·have hz:(st.rd.length:Int)=0:=by rw[U3];rfl
   have XN:=eq_true hz;have ZR:R=(ig,st.ad):=by
    rw[<- hL];cases n with
    |zero=>rfl
    |succ k=>rw[mm,be U3]
   rw[ZR];have a1:((dz t root parts bg nb).au.all λe=>e.all (aj 4))=true:=rfl;have a2:((fx bg Bs).au.all λe=>e.all (aj 4))=true:=gu 4 bg Bs;have a3:((cN g b a C).au.all λe=>e.all (aj 4))=true:=kv 4 g b a ae C;have a4:((bp q st.ad).au.all λe=>e.all (aj 4))=true:=nq 4 q st.ad;cases ig with
   |none =>
    simp only[zQ,simprocAttr,h3,h6,h7,cA,dA,ji,ka,ql,kH,lk,nI,Y6,dh,Rt,t1,hz,aku,gt_iff_lt,XP,OE,UY,a1,a2,a3,a4,aj4];rfl
   |some m =>
    simp only[zQ,simprocAttr,h3,h6,h7,cA,dA,ji,ka,ql,kH,lk,nI,Y6,dh,Rt,t1,hz,aku,gt_iff_lt,XP,OE,UY,a1,a2,a3,a4,aj4];rfl
  obtain⟨k,rfl⟩:∃k,n=k+1:=⟨n-1,by have:=hp' U3;omega⟩
  have hpt:=hp' U3;have gp:(0:Int)<(st.rd.length:Int):=by have:=List.length_pos_iff.2 U3;omega
  rw[mm,ap U3]at hL;have hrl:st.rd.length<=C.length:=by have:=aaA;unfold l8 at this;omega
  have XC:vK C c ⟨st.ad,false,[],gb⟩:=⟨hinv.ad,ak,ak⟩
  have XB:l8 C (p'+1) ⟨st.ad,false,[],gb⟩:=by have:jd (p'+1) st.ad<=st.ad.length:=akP;have:=hinv.ad;unfold l8;simp only[ajX];omega
  cases ia:st.cl with
  |true =>
   obtain⟨x0,Mo⟩:∃x0,st.rd[st.rd.length-1]?=some x0:=cc;have adE:=hinv.th x0 (List.mem_of_getElem? Mo);have abV:st.rd.getLastD ⟨0,[]⟩=x0:=by rw[List.getLastD_eq_getLast?,List.getLast?_eq_getElem?,Mo];rfl
   have yG:tN p p' c st ig=some ⟨p,p',Ny c x0.aF⟩:=by unfold tN;rw[be ia,abV]
   rw[yG]at hL;have w1:IntKind.i64.wrap ((st.rd.length:Int)-1)=((st.rd.length-1:Nat):Int):=by rw[bG _ (by have:=aaA;unfold l8 at this;omega)];omega
   have b1:((st.rd.length-1:Nat):Int)<(st.rd.length:Int):=ae;have b0:(0:Int)<=((st.rd.length-1:Nat):Int):=ae;have abt:(eV st.gn st.rd).au[st.rd.length-1]?=some [V.d (iD x0.cI),V.d (ao x0.aF)]:=by simp [eV,Mo,jC.cells]
   have hma:=Ps c hc p p' x0.aF adE.1;simp only[i64]at hma;simp only[zQ,simprocAttr,h3,h6,h7,cA,dA,ji,ka,ql,kH,lk,nI,Y6,dh,Rt,t1,t2,t3,gp,gt_iff_lt,ia,w1,b0,b1,abt,ajT,ajP];refine dY hma ?_;obtain⟨va,vb,vc,VE⟩:∃va vb vc,XP ig=⟨0,true,3,[[va,vb,vc]]⟩:=by cases ig <;> exact⟨_,_,_,rfl⟩
   rw[VE];simp only[zQ,simprocAttr,h3,h6,h7,cA,dA,ji,ka,ql,kH,lk,nI,t1,t2,t3,gp,gt_iff_lt,ajT,jy.v];refine cu mix [3,4,5] [] ?_;simp only[zQ,simprocAttr,h3,h6,h7,cA,dA,ji,ka,ql,kH,lk,nI,ajT,gt_iff_lt,gp,t1,t2,t3,ajZ,alf,and_self,true_and,akc,akX];refine aw (λn e s=>∃m:Nat,n=st.rd.length-m/\m<=st.rd.length/\e 3=i64 p/\e 6=.bx (.so 2 g 0 C.length)/\e 7=.rf 5 0 0 0/\e 10=.rf 6 0 0 0/\e 14=.rf 8 0 0 0/\e 15=.so 11 st.gn 0 st.rd.length/\e 16=.rf 9 0 0 0/\e 17=.rf 10 0 0 0/\e 18=.rf 12 0 0 0/\e 19=bV ((some (jy.mk p p' (Ny c x0.aF)))).isSome/\e 20=i64 p'/\e 61=.so 11 st.gn 0 st.rd.length/\e 62=i64 st.rd.length/\e 63=i64 m/\s=AG t root parts bg nb Bs g b a C q i (jj t Bs C p' (st.rd.take m) ⟨st.ad,false,[],gb⟩) st.gn st.rd (some (jy.mk p p' (Ny c x0.aF)))) ?_ ?_
   ·refine⟨_,_,_,T6 13 rfl,0,rfl,ae,?_,?_,?_,?_,?_,?_,?_,?_,?_,?_,?_,?_,?_,?_,?_⟩ <;> (try simp only[zU,pZ,jN,oN,oV,reduceIte])
    all_goals first|exact h3|exact h6|exact h7|exact cA|exact dA|exact ka|exact ql|exact kH|exact lk|exact nI|rfl
   clear h3 h6 h7 cA dA ji ka ql kH lk nI;rintro n e s ⟨m,rfl,hm,h3,h6,h7,cA,dA,ji,ka,ql,kH,lk,nI,vB,vW,EN,rfl⟩;have hX:=rH (t:=t) (Bs:=Bs) (p:=p') (st.rd.take m) ⟨st.ad,false,[],gb⟩ (λx hx=>hinv.th x (akv hx)) XC XB;rcases akd m st.rd.length with az|gx
   ·have aA:(m:Int)<(st.rd.length:Int):=by omega
    have EP:(0:Int)<=(m:Int):=ae;obtain⟨x,hx⟩:∃x,st.rd[m]?=some x:=cc az;have AY:=hinv.th x (List.mem_of_getElem? hx);have hn:=AY.2.1;have iQ:(x.cI:Int)<(C.length:Int):=ae;have zM:(0:Int)<=(x.cI:Int):=ae;obtain⟨ins,hi⟩:∃ins,C[x.cI]?=some ins:=cc hn;have kS:e9 C x.cI=ins:=by unfold e9;rw[List.getD_eq_getElem?_getD,hi];rfl
    have dO:(eV st.gn st.rd).au[m]?=some [V.d (D.sc (.int .i64 x.cI)),V.d (ao x.aF)]:=by simp [eV,hx,jC.cells,iD]
    have jz:jj t Bs C p' (st.rd.take (m+1)) ⟨st.ad,false,[],gb⟩=jg t Bs C p' (jj t Bs C p' (st.rd.take m) ⟨st.ad,false,[],gb⟩) x:=by rw[bm hx,Dm]
    generalize jj t Bs C p' (st.rd.take m) ⟨st.ad,false,[],gb⟩=X at *;by_cases o1:ins.op=1
    ·obtain⟨V9,ai,mj,wJ,nO,sI⟩:=qv t root parts bg nb Bs b a C hg nD ht hn (.inl (by rw[kS];exact o1)) p' hpt;have T8:=H7 (t:=t) (Bs:=Bs) (p:=p') hg hn (by rw[kS];exact o1);have Xz:=hg.next x.cI hn (.inl (by rw[kS];exact o1));have hF:jg t Bs C p' X x=if ins.pass t Bs p'=true then gU t Bs C (p'+1) (C.length+1) (x.cI+1) x.aF X else X:=by unfold jg;rw[kS];simp [o1]
     rw[hF]at jz;rw[kS]at mj sI T8;have w1:IntKind.i64.wrap ((x.cI:Int)+1)=((x.cI+1:Nat):Int):=by rw[bG _ ae];rfl
     have w2:IntKind.i64.wrap ((p':Int)+1)=((p'+1:Nat):Int):=by rw[bG _ ae];rfl
     generalize ins.pass t Bs p'=y at *;cases y with
     |true =>
      have Ur:=yJ t root parts bg nb Bs g b a C q (p'+1) i hg Rj ae nD ht (T8 rfl) C.length;have hcN:jd (p'+1) X.ad<=X.ad.length:=akP;have hXa:=hX.1.ad;have hXc:=hX.2;unfold l8 at hXc;rw[be rfl]at jz;have xu:=λ(s:List VL.Obj) (K:V->List VL.Obj->Prop)=>zb (s:=s) (K:=K) Ur (n:=x.cI+1) (rg:=x.aF) (st:=X) Xz (by rw[AY.1,hN]) hXa ae hXc 5 9 8 13 10 aU;simp only[zQ,simprocAttr,h3,h6,h7,cA,dA,ji,ka,ql,kH,lk,nI,vB,vW,EN,AG,rn,cN,aq.cells,b6,aO,t1,t2,t3,List.getElem?_map,ajM,hi,ajS,iQ,zM,EP,aA,dO,ajT,ajP,o1,mj];refine dU t root parts bg nb Bs sI ?_ ?_ rfl rfl rfl ?_
      ·simp [aE,i64,nO]
      ·simp [aj,aj.go,i64,wJ]
      simp only[zQ,simprocAttr,h3,h6,h7,cA,dA,ji,ka,ql,kH,lk,nI,vB,vW,EN,AG,rn,cN,aq.cells,b6,aO,t1,t2,t3,List.getElem?_map,ajM,hi,ajS,iQ,zM,EP,aA,dO,ajT,ajP,o1,mj,w1,w2];refine xu _ _ rfl rfl rfl rfl rfl rfl rfl rfl rfl rfl ?_;simp only[akf,aj9];simp only[zQ,simprocAttr,h3,h6,h7,cA,dA,ji,ka,ql,kH,lk,nI,vB,vW,EN,AG,rn,cN,aq.cells,b6,aO,t1,t2,t3,List.getElem?_map,ajM,hi,ajS,iQ,zM,EP,aA,dO,ajT,ajP,o1,mj,w1,w2];refine⟨st.rd.length-(m+1),_,_,ae,bA.cut (s':=AG t root parts bg nb Bs g b a C q i (gU t Bs C (p'+1) (C.length+1) (x.cI+1) x.aF X) st.gn st.rd (some (jy.mk p p' (Ny c x0.aF)))) 14 ae rfl (zB t root parts bg nb Bs g b a C q i _ _ _ _) [3,6,7,10,14,15,16,17,18,19,20,61,62,63] (by simp [bK,aS,aj,aj.go,h3,h6,h7,cA,dA,ji,ka,ql,kH,lk,nI,vB,vW,EN,i64,bV]),m+1,rfl,az,?_,?_,?_,?_,?_,?_,?_,?_,?_,?_,?_,?_,?_,?_,by rw[jz];rfl⟩ <;> (try simp only[zU,pZ,jN,oN,oV,reduceIte])
      ·exact h3
      ·exact h6
      ·exact h7
      ·exact cA
      ·exact dA
      ·exact ji
      ·exact ka
      ·exact ql
      ·exact kH
      ·exact lk
      ·exact nI
      ·exact vB
      ·exact vW
      ·rw[bG _ ae];rfl
     |false =>
      rw[ap ak]at jz;simp only[zQ,simprocAttr,h3,h6,h7,cA,dA,ji,ka,ql,kH,lk,nI,vB,vW,EN,AG,rn,cN,aq.cells,b6,aO,t1,t2,t3,List.getElem?_map,ajM,hi,ajS,iQ,zM,EP,aA,dO,ajT,ajP,o1,mj];refine dU t root parts bg nb Bs sI ?_ ?_ rfl rfl rfl ?_
      ·simp [aE,i64,nO]
      ·simp [aj,aj.go,i64,wJ]
      simp only[zQ,simprocAttr,h3,h6,h7,cA,dA,ji,ka,ql,kH,lk,nI,vB,vW,EN,AG,rn,cN,aq.cells,b6,aO,t1,t2,t3,List.getElem?_map,ajM,hi,ajS,iQ,zM,EP,aA,dO,ajT,ajP,o1,mj,w1,w2];refine⟨st.rd.length-(m+1),_,_,ae,bA.cut (s':=AG t root parts bg nb Bs g b a C q i (X) st.gn st.rd (some (jy.mk p p' (Ny c x0.aF)))) 14 ae rfl (zB t root parts bg nb Bs g b a C q i _ _ _ _) [3,6,7,10,14,15,16,17,18,19,20,61,62,63] (by simp [bK,aS,aj,aj.go,h3,h6,h7,cA,dA,ji,ka,ql,kH,lk,nI,vB,vW,EN,i64,bV]),m+1,rfl,az,?_,?_,?_,?_,?_,?_,?_,?_,?_,?_,?_,?_,?_,?_,by rw[jz];rfl⟩ <;> (try simp only[zU,pZ,jN,oN,oV,reduceIte])
      ·exact h3
      ·exact h6
      ·exact h7
      ·exact cA
      ·exact dA
      ·exact ji
      ·exact ka
      ·exact ql
      ·exact kH
      ·exact lk
      ·exact nI
      ·exact vB
      ·exact vW
      ·rw[bG _ ae];rfl
    ·have hF:jg t Bs C p' X x=X:=by unfold jg;rw[kS];simp [o1]
     rw[hF]at jz;simp only[zQ,simprocAttr,h3,h6,h7,cA,dA,ji,ka,ql,kH,lk,nI,vB,vW,EN,AG,rn,cN,aq.cells,b6,aO,t1,t2,t3,List.getElem?_map,ajM,hi,ajS,iQ,zM,EP,aA,dO,ajT,ajP,o1];refine⟨st.rd.length-(m+1),_,_,ae,bA.cut (s':=AG t root parts bg nb Bs g b a C q i (X) st.gn st.rd (some (jy.mk p p' (Ny c x0.aF)))) 14 ae rfl (zB t root parts bg nb Bs g b a C q i _ _ _ _) [3,6,7,10,14,15,16,17,18,19,20,61,62,63] (by simp [bK,aS,aj,aj.go,h3,h6,h7,cA,dA,ji,ka,ql,kH,lk,nI,vB,vW,EN,i64,bV]),m+1,rfl,az,?_,?_,?_,?_,?_,?_,?_,?_,?_,?_,?_,?_,?_,?_,by rw[jz];rfl⟩ <;> (try simp only[zU,pZ,jN,oN,oV,reduceIte])
     ·exact h3
     ·exact h6
     ·exact h7
     ·exact cA
     ·exact dA
     ·exact ji
     ·exact ka
     ·exact ql
     ·exact kH
     ·exact lk
     ·exact nI
     ·exact vB
     ·exact vW
     ·rw[bG _ ae];rfl
   ·have TF:m=st.rd.length:=by omega
    subst TF;rw[akg]at *;have aA:¬(st.rd.length:Int)<(st.rd.length:Int):=ae;have IK:(jj t Bs C p' st.rd ⟨st.ad,false,[],gb⟩).rd≠[]->p'+1<=t.length:=by intro h;refine Decidable.byContradiction λhc=>h ?_;rw[Af hg (c:=c) ae st.rd _ hinv.th]
    generalize jj t Bs C p' st.rd ⟨st.ad,false,[],gb⟩=X at *;simp only[zQ,simprocAttr,h3,h6,h7,cA,dA,ji,ka,ql,kH,lk,nI,vB,vW,EN,AG,aA,aku];refine⟨k,_,_,Nat.lt_succ_self k,bA.Dv [0,1,2,3,4,5,6,7,8,9,10,13,12,11] [3,6,7,10,14,15,16,17,18,19,20] cB,p'+1,X,st.gn,st.rd,(some (jy.mk p p' (Ny c x0.aF))),ae,hX.1,hX.2,IK,hL,?_,?_,?_,?_,?_,?_,?_,?_,?_,?_,?_,Od t root parts bg nb Bs g b a C q i X st.gn st.rd (some (jy.mk p p' (Ny c x0.aF)))⟩;all_goals
     rw[xQ,be cB];try simp only[zU,pZ,jN,oN,oV,reduceIte]
    ·rw[h3];rfl
    ·rw[h6];rfl
    ·rw[h7];rfl
    ·rw[cA];rfl
    ·rw[dA];rfl
    ·rw[ji];rfl
    ·rw[ka];rfl
    ·rw[ql];rfl
    ·rw[kH];rfl
    ·rw[lk];rfl
    ·rw[bG _ ae];rfl
  |false =>
   have yG:tN p p' c st ig=ig:=by unfold tN;rw[ap (by rw[ia];simp)]
   rw[yG]at hL;simp only[zQ,simprocAttr,h3,h6,h7,cA,dA,ji,ka,ql,kH,lk,nI,Y6,dh,Rt,t1,t2,t3,gp,gt_iff_lt,ia];refine cu mix [3,4,5] [] ?_;simp only[zQ,simprocAttr,h3,h6,h7,cA,dA,ji,ka,ql,kH,lk,nI,ajT,gt_iff_lt,gp,t1,t2,t3,ajZ,alf,and_self,true_and,akc,akX];refine aw (λn e s=>∃m:Nat,n=st.rd.length-m/\m<=st.rd.length/\e 3=i64 p/\e 6=.bx (.so 2 g 0 C.length)/\e 7=.rf 5 0 0 0/\e 10=.rf 6 0 0 0/\e 14=.rf 8 0 0 0/\e 15=.so 11 st.gn 0 st.rd.length/\e 16=.rf 9 0 0 0/\e 17=.rf 10 0 0 0/\e 18=.rf 12 0 0 0/\e 19=bV (ig).isSome/\e 20=i64 p'/\e 61=.so 11 st.gn 0 st.rd.length/\e 62=i64 st.rd.length/\e 63=i64 m/\s=AG t root parts bg nb Bs g b a C q i (jj t Bs C p' (st.rd.take m) ⟨st.ad,false,[],gb⟩) st.gn st.rd ig) ?_ ?_
   ·refine⟨_,_,_,T6 13 rfl,0,rfl,ae,?_,?_,?_,?_,?_,?_,?_,?_,?_,?_,?_,?_,?_,?_,?_⟩ <;> (try simp only[zU,pZ,jN,oN,oV,reduceIte])
    all_goals first|exact h3|exact h6|exact h7|exact cA|exact dA|exact ka|exact ql|exact kH|exact lk|exact nI|rfl
   clear h3 h6 h7 cA dA ji ka ql kH lk nI;rintro n e s ⟨m,rfl,hm,h3,h6,h7,cA,dA,ji,ka,ql,kH,lk,nI,vB,vW,EN,rfl⟩;have hX:=rH (t:=t) (Bs:=Bs) (p:=p') (st.rd.take m) ⟨st.ad,false,[],gb⟩ (λx hx=>hinv.th x (akv hx)) XC XB;rcases akd m st.rd.length with az|gx
   ·have aA:(m:Int)<(st.rd.length:Int):=by omega
    have EP:(0:Int)<=(m:Int):=ae;obtain⟨x,hx⟩:∃x,st.rd[m]?=some x:=cc az;have AY:=hinv.th x (List.mem_of_getElem? hx);have hn:=AY.2.1;have iQ:(x.cI:Int)<(C.length:Int):=ae;have zM:(0:Int)<=(x.cI:Int):=ae;obtain⟨ins,hi⟩:∃ins,C[x.cI]?=some ins:=cc hn;have kS:e9 C x.cI=ins:=by unfold e9;rw[List.getD_eq_getElem?_getD,hi];rfl
    have dO:(eV st.gn st.rd).au[m]?=some [V.d (D.sc (.int .i64 x.cI)),V.d (ao x.aF)]:=by simp [eV,hx,jC.cells,iD]
    have jz:jj t Bs C p' (st.rd.take (m+1)) ⟨st.ad,false,[],gb⟩=jg t Bs C p' (jj t Bs C p' (st.rd.take m) ⟨st.ad,false,[],gb⟩) x:=by rw[bm hx,Dm]
    generalize jj t Bs C p' (st.rd.take m) ⟨st.ad,false,[],gb⟩=X at *;by_cases o1:ins.op=1
    ·obtain⟨V9,ai,mj,wJ,nO,sI⟩:=qv t root parts bg nb Bs b a C hg nD ht hn (.inl (by rw[kS];exact o1)) p' hpt;have T8:=H7 (t:=t) (Bs:=Bs) (p:=p') hg hn (by rw[kS];exact o1);have Xz:=hg.next x.cI hn (.inl (by rw[kS];exact o1));have hF:jg t Bs C p' X x=if ins.pass t Bs p'=true then gU t Bs C (p'+1) (C.length+1) (x.cI+1) x.aF X else X:=by unfold jg;rw[kS];simp [o1]
     rw[hF]at jz;rw[kS]at mj sI T8;have w1:IntKind.i64.wrap ((x.cI:Int)+1)=((x.cI+1:Nat):Int):=by rw[bG _ ae];rfl
     have w2:IntKind.i64.wrap ((p':Int)+1)=((p'+1:Nat):Int):=by rw[bG _ ae];rfl
     generalize ins.pass t Bs p'=y at *;cases y with
     |true =>
      have Ur:=yJ t root parts bg nb Bs g b a C q (p'+1) i hg Rj ae nD ht (T8 rfl) C.length;have hcN:jd (p'+1) X.ad<=X.ad.length:=akP;have hXa:=hX.1.ad;have hXc:=hX.2;unfold l8 at hXc;rw[be rfl]at jz;have xu:=λ(s:List VL.Obj) (K:V->List VL.Obj->Prop)=>zb (s:=s) (K:=K) Ur (n:=x.cI+1) (rg:=x.aF) (st:=X) Xz (by rw[AY.1,hN]) hXa ae hXc 5 9 8 13 10 aU;simp only[zQ,simprocAttr,h3,h6,h7,cA,dA,ji,ka,ql,kH,lk,nI,vB,vW,EN,AG,rn,cN,aq.cells,b6,aO,t1,t2,t3,List.getElem?_map,ajM,hi,ajS,iQ,zM,EP,aA,dO,ajT,ajP,o1,mj];refine dU t root parts bg nb Bs sI ?_ ?_ rfl rfl rfl ?_
      ·simp [aE,i64,nO]
      ·simp [aj,aj.go,i64,wJ]
      simp only[zQ,simprocAttr,h3,h6,h7,cA,dA,ji,ka,ql,kH,lk,nI,vB,vW,EN,AG,rn,cN,aq.cells,b6,aO,t1,t2,t3,List.getElem?_map,ajM,hi,ajS,iQ,zM,EP,aA,dO,ajT,ajP,o1,mj,w1,w2];refine xu _ _ rfl rfl rfl rfl rfl rfl rfl rfl rfl rfl ?_;simp only[akf,aj9];simp only[zQ,simprocAttr,h3,h6,h7,cA,dA,ji,ka,ql,kH,lk,nI,vB,vW,EN,AG,rn,cN,aq.cells,b6,aO,t1,t2,t3,List.getElem?_map,ajM,hi,ajS,iQ,zM,EP,aA,dO,ajT,ajP,o1,mj,w1,w2];refine⟨st.rd.length-(m+1),_,_,ae,bA.cut (s':=AG t root parts bg nb Bs g b a C q i (gU t Bs C (p'+1) (C.length+1) (x.cI+1) x.aF X) st.gn st.rd ig) 14 ae rfl (zB t root parts bg nb Bs g b a C q i _ _ _ _) [3,6,7,10,14,15,16,17,18,19,20,61,62,63] (by simp [bK,aS,aj,aj.go,h3,h6,h7,cA,dA,ji,ka,ql,kH,lk,nI,vB,vW,EN,i64,bV]),m+1,rfl,az,?_,?_,?_,?_,?_,?_,?_,?_,?_,?_,?_,?_,?_,?_,by rw[jz];rfl⟩ <;> (try simp only[zU,pZ,jN,oN,oV,reduceIte])
      ·exact h3
      ·exact h6
      ·exact h7
      ·exact cA
      ·exact dA
      ·exact ji
      ·exact ka
      ·exact ql
      ·exact kH
      ·exact lk
      ·exact nI
      ·exact vB
      ·exact vW
      ·rw[bG _ ae];rfl
     |false =>
      rw[ap ak]at jz;simp only[zQ,simprocAttr,h3,h6,h7,cA,dA,ji,ka,ql,kH,lk,nI,vB,vW,EN,AG,rn,cN,aq.cells,b6,aO,t1,t2,t3,List.getElem?_map,ajM,hi,ajS,iQ,zM,EP,aA,dO,ajT,ajP,o1,mj];refine dU t root parts bg nb Bs sI ?_ ?_ rfl rfl rfl ?_
      ·simp [aE,i64,nO]
      ·simp [aj,aj.go,i64,wJ]
      simp only[zQ,simprocAttr,h3,h6,h7,cA,dA,ji,ka,ql,kH,lk,nI,vB,vW,EN,AG,rn,cN,aq.cells,b6,aO,t1,t2,t3,List.getElem?_map,ajM,hi,ajS,iQ,zM,EP,aA,dO,ajT,ajP,o1,mj,w1,w2];refine⟨st.rd.length-(m+1),_,_,ae,bA.cut (s':=AG t root parts bg nb Bs g b a C q i (X) st.gn st.rd ig) 14 ae rfl (zB t root parts bg nb Bs g b a C q i _ _ _ _) [3,6,7,10,14,15,16,17,18,19,20,61,62,63] (by simp [bK,aS,aj,aj.go,h3,h6,h7,cA,dA,ji,ka,ql,kH,lk,nI,vB,vW,EN,i64,bV]),m+1,rfl,az,?_,?_,?_,?_,?_,?_,?_,?_,?_,?_,?_,?_,?_,?_,by rw[jz];rfl⟩ <;> (try simp only[zU,pZ,jN,oN,oV,reduceIte])
      ·exact h3
      ·exact h6
      ·exact h7
      ·exact cA
      ·exact dA
      ·exact ji
      ·exact ka
      ·exact ql
      ·exact kH
      ·exact lk
      ·exact nI
      ·exact vB
      ·exact vW
      ·rw[bG _ ae];rfl
    ·have hF:jg t Bs C p' X x=X:=by unfold jg;rw[kS];simp [o1]
     rw[hF]at jz;simp only[zQ,simprocAttr,h3,h6,h7,cA,dA,ji,ka,ql,kH,lk,nI,vB,vW,EN,AG,rn,cN,aq.cells,b6,aO,t1,t2,t3,List.getElem?_map,ajM,hi,ajS,iQ,zM,EP,aA,dO,ajT,ajP,o1];refine⟨st.rd.length-(m+1),_,_,ae,bA.cut (s':=AG t root parts bg nb Bs g b a C q i (X) st.gn st.rd ig) 14 ae rfl (zB t root parts bg nb Bs g b a C q i _ _ _ _) [3,6,7,10,14,15,16,17,18,19,20,61,62,63] (by simp [bK,aS,aj,aj.go,h3,h6,h7,cA,dA,ji,ka,ql,kH,lk,nI,vB,vW,EN,i64,bV]),m+1,rfl,az,?_,?_,?_,?_,?_,?_,?_,?_,?_,?_,?_,?_,?_,?_,by rw[jz];rfl⟩ <;> (try simp only[zU,pZ,jN,oN,oV,reduceIte])
     ·exact h3
     ·exact h6
     ·exact h7
     ·exact cA
     ·exact dA
     ·exact ji
     ·exact ka
     ·exact ql
     ·exact kH
     ·exact lk
     ·exact nI
     ·exact vB
     ·exact vW
     ·rw[bG _ ae];rfl
   ·have TF:m=st.rd.length:=by omega
    subst TF;rw[akg]at *;have aA:¬(st.rd.length:Int)<(st.rd.length:Int):=ae;have IK:(jj t Bs C p' st.rd ⟨st.ad,false,[],gb⟩).rd≠[]->p'+1<=t.length:=by intro h;refine Decidable.byContradiction λhc=>h ?_;rw[Af hg (c:=c) ae st.rd _ hinv.th]
    generalize jj t Bs C p' st.rd ⟨st.ad,false,[],gb⟩=X at *;simp only[zQ,simprocAttr,h3,h6,h7,cA,dA,ji,ka,ql,kH,lk,nI,vB,vW,EN,AG,aA,aku];refine⟨k,_,_,Nat.lt_succ_self k,bA.Dv [0,1,2,3,4,5,6,7,8,9,10,13,12,11] [3,6,7,10,14,15,16,17,18,19,20] cB,p'+1,X,st.gn,st.rd,ig,ae,hX.1,hX.2,IK,hL,?_,?_,?_,?_,?_,?_,?_,?_,?_,?_,?_,Od t root parts bg nb Bs g b a C q i X st.gn st.rd ig⟩;all_goals
     rw[xQ,be cB];try simp only[zU,pZ,jN,oN,oV,reduceIte]
    ·rw[h3];rfl
    ·rw[h6];rfl
    ·rw[h7];rfl
    ·rw[cA];rfl
    ·rw[dA];rfl
    ·rw[ji];rfl
    ·rw[ka];rfl
    ·rw[ql];rfl
    ·rw[kH];rfl
    ·rw[lk];rfl
    ·rw[bG _ ae];rfl
end
section
variable (P:aq->Prop) (node:Re->Bool)
structure uI:Prop where
 xy:∀i x y,P i->P ⟨i.op,x,y,i.n,i.node⟩
 spl:∀x y,P (cR x y)
 jmp:∀x,P (iT x)
 set:∀re k,node re=true->re.op=1->P (qC re k)
 ask:∀re k,node re=true->re.op=11\/re.op=7\/re.op=8->P (gQ re k)
 sav:∀re,node re=true->re.op=5->P (gy (2*re.n-2))/\P (gy (2*re.n-1))
def lH (C:List aq):Prop:=∀i∈C,P i
variable {P node}
variable{C:List aq}
theorem lH.add (h:lH P C) {i:aq} (hp:P i):lH P (C++[i]):=λj hj=>by
 rcases List.mem_append.1 hj with hj|hj
 ·exact h j hj
 ·rw[List.mem_singleton.1 hj];exact hp
theorem lH.xy (hP:uI P node) (h:lH P C) (c:Nat) (x y:Int):lH P (wV C c x y):=λj hj=>by
 unfold wV at hj;by_cases hc:c<C.length
 ·rcases akL hj with hj|rfl
  ·exact h j hj
  ·have hm:e9 C c∈C:=by unfold e9;rw[List.getD_eq_getElem?_getD,List.getElem?_eq_getElem hc];exact List.getElem_mem hc
   exact hP.xy _ _ _ (h _ hm)
 ·rw[List.set_eq_of_length_le ae]at hj;exact h j hj
theorem lH.xs (hP:uI P node) (E:Int):∀(J:List Nat) {C:List aq},lH P C->lH P (J.foldl (xO E) C)
 |[],_,h=>h
 |c::J,C,h=>lH.xs hP E J (h.xy hP c _ _)
theorem lH.MM (hP:uI P node) (mode:Int):∀(J:List Nat) {C:List aq},lH P C->lH P (J.foldl (nn mode) C)
 |[],_,h=>h
 |c::J,C,h=>by
  rw[akY];refine lH.MM hP mode J ?_;unfold nn;split
  ·exact h.xy hP c _ _
  ·exact h.xy hP c _ _
theorem Ho (hP:uI P node) (re:Re):re.every node=true->∀k C,lH P C->lH P (re.emit k C):=by
 refine Re.ind (Q:=λre=>re.every node=true->∀k C,lH P C->lH P (re.emit k C)) (λre ih hs k C hC=>?_) re;obtain⟨dM,jA⟩:=(Re.aD re).1 hs;rw[Re.iK];by_cases o1:re.op=1
 ·rw[be o1];exact hC.add (hP.set re k dM o1)
 rw[ap o1];by_cases o7:re.op=11\/re.op=7\/re.op=8
 ·rw[be o7];exact hC.add (hP.ask re k dM o7)
 rw[ap o7];have hL:∀(l:List Re) (k:Nat) (C:List aq),(∀x∈l,x∈re.kids)->lH P C->lH P (Re.dj l k C):=by
  intro l;induction l with
  |nil=>intro k C _ h;exact h
  |cons x l CG =>
   intro k C hm h;rw[Re.dj];exact CG _ _ (λy hy=>hm y (by simp [hy])) (ih x (hm x ak) (jA x (hm x ak)) k C h)
 by_cases o2:re.op=2
 ·rw[be o2];exact hL _ _ _ (λ_ h=>h) hC
 rw[ap o2];by_cases o3:re.op=3
 ·rw[be o3];have hA:∀(l:List Re) (k:Nat) (C:List aq) (J:List Nat),(∀x∈l,x∈re.kids)->lH P C->lH P (Re.lO l k C J):=by
   intro l;induction l with
   |nil=>intro k C J _ h;exact h
   |cons x l CG =>
    intro k C J hm h;have hx:=λC h=>ih x (hm x ak) (jA x (hm x ak)) k C h;cases l with
    |nil =>
     rw[Re.lO];exact lH.xs hP _ J (hx C h)
    |cons y l =>
     rw[Re.lO];exact CG _ _ _ (λz hz=>hm z (by simp only[akD]at hz ⊢;exact .inr hz)) (((hx _ (h.add (hP.spl 0 0))).add (hP.jmp 0)).xy hP _ _ _)
   done
  exact hA _ _ _ _ (λ_ h=>h) hC
 rw[ap o3];by_cases o5:re.op=5
 ·rw[be o5];exact(hL _ _ _ (λ_ h=>h) (hC.add (hP.sav re dM o5).1)).add (hP.sav re dM o5).2
 rw[ap o5];by_cases o4:re.op=4
 ·rw[be o4];have hf:∀C,lH P C->lH P (Re.dj re.kids k C):=λC h=>hL _ _ _ (λ_ h=>h) h;have h1:∀n,lH P (ir (λC=>Re.dj re.kids k C) n C):=by
   intro n;induction n with
   |zero=>exact hC
   |succ n Zk=>exact hf _ Zk
  unfold lY;simp only;have h1:=h1 re.mn.toNat;generalize ir (λC=>Re.dj re.kids k C) re.mn.toNat C=C1 at *;split
  ·exact lH.MM hP _ _ ((hf _ (h1.add (hP.spl 0 0))).add (hP.jmp _))
  ·refine lH.MM hP _ _ ?_;have:∀n,lH P (fD (λC=>Re.dj re.kids k C) n C1).1:=by
    intro n;induction n with
    |zero=>exact h1
    |succ n Zk=>exact hf _ (Zk.add (hP.spl 0 0))
   exact this _
 rw[ap o4];exact hC
end
def svB (c:Int) (re:Re):Bool:=decide (re.op=5->1<=re.n/\re.n<=c)
theorem Z1 {re:Re}{ai top:Int} (h:bU re ai top=true):svB ai re=true:=by obtain⟨h1,h2,h3,h4,h5⟩:=eG.1 h;unfold svB;rw[decide_eq_true_eq];intro o5;rw[be (.inl o5)]at h4;omega
theorem Q6 {re:Re}{c:Nat}{top:Int} (h:re.whole c top=true) (k:Nat):He (re.emit k []++[bw]) (2*c):=by
 have hP:uI (λi:aq=>i.op=4->0<=i.n/\i.n<((2*c:Nat):Int)) (svB c):=by refine⟨λi x y h=>h,λx y h=>by simp [cR]at h,λx h=>by simp [iT]at h,λre k _ _ h=>by simp [qC]at h,λre k _ _ h=>by simp [gQ]at h,λre h o=>?_⟩;unfold svB at h;have:=of_decide_eq_true h o;exact⟨λ_=>⟨by simp only[gy];omega,by simp only[gy];omega⟩,λ_=>⟨by simp only[gy];omega,by simp only[gy];omega⟩⟩
 have hs:re.every (svB c)=true:=iq (λr h=>Z1 h) re h;have ha:=Ho hP re hs k [] (λi hi=>by simp at hi);intro n hn ho;have hm:e9 (re.emit k []++[bw]) n∈re.emit k []++[bw]:=by unfold e9;rw[List.getD_eq_getElem?_getD,List.getElem?_eq_getElem hn];exact List.getElem_mem hn
 rcases List.mem_append.1 hm with hm|hm
 ·exact ha _ hm ho
 ·rw[List.mem_singleton.1 hm]at ho;simp [bw]at ho
end Go.Proofs.YtjjfioalgbecmaaGreat
