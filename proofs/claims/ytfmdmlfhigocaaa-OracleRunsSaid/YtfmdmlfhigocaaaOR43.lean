/- A part of the proof (O36 O37). -/
import Derived.Test.YtfmdmlfhigocaaaOR41
import Derived.Test.YtfmdmlfhigocaaaOR42
set_option linter.unusedSimpArgs false
set_option linter.unusedVariables false
open Nat renaming reduceShiftRight → cy, reduceMod → cJ, reduceEqDiff → dV, reduceBEq → gV
set_option maxRecDepth 100000
set_option maxHeartbeats 80000000
namespace Go.Proofs.Ytfmdmlfhigocaaa
open Go.VL
theorem abb (k g':Nat) (v:V) (t:List Int) (root parts:D) (bg nb:Nat):(⟨(dK t root parts bg nb).g,(dK t root parts bg nb).live,(dK t root parts bg nb).sz,(dK t root parts bg nb).aw.map λc=>c.map (pt k g' v)⟩:VL.Obj)=dK t root parts bg nb:=rfl
theorem VV (k g':Nat) (v:V) (q:Nat) (l:List Nat):(⟨(bw q l).g,(bw q l).live,(bw q l).sz,(bw q l).aw.map λc=>c.map (pt k g' v)⟩:VL.Obj)=bw q l:=by unfold bw;simp only[ajL];congr 1
theorem R6 {α:Type} (a b:α) {N i:Nat} (h:i<N):(List.replicate i a++List.replicate (N-i) b).set i a=List.replicate (i+1) a++List.replicate (N-(i+1)) b:=by
 rw[akh _ _ aj];obtain⟨m,hm⟩:∃m,N-i=m+1:=⟨N-i-1,ae⟩
 rw[hm];simp only[aj6,akp,List.replicate_succ,aju];have:N-(i+1)=m:=ae;rw[this,<- List.replicate_succ,List.replicate_succ',ajq];rfl
def dkO (g N:Nat):VL.Obj:=⟨0,false,1,[[.so 2 g 0 N]]⟩
def Y9 (N:Nat):VL.Obj:=⟨0,false,1,List.replicate N [i64 (-1)]⟩
def PA (N i:Nat):VL.Obj:=⟨0,true,1,List.replicate i [i64 (-1)]++List.replicate (N-i) [i64 0]⟩
def Xp:Option kA->VL.Obj
 |none=>Pl
 |some m=>UR m.s m.e (.d (df m.c))
theorem TZ {L:Nat}{e:VL.Env}{s:List VL.Obj}{gb:Nat}{B:List iH} (k:Nat) (ho:s[k]?=some (fp gb B)):bJ L e s e (s.set k (fp gb [])):=by
 cases B with
 |nil =>
  have:s.set k (fp gb [])=s:=by
   apply ajX;intro j;by_cases hj:j=k
   ·subst hj;rw[ajm (List.getElem?_eq_some_iff.1 ho).1,ho]
   ·rw[ajy (Ne.symm hj)]
  rw[this];exact bJ.refl
 |cons x B =>
  refine bJ.WB (o:=fp gb (x::B)) k 0 ho (λes h=>?_);have h1:(fp gb (x::B)).aw[0]?=some [.d (iD x.fJ),.d (an x.aL)]:=rfl;rw[h,fZ,aiY]at h1;obtain⟨y,_,h2⟩:=Option.map_eq_some_iff.1 h1;have h3:=congrArg (λl=>l[1]?) h2;simp [an]at h3
theorem Sq (ba:List Nat) (m:Option kA):ga ba (Xp m)=Xp m:=by
 cases m <;> rfl
theorem Yj (n:Nat) (m:Option kA):bc n (Xp m)=true:=by
 cases m <;> rfl
theorem S2 (ba:List Nat) (n:Nat):ga ba (Y9 n)=Y9 n:=by unfold ga Y9;simp [eV.go,eV,i64]
theorem YW (n N:Nat):bc n (Y9 N)=true:=by unfold bc Y9;rw[ajo];intro e he;rw[(List.mem_replicate.1 he).2];rfl
section
variable (t:List Int) (root parts:D) (bg nb:Nat) (Bs:List (List Bool)) (g b a:Nat) (C:List au) (q:Nat) (N:Nat)
def YO (st:eG) (gb:Nat) (B:List iH) (fO:Option kA):List VL.Obj :=
 [dK t root parts bg nb,fX bg Bs,cP g b a C,bw q st.ad,dkO g C.length,dB 3 q C.length,Pl,Y9 N,dB 11 st.gn st.rd.length,RU st.cl,sm g C.length 9 5 8 10,fp st.gn st.rd,Xp fO,fp gb B]
def BH (st:eG) (gn:Nat) (rd:List iH) (fO:Option kA):List VL.Obj :=
 [dK t root parts bg nb,fX bg Bs,cP g b a C,bw q st.ad,dkO g C.length,dB 3 q C.length,Pl,Y9 N,dB 13 st.gn st.rd.length,RU st.cl,sm g C.length 9 5 8 10,fp gn rd,Xp fO,fp st.gn st.rd]
theorem AQ (st:eG) (gn:Nat) (rd:List iH) (fO:Option kA):(BH t root parts bg nb Bs g b a C q N st gn rd fO).all (bc 14)=true:=by have:=ij 14 bg Bs;simp only[BH,ajS,ajV,ll 14 _ _ _ ae,oF,vf,Yj,YW,ajk];simp [bc,dK,dB,RU,sm,dkO,Pl,ak,ak.go,bV,i64,this]
theorem OY (st:eG) (gn:Nat) (rd:List iH) (fO:Option kA):mF [0,1,2,3,4,5,6,7,8,9,10,13,12,11] (BH t root parts bg nb Bs g b a C q N st gn rd fO)=YO t root parts bg nb Bs g b a C q N st gn rd fO:=by unfold BH YO;simp only[mF,aiZ,ai2,aj2,ajW,ka,ry,N0,Sq,S2,mC _ (rfl:List.idxOf? 0 [0,1,2,3,4,5,6,7,8,9,10,13,12,11]=some 0)];rfl
end
section
variable (t:List Int) (root parts:D) (bg nb:Nat) (Bs:List (List Bool)) (g b a:Nat) (C:List au) (q:Nat)
theorem QC (hg:fw t Bs C) (c:Nat) (RN:HG C (2*c)) (hc:c<=1000) (oM:nb=Bs.length) (ht:t.length<=1000000) (hC:0<C.length) (p:Nat) (hp:p<=t.length) (ad:List Nat) (UG:ad.length=C.length) :
  az Try.prog 29 [.rf 0 0 0 0,.so 2 g 0 C.length,.so 3 q 0 C.length,i64 p,i64 c] [dK t root parts bg nb,fX bg Bs,cP g b a C,bw q ad] λv s =>
   v=.tu [(Lx (gk t Bs C p c).1).v,bV (gk t Bs C p c).1.isSome]/\s=[dK t root parts bg nb,fX bg Bs,cP g b a C,bw q (gk t Bs C p c).2]:=by
 obtain⟨R,hR⟩:∃R,R=gk t Bs C p c:=⟨_,rfl⟩
 rw[<- hR];have ZO:=hg.len;have wc:IntKind.i64.wrap (2*(c:Int))=((2*c:Nat):Int):=by rw[bF _ ae];omega
 have e1:∀q l,(bw q l).g=q:=λ_ _=>rfl;have e2:∀q l,(bw q l).sz=1:=λ_ _=>rfl;have e3:∀q l,(bw q l).aw.length=l.length:=λ_ _=>by simp [bw]
 refine bk Try.func29 Try.ntmps29 Try.results29 4 16140901065307454686 ?_;simp only[zQ,simprocAttr,wc,e1,e2,e3,UG,qk,ai7,aiW];refine⟨⟨rfl,ajc _⟩,⟨ajs _,ae,ae⟩,?_⟩;obtain⟨N,hN⟩:∃N,N=2*c:=⟨_,rfl⟩
 rw[<- hN]at RN ⊢;refine ay (λn e s=>∃i:Nat,n=N-i/\i<=N/\e 3=i64 p/\e 6=.bx (.so 2 g 0 C.length)/\e 7=.rf 5 0 0 0/\e 10=.rf 6 0 0 0/\e 12=.so 7 0 0 N/\e 28=i64 N/\e 29=i64 i/\s=[dK t root parts bg nb,fX bg Bs,cP g b a C,bw q (List.replicate C.length 0),dkO g C.length,dB 3 q C.length,Pl,PA N i])
  ⟨_,_,_,.MX (ct.bx 4 rfl rfl rfl),0,rfl,ae,rfl,rfl,rfl,rfl,rfl,rfl,rfl,?_⟩ ?_
 ·simp only[N4,bP,ajJ,ajv,ajw,aju,aiZ,ai2,PK,R4,abb,VV];have q1:List.map (λc=>List.map (pt 4 0 (V.so 2 g 0 C.length)) c) (jU (bw q ad).aw 0 (List.replicate C.length [V.d (D.sc (Value.int IntKind.i64 0))]))=(bw q (List.replicate C.length 0)).aw:=by simp [bw,jU,UG,pt,i64]
  have q2:List.map (λc=>List.map (pt 4 0 (V.so 2 g 0 C.length)) c) (List.replicate N [V.d (D.sc (Value.int IntKind.i64 0))])=List.replicate N [V.d (D.sc (Value.int IntKind.i64 0))]:=by simp [pt]
  rw[q1,q2];rfl
 rintro n e s ⟨i,rfl,hi,h3,h6,h7,dX,kz,h28,h29,rfl⟩;rcases ajr i N with aB|iA
 ·have aH:(i:Int)<N:=by omega
  have ir:(List.replicate i [V.d (.sc (.int .i64 (-1)))]++List.replicate (N-i) [V.d (.sc (.int .i64 0))])[i]?=some [V.d (.sc (.int .i64 0))]:=by rw[ajh aj];simp [akb];omega
  simp only[zQ,simprocAttr,h3,h6,h7,dX,kz,h28,h29,aH,PA,ir,ai7];refine⟨N-(i+1),_,_,ae,bJ.refl,i+1,rfl,aB,?_,?_,?_,?_,?_,?_,?_,?_⟩ <;> (try simp only[zU,gV,cy,cJ,dV,reduceIte])
  ·exact h3
  ·exact h6
  ·exact h7
  ·exact dX
  ·exact kz
  ·exact h28
  ·rw[bF _ ae];rfl
  ·rw[<- R6 _ _ aB]
 ·have dY:i=N:=by omega
  subst dY;have aH:¬(i:Int)<i:=ae;simp only[zQ,simprocAttr,h3,h6,h7,dX,kz,h28,h29,aH];have aaB:PA i i=⟨0,true,1,List.replicate i [i64 (-1)]⟩:=by simp [PA]
  have W8:xm C c ⟨List.replicate C.length 0,false,[],0⟩:=⟨aj,aj,aj⟩
  have SE:mM C p ⟨List.replicate C.length 0,false,[],0⟩:=by have:fy p (List.replicate C.length 0)<=(List.replicate C.length 0).length:=ajY;unfold mM;simp only[aj6,ai9]at *;omega
  have LU:(gr c).length=2*c:=by simp [gr]
  obtain⟨Ww,WM⟩:=AT (t:=t) (Bs:=Bs) (p:=p) (k:=C.length+1) (n:=0) W8 SE LU;have KB:=Ab t root parts bg nb Bs g b a C q p i hg RN ae oM ht hp C.length;have ck:fo t Bs C p (C.length+1) 0 (gr c) ⟨List.replicate C.length 0,false,[],0⟩=sU t Bs C p c:=rfl;rw[ck]at Ww WM;have US:R=nZ t Bs C p c (t.length+2-p) p (sU t Bs C p c) 0 none:=hR;have Sy:=λ(s:List VL.Obj) (K:V->List VL.Obj->Prop)=>AA (s:=s) (K:=K) KB (n:=0) (rg:=gr c) (st:=⟨List.replicate C.length 0,false,[],0⟩) hC ae aj (by simp only;have:fy p (List.replicate C.length 0)<=(List.replicate C.length 0).length:=ajY;simpa using this) SE 5 9 8 11 10 aJ;generalize sU t Bs C p c=S at *;rw[aaB];refine DQ (y:=.d (an (gr c))) [7] 2 rfl ?_ ?_
  ·simp only[bA,bP,ajJ,ajv,ajw,aju,ai8,ai9];rw[rB (ds:=(gr c).map λx=>[iD x]) aN ?_ ?_ (.inr rfl)]
   ·rw[ajQ,ajb aj];simp [gr,iD,hN,i64]
   ·simp
  simp only[bA,bP,ajJ,ajv,ajw,aju];refine Tx (pre:=[]) (post:=[]) 8 2 rfl rfl rfl ?_;simp only[ajw,aju,aiX,ai0,ai8,ai9,ai7,Nat.reduceAdd];refine Sy _ _ rfl rfl rfl rfl rfl rfl rfl rfl rfl ck.symm ?_;simp only[ajw,aju];simp only[zQ,simprocAttr,h3,h6,h7,dX,kz,h28,h29];have h3':=h3;have h6':=h6;have h7':=h7;have aez:=dX;clear h3 h6 h7 dX kz h28 h29 Sy KB ck W8 SE aH;have t1:∀q l,(fp q l).g=q:=λ_ _=>rfl;have t2:∀q l,(fp q l).sz=2:=λ_ _=>rfl;have t3:∀q l,(fp q l).aw.length=l.length:=λ_ _=>by simp [fp]
  refine ay (λn e s=>∃(p':Nat) (st:eG) (gb:Nat) (B:List iH) (fO:Option kA),n+p'=t.length+2/\xm C c st/\mM C p' st/\(st.rd≠[]->p'<=t.length)/\nZ t Bs C p c n p' st gb fO=R /\
   e 3=i64 p/\e 6=.bx (.so 2 g 0 C.length)/\e 7=.rf 5 0 0 0/\e 10=.rf 6 0 0 0/\e 14=.rf 8 0 0 0/\e 15=.so 13 gb 0 B.length/\e 16=.rf 9 0 0 0/\e 17=.rf 10 0 0 0/\e 18=.rf 12 0 0 0/\e 19=bV fO.isSome/\e 20=i64 p'/\s=YO t root parts bg nb Bs g b a C q i st gb B fO) ?_ ?_
  ·refine⟨_,_,_,.MX (fQ 15 2 rfl),p,S,0,[],none,ae,Ww,WM,λ_=>hp,US.symm,?_,?_,?_,?_,?_,?_,?_,?_,?_,?_,?_,?_⟩ <;> (try simp only[zU,gV,cy,cJ,dV,reduceIte])
   all_goals first|exact h3'|exact h6'|exact h7'|exact aez|rfl
  rintro n e s ⟨p',st,gb,B,fO,UM,hinv,aaj,hp',hL,h3,h6,h7,dX,jl,nU,mV,rp,lB,l7,oR,rfl⟩;by_cases Jt:st.rd=[]
  ·have hz:(st.rd.length:Int)=0:=by rw[Jt];rfl
   have Xn:=eq_true hz;have Zx:R=(fO,st.ad):=by
    rw[<- hL];cases n with
    |zero=>rfl
    |succ k=>rw[nZ,be Jt]
   rw[Zx];have a1:((dK t root parts bg nb).aw.all λe=>e.all (ak 4))=true:=rfl;have a2:((fX bg Bs).aw.all λe=>e.all (ak 4))=true:=ij 4 bg Bs;have a3:((cP g b a C).aw.all λe=>e.all (ak 4))=true:=ll 4 g b a ae C;have a4:((bw q st.ad).aw.all λe=>e.all (ak 4))=true:=oF 4 q st.ad;cases fO with
   |none =>
    simp only[zQ,simprocAttr,h3,h6,h7,dX,jl,nU,mV,rp,lB,l7,oR,YO,dB,RU,t1,hz,ajZ,gt_iff_lt,Xp,Pl,UR,a1,a2,a3,a4,ajk];rfl
   |some m =>
    simp only[zQ,simprocAttr,h3,h6,h7,dX,jl,nU,mV,rp,lB,l7,oR,YO,dB,RU,t1,hz,ajZ,gt_iff_lt,Xp,Pl,UR,a1,a2,a3,a4,ajk];rfl
  obtain⟨k,rfl⟩:∃k,n=k+1:=⟨n-1,by have:=hp' Jt;omega⟩
  have hpt:=hp' Jt;have ie:(0:Int)<(st.rd.length:Int):=by have:=List.length_pos_iff.2 Jt;omega
  rw[nZ,ap Jt]at hL;have H6:st.rd.length<=C.length:=by have:=aaj;unfold mM at this;omega
  have W9:xm C c ⟨st.ad,false,[],gb⟩:=⟨hinv.ad,aj,aj⟩
  have W7:mM C (p'+1) ⟨st.ad,false,[],gb⟩:=by have:fy (p'+1) st.ad<=st.ad.length:=ajY;have:=hinv.ad;unfold mM;simp only[ai9];omega
  cases iy:st.cl with
  |true =>
   obtain⟨x0,U7⟩:∃x0,st.rd[st.rd.length-1]?=some x0:=bZ;have acZ:=hinv.th x0 (ai4 U7);have aby:st.rd.getLastD ⟨0,[]⟩=x0:=by rw[List.getLastD_eq_getLast?,List.getLast?_eq_getElem?,U7];rfl
   have Uj:rb p p' c st fO=some ⟨p,p',Ja c x0.aL⟩:=by unfold rb;rw[be iy,aby]
   rw[Uj]at hL;have w1:IntKind.i64.wrap ((st.rd.length:Int)-1)=((st.rd.length-1:Nat):Int):=by rw[bF _ (by have:=aaj;unfold mM at this;omega)];omega
   have b1:((st.rd.length-1:Nat):Int)<(st.rd.length:Int):=ae;have b0:(0:Int)<=((st.rd.length-1:Nat):Int):=ae;have aaZ:(fp st.gn st.rd).aw[st.rd.length-1]?=some [V.d (iD x0.fJ),V.d (an x0.aL)]:=by simp [fp,U7,iH.cells]
   have hma:=P9 c hc p p' x0.aL acZ.1;simp only[i64]at hma;simp only[zQ,simprocAttr,h3,h6,h7,dX,jl,nU,mV,rp,lB,l7,oR,YO,dB,RU,t1,t2,t3,ie,gt_iff_lt,iy,w1,b0,b1,aaZ,ai7,ai1];refine bO hma ?_;obtain⟨va,vb,vc,Vw⟩:∃va vb vc,Xp fO=⟨0,true,3,[[va,vb,vc]]⟩:=by cases fO <;> exact⟨_,_,_,rfl⟩
   rw[Vw];simp only[zQ,simprocAttr,h3,h6,h7,dX,jl,nU,mV,rp,lB,l7,oR,t1,t2,t3,ie,gt_iff_lt,ai7,kA.v];refine aA mix [3,4,5] [] aN ?_;simp only[zQ,simprocAttr,h3,h6,h7,dX,jl,nU,mV,rp,lB,l7,oR,ai7,gt_iff_lt,ie,t1,t2,t3,ajc,Nat.zero_le,and_self,true_and,ajs,aks];refine ay (λn e s=>∃m:Nat,n=st.rd.length-m/\m<=st.rd.length/\e 3=i64 p/\e 6=.bx (.so 2 g 0 C.length)/\e 7=.rf 5 0 0 0/\e 10=.rf 6 0 0 0/\e 14=.rf 8 0 0 0/\e 15=.so 11 st.gn 0 st.rd.length/\e 16=.rf 9 0 0 0/\e 17=.rf 10 0 0 0/\e 18=.rf 12 0 0 0/\e 19=bV ((some (kA.mk p p' (Ja c x0.aL)))).isSome/\e 20=i64 p'/\e 61=.so 11 st.gn 0 st.rd.length/\e 62=i64 st.rd.length/\e 63=i64 m/\s=BH t root parts bg nb Bs g b a C q i (fC t Bs C p' (st.rd.take m) ⟨st.ad,false,[],gb⟩) st.gn st.rd (some (kA.mk p p' (Ja c x0.aL)))) ?_ ?_
   ·refine⟨_,_,_,TZ 13 rfl,0,rfl,ae,?_,?_,?_,?_,?_,?_,?_,?_,?_,?_,?_,?_,?_,?_,?_⟩ <;> (try simp only[zU,gV,cy,cJ,dV,reduceIte])
    all_goals first|exact h3|exact h6|exact h7|exact dX|exact jl|exact mV|exact rp|exact lB|exact l7|exact oR|rfl
   clear h3 h6 h7 dX jl nU mV rp lB l7 oR;rintro n e s ⟨m,rfl,hm,h3,h6,h7,dX,jl,nU,mV,rp,lB,l7,oR,wT,xx,Fy,rfl⟩;have hX:=sH (t:=t) (Bs:=Bs) (p:=p') (st.rd.take m) ⟨st.ad,false,[],gb⟩ (λx hx=>hinv.th x (ajT hx)) W9 W7;rcases ajr m st.rd.length with aB|iA
   ·have aH:(m:Int)<(st.rd.length:Int):=by omega
    have Dm:(0:Int)<=(m:Int):=ae;obtain⟨x,hx⟩:∃x,st.rd[m]?=some x:=bZ aB;have TJ:=hinv.th x (ai4 hx);have hn:=TJ.2.1;have js:(x.fJ:Int)<(C.length:Int):=ae;have AU:(0:Int)<=(x.fJ:Int):=ae;obtain⟨ins,hi⟩:∃ins,C[x.fJ]?=some ins:=bZ hn;have lP:bz C x.fJ=ins:=by unfold bz;rw[aja,hi];rfl
    have ir:(fp st.gn st.rd).aw[m]?=some [V.d (D.sc (.int .i64 x.fJ)),V.d (an x.aL)]:=by simp [fp,hx,iH.cells,iD]
    have mJ:fC t Bs C p' (st.rd.take (m+1)) ⟨st.ad,false,[],gb⟩=fP t Bs C p' (fC t Bs C p' (st.rd.take m) ⟨st.ad,false,[],gb⟩) x:=by rw[bj hx,yc]
    generalize fC t Bs C p' (st.rd.take m) ⟨st.ad,false,[],gb⟩=X at *;by_cases o1:ins.op=1
    ·obtain⟨VS,ai,nY,vO,uz,tF⟩:=rE t root parts bg nb Bs b a C hg oM ht hn (.inl (by rw[lP];exact o1)) p' hpt;have T1:=CX (t:=t) (Bs:=Bs) (p:=p') hg hn (by rw[lP];exact o1);have Zz:=hg.next x.fJ hn (.inl (by rw[lP];exact o1));have hF:fP t Bs C p' X x=if ins.pass t Bs p'=true then fo t Bs C (p'+1) (C.length+1) (x.fJ+1) x.aL X else X:=by unfold fP;rw[lP];simp [o1]
     rw[hF]at mJ;rw[lP]at nY tF T1;have w1:IntKind.i64.wrap ((x.fJ:Int)+1)=((x.fJ+1:Nat):Int):=by rw[bF _ ae];rfl
     have w2:IntKind.i64.wrap ((p':Int)+1)=((p'+1:Nat):Int):=by rw[bF _ ae];rfl
     generalize ins.pass t Bs p'=y at *;cases y with
     |true =>
      have Up:=Ab t root parts bg nb Bs g b a C q (p'+1) i hg RN ae oM ht (T1 rfl) C.length;have hcN:fy (p'+1) X.ad<=X.ad.length:=ajY;have hXa:=hX.1.ad;have hXc:=hX.2;unfold mM at hXc;rw[be rfl]at mJ;have Gl:=λ(s:List VL.Obj) (K:V->List VL.Obj->Prop)=>AA (s:=s) (K:=K) Up (n:=x.fJ+1) (rg:=x.aL) (st:=X) Zz (by rw[TJ.1,hN]) hXa ae hXc 5 9 8 13 10 aJ;simp only[zQ,simprocAttr,h3,h6,h7,dX,jl,nU,mV,rp,lB,l7,oR,wT,xx,Fy,BH,sm,cP,au.cells,cf,aQ,t1,t2,t3,aiY,aiW,hi,ai3,js,AU,Dm,aH,ir,ai7,ai1,o1,nY];refine ez t root parts bg nb Bs tF ?_ ?_ rfl rfl rfl ?_
      ·simp [aS,i64,uz]
      ·simp [ak,ak.go,i64,vO]
      simp only[zQ,simprocAttr,h3,h6,h7,dX,jl,nU,mV,rp,lB,l7,oR,wT,xx,Fy,BH,sm,cP,au.cells,cf,aQ,t1,t2,t3,aiY,aiW,hi,ai3,js,AU,Dm,aH,ir,ai7,ai1,o1,nY,w1,w2];refine Gl _ _ rfl rfl rfl rfl rfl rfl rfl rfl rfl rfl ?_;simp only[ajw,aju];simp only[zQ,simprocAttr,h3,h6,h7,dX,jl,nU,mV,rp,lB,l7,oR,wT,xx,Fy,BH,sm,cP,au.cells,cf,aQ,t1,t2,t3,aiY,aiW,hi,ai3,js,AU,Dm,aH,ir,ai7,ai1,o1,nY,w1,w2];refine⟨st.rd.length-(m+1),_,_,ae,bJ.cut (s':=BH t root parts bg nb Bs g b a C q i (fo t Bs C (p'+1) (C.length+1) (x.fJ+1) x.aL X) st.gn st.rd (some (kA.mk p p' (Ja c x0.aL)))) 14 ae rfl (AQ t root parts bg nb Bs g b a C q i _ _ _ _) [3,6,7,10,14,15,16,17,18,19,20,61,62,63] (by simp [bX,aY,ak,ak.go,h3,h6,h7,dX,jl,nU,mV,rp,lB,l7,oR,wT,xx,Fy,i64,bV]),m+1,rfl,aB,?_,?_,?_,?_,?_,?_,?_,?_,?_,?_,?_,?_,?_,?_,by rw[mJ];rfl⟩ <;> (try simp only[zU,gV,cy,cJ,dV,reduceIte])
      ·exact h3
      ·exact h6
      ·exact h7
      ·exact dX
      ·exact jl
      ·exact nU
      ·exact mV
      ·exact rp
      ·exact lB
      ·exact l7
      ·exact oR
      ·exact wT
      ·exact xx
      ·rw[bF _ ae];rfl
     |false =>
      rw[ap aj]at mJ;simp only[zQ,simprocAttr,h3,h6,h7,dX,jl,nU,mV,rp,lB,l7,oR,wT,xx,Fy,BH,sm,cP,au.cells,cf,aQ,t1,t2,t3,aiY,aiW,hi,ai3,js,AU,Dm,aH,ir,ai7,ai1,o1,nY];refine ez t root parts bg nb Bs tF ?_ ?_ rfl rfl rfl ?_
      ·simp [aS,i64,uz]
      ·simp [ak,ak.go,i64,vO]
      simp only[zQ,simprocAttr,h3,h6,h7,dX,jl,nU,mV,rp,lB,l7,oR,wT,xx,Fy,BH,sm,cP,au.cells,cf,aQ,t1,t2,t3,aiY,aiW,hi,ai3,js,AU,Dm,aH,ir,ai7,ai1,o1,nY,w1,w2];refine⟨st.rd.length-(m+1),_,_,ae,bJ.cut (s':=BH t root parts bg nb Bs g b a C q i (X) st.gn st.rd (some (kA.mk p p' (Ja c x0.aL)))) 14 ae rfl (AQ t root parts bg nb Bs g b a C q i _ _ _ _) [3,6,7,10,14,15,16,17,18,19,20,61,62,63] (by simp [bX,aY,ak,ak.go,h3,h6,h7,dX,jl,nU,mV,rp,lB,l7,oR,wT,xx,Fy,i64,bV]),m+1,rfl,aB,?_,?_,?_,?_,?_,?_,?_,?_,?_,?_,?_,?_,?_,?_,by rw[mJ];rfl⟩ <;> (try simp only[zU,gV,cy,cJ,dV,reduceIte])
      ·exact h3
      ·exact h6
      ·exact h7
      ·exact dX
      ·exact jl
      ·exact nU
      ·exact mV
      ·exact rp
      ·exact lB
      ·exact l7
      ·exact oR
      ·exact wT
      ·exact xx
      ·rw[bF _ ae];rfl
    ·have hF:fP t Bs C p' X x=X:=by unfold fP;rw[lP];simp [o1]
     rw[hF]at mJ;simp only[zQ,simprocAttr,h3,h6,h7,dX,jl,nU,mV,rp,lB,l7,oR,wT,xx,Fy,BH,sm,cP,au.cells,cf,aQ,t1,t2,t3,aiY,aiW,hi,ai3,js,AU,Dm,aH,ir,ai7,ai1,o1];refine⟨st.rd.length-(m+1),_,_,ae,bJ.cut (s':=BH t root parts bg nb Bs g b a C q i (X) st.gn st.rd (some (kA.mk p p' (Ja c x0.aL)))) 14 ae rfl (AQ t root parts bg nb Bs g b a C q i _ _ _ _) [3,6,7,10,14,15,16,17,18,19,20,61,62,63] (by simp [bX,aY,ak,ak.go,h3,h6,h7,dX,jl,nU,mV,rp,lB,l7,oR,wT,xx,Fy,i64,bV]),m+1,rfl,aB,?_,?_,?_,?_,?_,?_,?_,?_,?_,?_,?_,?_,?_,?_,by rw[mJ];rfl⟩ <;> (try simp only[zU,gV,cy,cJ,dV,reduceIte])
     ·exact h3
     ·exact h6
     ·exact h7
     ·exact dX
     ·exact jl
     ·exact nU
     ·exact mV
     ·exact rp
     ·exact lB
     ·exact l7
     ·exact oR
     ·exact wT
     ·exact xx
     ·rw[bF _ ae];rfl
   ·have TO:m=st.rd.length:=by omega
    subst TO;rw[ajt]at *;have aH:¬(st.rd.length:Int)<(st.rd.length:Int):=ae;have UQ:(fC t Bs C p' st.rd ⟨st.ad,false,[],gb⟩).rd≠[]->p'+1<=t.length:=by intro h;refine Decidable.byContradiction λhc=>h ?_;rw[Be hg (c:=c) ae st.rd _ hinv.th]
    generalize fC t Bs C p' st.rd ⟨st.ad,false,[],gb⟩=X at *;simp only[zQ,simprocAttr,h3,h6,h7,dX,jl,nU,mV,rp,lB,l7,oR,wT,xx,Fy,BH,aH,ajZ];refine⟨k,_,_,Nat.lt_succ_self k,bJ.Fv [0,1,2,3,4,5,6,7,8,9,10,13,12,11] [3,6,7,10,14,15,16,17,18,19,20] aN,p'+1,X,st.gn,st.rd,(some (kA.mk p p' (Ja c x0.aL))),ae,hX.1,hX.2,UQ,hL,?_,?_,?_,?_,?_,?_,?_,?_,?_,?_,?_,OY t root parts bg nb Bs g b a C q i X st.gn st.rd (some (kA.mk p p' (Ja c x0.aL)))⟩;all_goals
     rw[DM,be aN];try simp only[zU,gV,cy,cJ,dV,reduceIte]
    ·rw[h3];rfl
    ·rw[h6];rfl
    ·rw[h7];rfl
    ·rw[dX];rfl
    ·rw[jl];rfl
    ·rw[nU];rfl
    ·rw[mV];rfl
    ·rw[rp];rfl
    ·rw[lB];rfl
    ·rw[l7];rfl
    ·rw[bF _ ae];rfl
  |false =>
   have Uj:rb p p' c st fO=fO:=by unfold rb;rw[ap (by rw[iy];simp)]
   rw[Uj]at hL;simp only[zQ,simprocAttr,h3,h6,h7,dX,jl,nU,mV,rp,lB,l7,oR,YO,dB,RU,t1,t2,t3,ie,gt_iff_lt,iy];refine aA mix [3,4,5] [] aN ?_;simp only[zQ,simprocAttr,h3,h6,h7,dX,jl,nU,mV,rp,lB,l7,oR,ai7,gt_iff_lt,ie,t1,t2,t3,ajc,Nat.zero_le,and_self,true_and,ajs,aks];refine ay (λn e s=>∃m:Nat,n=st.rd.length-m/\m<=st.rd.length/\e 3=i64 p/\e 6=.bx (.so 2 g 0 C.length)/\e 7=.rf 5 0 0 0/\e 10=.rf 6 0 0 0/\e 14=.rf 8 0 0 0/\e 15=.so 11 st.gn 0 st.rd.length/\e 16=.rf 9 0 0 0/\e 17=.rf 10 0 0 0/\e 18=.rf 12 0 0 0/\e 19=bV (fO).isSome/\e 20=i64 p'/\e 61=.so 11 st.gn 0 st.rd.length/\e 62=i64 st.rd.length/\e 63=i64 m/\s=BH t root parts bg nb Bs g b a C q i (fC t Bs C p' (st.rd.take m) ⟨st.ad,false,[],gb⟩) st.gn st.rd fO) ?_ ?_
   ·refine⟨_,_,_,TZ 13 rfl,0,rfl,ae,?_,?_,?_,?_,?_,?_,?_,?_,?_,?_,?_,?_,?_,?_,?_⟩ <;> (try simp only[zU,gV,cy,cJ,dV,reduceIte])
    all_goals first|exact h3|exact h6|exact h7|exact dX|exact jl|exact mV|exact rp|exact lB|exact l7|exact oR|rfl
   clear h3 h6 h7 dX jl nU mV rp lB l7 oR;rintro n e s ⟨m,rfl,hm,h3,h6,h7,dX,jl,nU,mV,rp,lB,l7,oR,wT,xx,Fy,rfl⟩;have hX:=sH (t:=t) (Bs:=Bs) (p:=p') (st.rd.take m) ⟨st.ad,false,[],gb⟩ (λx hx=>hinv.th x (ajT hx)) W9 W7;rcases ajr m st.rd.length with aB|iA
   ·have aH:(m:Int)<(st.rd.length:Int):=by omega
    have Dm:(0:Int)<=(m:Int):=ae;obtain⟨x,hx⟩:∃x,st.rd[m]?=some x:=bZ aB;have TJ:=hinv.th x (ai4 hx);have hn:=TJ.2.1;have js:(x.fJ:Int)<(C.length:Int):=ae;have AU:(0:Int)<=(x.fJ:Int):=ae;obtain⟨ins,hi⟩:∃ins,C[x.fJ]?=some ins:=bZ hn;have lP:bz C x.fJ=ins:=by unfold bz;rw[aja,hi];rfl
    have ir:(fp st.gn st.rd).aw[m]?=some [V.d (D.sc (.int .i64 x.fJ)),V.d (an x.aL)]:=by simp [fp,hx,iH.cells,iD]
    have mJ:fC t Bs C p' (st.rd.take (m+1)) ⟨st.ad,false,[],gb⟩=fP t Bs C p' (fC t Bs C p' (st.rd.take m) ⟨st.ad,false,[],gb⟩) x:=by rw[bj hx,yc]
    generalize fC t Bs C p' (st.rd.take m) ⟨st.ad,false,[],gb⟩=X at *;by_cases o1:ins.op=1
    ·obtain⟨VS,ai,nY,vO,uz,tF⟩:=rE t root parts bg nb Bs b a C hg oM ht hn (.inl (by rw[lP];exact o1)) p' hpt;have T1:=CX (t:=t) (Bs:=Bs) (p:=p') hg hn (by rw[lP];exact o1);have Zz:=hg.next x.fJ hn (.inl (by rw[lP];exact o1));have hF:fP t Bs C p' X x=if ins.pass t Bs p'=true then fo t Bs C (p'+1) (C.length+1) (x.fJ+1) x.aL X else X:=by unfold fP;rw[lP];simp [o1]
     rw[hF]at mJ;rw[lP]at nY tF T1;have w1:IntKind.i64.wrap ((x.fJ:Int)+1)=((x.fJ+1:Nat):Int):=by rw[bF _ ae];rfl
     have w2:IntKind.i64.wrap ((p':Int)+1)=((p'+1:Nat):Int):=by rw[bF _ ae];rfl
     generalize ins.pass t Bs p'=y at *;cases y with
     |true =>
      have Up:=Ab t root parts bg nb Bs g b a C q (p'+1) i hg RN ae oM ht (T1 rfl) C.length;have hcN:fy (p'+1) X.ad<=X.ad.length:=ajY;have hXa:=hX.1.ad;have hXc:=hX.2;unfold mM at hXc;rw[be rfl]at mJ;have Gl:=λ(s:List VL.Obj) (K:V->List VL.Obj->Prop)=>AA (s:=s) (K:=K) Up (n:=x.fJ+1) (rg:=x.aL) (st:=X) Zz (by rw[TJ.1,hN]) hXa ae hXc 5 9 8 13 10 aJ;simp only[zQ,simprocAttr,h3,h6,h7,dX,jl,nU,mV,rp,lB,l7,oR,wT,xx,Fy,BH,sm,cP,au.cells,cf,aQ,t1,t2,t3,aiY,aiW,hi,ai3,js,AU,Dm,aH,ir,ai7,ai1,o1,nY];refine ez t root parts bg nb Bs tF ?_ ?_ rfl rfl rfl ?_
      ·simp [aS,i64,uz]
      ·simp [ak,ak.go,i64,vO]
      simp only[zQ,simprocAttr,h3,h6,h7,dX,jl,nU,mV,rp,lB,l7,oR,wT,xx,Fy,BH,sm,cP,au.cells,cf,aQ,t1,t2,t3,aiY,aiW,hi,ai3,js,AU,Dm,aH,ir,ai7,ai1,o1,nY,w1,w2];refine Gl _ _ rfl rfl rfl rfl rfl rfl rfl rfl rfl rfl ?_;simp only[ajw,aju];simp only[zQ,simprocAttr,h3,h6,h7,dX,jl,nU,mV,rp,lB,l7,oR,wT,xx,Fy,BH,sm,cP,au.cells,cf,aQ,t1,t2,t3,aiY,aiW,hi,ai3,js,AU,Dm,aH,ir,ai7,ai1,o1,nY,w1,w2];refine⟨st.rd.length-(m+1),_,_,ae,bJ.cut (s':=BH t root parts bg nb Bs g b a C q i (fo t Bs C (p'+1) (C.length+1) (x.fJ+1) x.aL X) st.gn st.rd fO) 14 ae rfl (AQ t root parts bg nb Bs g b a C q i _ _ _ _) [3,6,7,10,14,15,16,17,18,19,20,61,62,63] (by simp [bX,aY,ak,ak.go,h3,h6,h7,dX,jl,nU,mV,rp,lB,l7,oR,wT,xx,Fy,i64,bV]),m+1,rfl,aB,?_,?_,?_,?_,?_,?_,?_,?_,?_,?_,?_,?_,?_,?_,by rw[mJ];rfl⟩ <;> (try simp only[zU,gV,cy,cJ,dV,reduceIte])
      ·exact h3
      ·exact h6
      ·exact h7
      ·exact dX
      ·exact jl
      ·exact nU
      ·exact mV
      ·exact rp
      ·exact lB
      ·exact l7
      ·exact oR
      ·exact wT
      ·exact xx
      ·rw[bF _ ae];rfl
     |false =>
      rw[ap aj]at mJ;simp only[zQ,simprocAttr,h3,h6,h7,dX,jl,nU,mV,rp,lB,l7,oR,wT,xx,Fy,BH,sm,cP,au.cells,cf,aQ,t1,t2,t3,aiY,aiW,hi,ai3,js,AU,Dm,aH,ir,ai7,ai1,o1,nY];refine ez t root parts bg nb Bs tF ?_ ?_ rfl rfl rfl ?_
      ·simp [aS,i64,uz]
      ·simp [ak,ak.go,i64,vO]
      simp only[zQ,simprocAttr,h3,h6,h7,dX,jl,nU,mV,rp,lB,l7,oR,wT,xx,Fy,BH,sm,cP,au.cells,cf,aQ,t1,t2,t3,aiY,aiW,hi,ai3,js,AU,Dm,aH,ir,ai7,ai1,o1,nY,w1,w2];refine⟨st.rd.length-(m+1),_,_,ae,bJ.cut (s':=BH t root parts bg nb Bs g b a C q i (X) st.gn st.rd fO) 14 ae rfl (AQ t root parts bg nb Bs g b a C q i _ _ _ _) [3,6,7,10,14,15,16,17,18,19,20,61,62,63] (by simp [bX,aY,ak,ak.go,h3,h6,h7,dX,jl,nU,mV,rp,lB,l7,oR,wT,xx,Fy,i64,bV]),m+1,rfl,aB,?_,?_,?_,?_,?_,?_,?_,?_,?_,?_,?_,?_,?_,?_,by rw[mJ];rfl⟩ <;> (try simp only[zU,gV,cy,cJ,dV,reduceIte])
      ·exact h3
      ·exact h6
      ·exact h7
      ·exact dX
      ·exact jl
      ·exact nU
      ·exact mV
      ·exact rp
      ·exact lB
      ·exact l7
      ·exact oR
      ·exact wT
      ·exact xx
      ·rw[bF _ ae];rfl
    ·have hF:fP t Bs C p' X x=X:=by unfold fP;rw[lP];simp [o1]
     rw[hF]at mJ;simp only[zQ,simprocAttr,h3,h6,h7,dX,jl,nU,mV,rp,lB,l7,oR,wT,xx,Fy,BH,sm,cP,au.cells,cf,aQ,t1,t2,t3,aiY,aiW,hi,ai3,js,AU,Dm,aH,ir,ai7,ai1,o1];refine⟨st.rd.length-(m+1),_,_,ae,bJ.cut (s':=BH t root parts bg nb Bs g b a C q i (X) st.gn st.rd fO) 14 ae rfl (AQ t root parts bg nb Bs g b a C q i _ _ _ _) [3,6,7,10,14,15,16,17,18,19,20,61,62,63] (by simp [bX,aY,ak,ak.go,h3,h6,h7,dX,jl,nU,mV,rp,lB,l7,oR,wT,xx,Fy,i64,bV]),m+1,rfl,aB,?_,?_,?_,?_,?_,?_,?_,?_,?_,?_,?_,?_,?_,?_,by rw[mJ];rfl⟩ <;> (try simp only[zU,gV,cy,cJ,dV,reduceIte])
     ·exact h3
     ·exact h6
     ·exact h7
     ·exact dX
     ·exact jl
     ·exact nU
     ·exact mV
     ·exact rp
     ·exact lB
     ·exact l7
     ·exact oR
     ·exact wT
     ·exact xx
     ·rw[bF _ ae];rfl
   ·have TO:m=st.rd.length:=by omega
    subst TO;rw[ajt]at *;have aH:¬(st.rd.length:Int)<(st.rd.length:Int):=ae;have UQ:(fC t Bs C p' st.rd ⟨st.ad,false,[],gb⟩).rd≠[]->p'+1<=t.length:=by intro h;refine Decidable.byContradiction λhc=>h ?_;rw[Be hg (c:=c) ae st.rd _ hinv.th]
    generalize fC t Bs C p' st.rd ⟨st.ad,false,[],gb⟩=X at *;simp only[zQ,simprocAttr,h3,h6,h7,dX,jl,nU,mV,rp,lB,l7,oR,wT,xx,Fy,BH,aH,ajZ];refine⟨k,_,_,Nat.lt_succ_self k,bJ.Fv [0,1,2,3,4,5,6,7,8,9,10,13,12,11] [3,6,7,10,14,15,16,17,18,19,20] aN,p'+1,X,st.gn,st.rd,fO,ae,hX.1,hX.2,UQ,hL,?_,?_,?_,?_,?_,?_,?_,?_,?_,?_,?_,OY t root parts bg nb Bs g b a C q i X st.gn st.rd fO⟩;all_goals
     rw[DM,be aN];try simp only[zU,gV,cy,cJ,dV,reduceIte]
    ·rw[h3];rfl
    ·rw[h6];rfl
    ·rw[h7];rfl
    ·rw[dX];rfl
    ·rw[jl];rfl
    ·rw[nU];rfl
    ·rw[mV];rfl
    ·rw[rp];rfl
    ·rw[lB];rfl
    ·rw[l7];rfl
    ·rw[bF _ ae];rfl
end
section
variable (P:au->Prop) (node:Re->Bool)
structure sr:Prop where
 xy:∀i x y,P i->P ⟨i.op,x,y,i.n,i.node⟩
 Nn:∀x y,P (cX x y)
 jmp:∀x,P (ku x)
 set:∀re k,node re=true->re.op=1->P (sL re k)
 ask:∀re k,node re=true->re.op=11\/re.op=7\/re.op=8->P (lR re k)
 yC:∀re,node re=true->re.op=5->P (jt (2*re.n-2))/\P (jt (2*re.n-1))
def lr (C:List au):Prop:=∀i∈C,P i
variable {P node}
variable{C:List au}
theorem lr.add (h:lr P C) {i:au} (hp:P i):lr P (C++[i]):=λj hj=>by
 rcases List.mem_append.1 hj with hj|hj
 ·exact h j hj
 ·rw[List.mem_singleton.1 hj];exact hp
theorem lr.xy (hP:sr P node) (h:lr P C) (c:Nat) (x y:Int):lr P (x9 C c x y):=λj hj=>by
 unfold x9 at hj;by_cases hc:c<C.length
 ·rcases aj4 hj with hj|rfl
  ·exact h j hj
  ·have hm:bz C c∈C:=by unfold bz;rw[aja,ajg hc];exact List.getElem_mem hc
   exact hP.xy _ _ _ (h _ hm)
 ·rw[List.set_eq_of_length_le ae]at hj;exact h j hj
theorem lr.xs (hP:sr P node) (E:Int):∀(J:List Nat) {C:List au},lr P C->lr P (J.foldl (xO E) C)
 |[],_,h=>h
 |c::J,C,h=>lr.xs hP E J (h.xy hP c _ _)
theorem lr.Nw (hP:sr P node) (mode:Int):∀(J:List Nat) {C:List au},lr P C->lr P (J.foldl (oC mode) C)
 |[],_,h=>h
 |c::J,C,h=>by
  rw[akg];refine lr.Nw hP mode J ?_;unfold oC;split
  ·exact h.xy hP c _ _
  ·exact h.xy hP c _ _
theorem Bm (hP:sr P node) (re:Re):re.every node=true->∀k C,lr P C->lr P (re.emit k C):=by
 refine Re.ind (Q:=λre=>re.every node=true->∀k C,lr P C->lr P (re.emit k C)) (λre ih hs k C hC=>?_) re;obtain⟨ef,fU⟩:=(Re.av re).1 hs;rw[Re.lg];by_cases o1:re.op=1
 ·rw[be o1];exact hC.add (hP.set re k ef o1)
 rw[ap o1];by_cases o7:re.op=11\/re.op=7\/re.op=8
 ·rw[be o7];exact hC.add (hP.ask re k ef o7)
 rw[ap o7];have hL:∀(l:List Re) (k:Nat) (C:List au),(∀x∈l,x∈re.kids)->lr P C->lr P (Re.db l k C):=by
  intro l;induction l with
  |nil=>intro k C _ h;exact h
  |cons x l D0 =>
   intro k C hm h;rw[Re.db];exact D0 _ _ (λy hy=>hm y (by simp [hy])) (ih x (hm x aj) (fU x (hm x aj)) k C h)
 by_cases o2:re.op=2
 ·rw[be o2];exact hL _ _ _ (λ_ h=>h) hC
 rw[ap o2];by_cases o3:re.op=3
 ·rw[be o3];have hA:∀(l:List Re) (k:Nat) (C:List au) (J:List Nat),(∀x∈l,x∈re.kids)->lr P C->lr P (Re.mv l k C J):=by
   intro l;induction l with
   |nil=>intro k C J _ h;exact h
   |cons x l D0 =>
    intro k C J hm h;have hx:=λC h=>ih x (hm x aj) (fU x (hm x aj)) k C h;cases l with
    |nil =>
     rw[Re.mv];exact lr.xs hP _ J (hx C h)
    |cons y l =>
     rw[Re.mv];exact D0 _ _ _ (λz hz=>hm z (by simp only[ajF]at hz ⊢;exact .inr hz)) (((hx _ (h.add (hP.Nn 0 0))).add (hP.jmp 0)).xy hP _ _ _)
   done
  exact hA _ _ _ _ (λ_ h=>h) hC
 rw[ap o3];by_cases o5:re.op=5
 ·rw[be o5];exact(hL _ _ _ (λ_ h=>h) (hC.add (hP.yC re ef o5).1)).add (hP.yC re ef o5).2
 rw[ap o5];by_cases o4:re.op=4
 ·rw[be o4];have hf:∀C,lr P C->lr P (Re.db re.kids k C):=λC h=>hL _ _ _ (λ_ h=>h) h;have h1:∀n,lr P (iR (λC=>Re.db re.kids k C) n C):=by
   intro n;induction n with
   |zero=>exact hC
   |succ n Y3=>exact hf _ Y3
  unfold mG;simp only;have h1:=h1 re.mn.toNat;generalize iR (λC=>Re.db re.kids k C) re.mn.toNat C=C1 at *;split
  ·exact lr.Nw hP _ _ ((hf _ (h1.add (hP.Nn 0 0))).add (hP.jmp _))
  ·refine lr.Nw hP _ _ ?_;have:∀n,lr P (gv (λC=>Re.db re.kids k C) n C1).1:=by
    intro n;induction n with
    |zero=>exact h1
    |succ n Y3=>exact hf _ (Y3.add (hP.Nn 0 0))
   exact this _
 rw[ap o4];exact hC
end
def svB (c:Int) (re:Re):Bool:=decide (re.op=5->1<=re.n/\re.n<=c)
theorem ZQ {re:Re}{ai top:Int} (h:bS re ai top=true):svB ai re=true:=by obtain⟨h1,h2,h3,h4,h5⟩:=fA.1 h;unfold svB;rw[decide_eq_true_eq];intro o5;rw[be (.inl o5)]at h4;omega
theorem Rz {re:Re}{c:Nat}{top:Int} (h:re.whole c top=true) (k:Nat):HG (re.emit k []++[bW]) (2*c):=by
 have hP:sr (λi:au=>i.op=4->0<=i.n/\i.n<((2*c:Nat):Int)) (svB c):=by refine⟨λi x y h=>h,λx y h=>by simp [cX]at h,λx h=>by simp [ku]at h,λre k _ _ h=>by simp [sL]at h,λre k _ _ h=>by simp [lR]at h,λre h o=>?_⟩;unfold svB at h;have:=of_decide_eq_true h o;exact⟨λ_=>⟨by simp only[jt];omega,by simp only[jt];omega⟩,λ_=>⟨by simp only[jt];omega,by simp only[jt];omega⟩⟩
 have hs:re.every (svB c)=true:=dN (λr h=>ZQ h) re h;have ha:=Bm hP re hs k [] (λi hi=>by simp at hi);intro n hn ho;have hm:bz (re.emit k []++[bW]) n∈re.emit k []++[bW]:=by unfold bz;rw[aja,ajg hn];exact List.getElem_mem hn
 rcases List.mem_append.1 hm with hm|hm
 ·exact ha _ hm ho
 ·rw[List.mem_singleton.1 hm]at ho;simp [bW]at ho
end Go.Proofs.Ytfmdmlfhigocaaa
