/- A part of the proof (O11 O14 K1 F62). -/
import Derived.Test.YtfmdmlfhigocaaaOR14
import Derived.Test.YtfmdmlfhigocaaaOR16
import Derived.Test.YtfmdmlfhigocaaaOR23
import Derived.Test.YtfmdmlfhigocaaaOR25
import Derived.Test.YtfmdmlfhigocaaaOR27
import Derived.Test.YtfmdmlfhigocaaaOR28
import Derived.Test.YtfmdmlfhigocaaaOR30
set_option linter.unusedSimpArgs false
set_option linter.unusedVariables false
open Nat renaming reduceShiftRight → cy, reduceMod → cJ, reduceEqDiff → dV, reduceBEq → gV
set_option maxRecDepth 100000
set_option maxHeartbeats 80000000
namespace Go.Proofs.Ytfmdmlfhigocaaa
open Go.VL Go.Proofs.Try
theorem ry (ba:List Nat) (q:Nat) (l:List Nat):ga ba (bw q l)=bw q l:=by unfold ga bw;simp only[ajL];congr 1
theorem PK (k g:Nat) (v:V) (bg:Nat) (Bs:List (List Bool)):(⟨(fX bg Bs).g,(fX bg Bs).live,(fX bg Bs).sz,(fX bg Bs).aw.map λc=>c.map (pt k g v)⟩:VL.Obj)=fX bg Bs:=by unfold fX;simp only[ajL];congr 1
theorem R4 (k g:Nat) (v:V) (cg b a:Nat) (C:List au):(⟨(cP cg b a C).g,(cP cg b a C).live,(cP cg b a C).sz,(cP cg b a C).aw.map λc=>c.map (pt k g v)⟩:VL.Obj)=cP cg b a C:=by
 have hp:∀x,pt k g v (cq b a x)=cq b a x:=by
  intro x;cases x with
  |none=>rfl
  |some x =>
   obtain⟨re,k⟩:=x;unfold cq;simp only;split
   ·rfl
   ·split <;> rfl
 unfold cP;simp only[ajL];congr 1;apply ajK;intro i _;simp [au.cells,hp,pt,i64]
theorem Yz {L:Nat}{e:VL.Env}{s:List VL.Obj}{gb:Nat}{B:List Nat} (k:Nat) (ho:s[k]?=some (bw gb B)):bJ L e s e (s.set k (bw gb [])):=by
 cases B with
 |nil =>
  have:s.set k (bw gb [])=s:=by
   apply ajX;intro j;by_cases hj:j=k
   ·subst hj;rw[ajm (List.getElem?_eq_some_iff.1 ho).1,ho]
   ·rw[ajy (Ne.symm hj)]
  rw[this];exact bJ.refl
 |cons x B =>
  refine bJ.WB (o:=bw gb (x::B)) k 0 ho (λes h=>?_);have h1:(bw gb (x::B)).aw[0]?=some [i64 (x:Int)]:=rfl;rw[h,fZ,aiY]at h1;obtain⟨y,_,h2⟩:=Option.map_eq_some_iff.1 h1;have h3:=congrArg List.length h2;simp at h3
section
variable (t:List Int) (Bs:List (List Bool)) (C:List au)
def cL (p:Nat) (l:List Nat) (st:sC):sC:=l.foldl (λst n=>gJ t Bs C p (C.length+1) (n+1) st) st
def cQ:Nat->sC×Nat
 |0=>(⟨List.replicate C.length 0,List.replicate (t.length+1) false,[],0⟩,0)
 |p+1=>(gJ t Bs C p (C.length+1) 0 (cL t Bs C p (cQ p).1.rd ⟨(cQ p).1.ad,(cQ p).1.ho,[],(cQ p).2⟩),(cQ p).1.gn)
def rz:List Bool:=(cQ t Bs C (t.length+1)).1.ho
theorem qN (p:Nat):∀(l:List Nat) (st:sC),ta C p st (cL t Bs C p l st)
 |[],st=>.refl st
 |n::l,st=>by have h1:=CD t Bs C p (C.length+1) (n+1) st;exact h1.trans (qN p l _)
theorem Io (p:Nat) (l:List Nat) (n:Nat) (st:sC):cL t Bs C p (l++[n]) st=gJ t Bs C p (C.length+1) (n+1) (cL t Bs C p l st):=by unfold cL;rw[List.foldl_append];rfl
theorem yi:∀p,(cQ t Bs C p).1.ad.length=C.length/\(cQ t Bs C p).1.ho.length=t.length+1/\(cQ t Bs C p).1.rd.length<=C.length/\∀e∈(cQ t Bs C p).1.rd,(bz C e).op=1
 |0=>by simp [cQ]
 |p+1=>by obtain⟨h1,h2,_,_⟩:=yi p;have k1:=qN t Bs C p (cQ t Bs C p).1.rd ⟨(cQ t Bs C p).1.ad,(cQ t Bs C p).1.ho,[],(cQ t Bs C p).2⟩;have k2:=CD t Bs C p (C.length+1) 0 (cL t Bs C p (cQ t Bs C p).1.rd ⟨(cQ t Bs C p).1.ad,(cQ t Bs C p).1.ho,[],(cQ t Bs C p).2⟩);obtain⟨a1,a2,a3,a4,a5⟩:=k1.trans k2;simp only[ai9]at a1 a2 a3 a4;have hc:fy p (cQ t Bs C p).1.ad<=(cQ t Bs C p).1.ad.length:=ajY;simp only[cQ];refine⟨a1.trans h1,a2.trans h2,ae,λe he=>(a5 e he).resolve_left aj⟩
end
section
variable (t:List Int) (root parts:D) (bg nb:Nat) (Bs:List (List Bool)) (g b a:Nat) (C:List au)
def bSO (st:sC) (gb:Nat) (B:List Nat):List VL.Obj:=fM t root parts bg nb Bs g b a C st++[bw gb B,dB 10 gb B.length]
def Xz (st:sC) (gq:Nat) (rq:List Nat):List VL.Obj :=
 [dK t root parts bg nb,fX bg Bs,cP g b a C,bw 0 st.ad,dF 0 3 C.length,cx 0 st.ho,dF 0 5 (t.length+1),bw gq rq,dB 10 st.gn st.rd.length,⟨0,true,1,[[B4 g C.length]]⟩,bw st.gn st.rd,dB 7 gq rq.length]
theorem GZ {p k n gq:Nat}{rq:List Nat}{st:sC} (h:Mx t root parts bg nb Bs g b a C p k) (hn:n<C.length) (h1:st.ad.length=C.length) (h2:st.ho.length=t.length+1) (hu:fy p st.ad<=k) (hr:st.rd.length+fy p st.ad<=C.length) {K:V->List VL.Obj->Prop}
  (hk:K (.tu []) (Xz t root parts bg nb Bs g b a C (gJ t Bs C p (k+1) n st) gq rq)) :
  az Try.prog 85 (eW g C.length n p) (Xz t root parts bg nb Bs g b a C st gq rq) K:=by
 have Fu:∀st,(fM t root parts bg nb Bs g b a C st).map (bf [0,1,2,3,4,5,6,10,8,9])=[dK t root parts bg nb,fX bg Bs,cP g b a C,bw 0 st.ad,dF 0 3 C.length,cx 0 st.ho,dF 0 5 (t.length+1),bw st.gn st.rd,dB 10 st.gn st.rd.length,⟨0,true,1,[[B4 g C.length]]⟩]:=by intro st;simp only[fM,aiZ,ai2,kY,zN,fN,pa];simp [bf,dK,dF,dB,B4,aS,aS.go,i64]
 refine ew [0,1,2,3,4,5,6,10,8,9] (h n st hn h1 h2 hu hr) aJ rfl ?_ aN aN (O5 t root parts bg nb Bs g b a C st) (r':=.tu []) rfl ?_
 ·have h3:(fM t root parts bg nb Bs g b a C st).map (λo=>some (bf [0,1,2,3,4,5,6,10,8,9] o))=((fM t root parts bg nb Bs g b a C st).map (bf [0,1,2,3,4,5,6,10,8,9])).map some:=by rw[ajL];rfl
  rw[h3,Fu];rfl
 ·rw[Fu];exact hk
theorem HM (hg:fw t Bs C) (oM:nb=Bs.length) (ht:t.length<=1000000) (hC:0<C.length) :
  az Try.prog 54 [.rf 0 0 0 0,.so 2 g 0 C.length] [dK t root parts bg nb,fX bg Bs,cP g b a C] λv s=>v=.so 3 0 0 (t.length+1)/\s=[dK t root parts bg nb,fX bg Bs,cP g b a C,cx 0 (rz t Bs C)]:=by
 have lQ:=Ai t.length false;have hlen:=hg.len;have w1:IntKind.i64.wrap ((t.length:Int)+1)=((t.length+1:Nat):Int):=by rw[bF _ ae];rfl
 simp only[i64,bV]at lQ;refine OM Try.func54 rfl Try.ntmps54 Try.results54 rfl 3 258771785723 aj aj ?_;simp only[zX,simprocAttr,jP,rr,nj,wm,i64,bV,iD,bD,dK,an,cf,aQ,aiW,w1];have hcg:(cP g b a C).g=g:=rfl;refine⟨⟨ae,ae,ae⟩,⟨ae,ae,ae⟩,?_⟩;refine bO lQ ?_;simp only[zX,simprocAttr,jP,rr,nj,wm,i64,bV,iD,bD];refine sZ.of 29 30 _ (RD t.length false) (t.length+1) (xB false t.length) (λi s=>∃B:List Nat,s=bSO t root parts bg nb Bs g b a C (cQ t Bs C i).1 (cQ t Bs C i).2 B)
  (λe=>e 0=.any/\e 5=.rf 6 0 0 0/\e 7=.rf 8 0 0 0/\e 8=.rf 11 0 0 0/\e 9=.rf 9 0 0 0/\e 29=.d (.cl (.func 106) [] (RD t.length false))/\∀t,[5,7,8,9,29].contains t=false->e t=.any)
  rfl rfl aJ (JJ t.length ht false) ⟨_,_,(bJ.MX ((ct.bx 3 rfl rfl rfl).trans ((nL (pre:=[]) (post:=[]) 8 1 rfl rfl rfl).trans (nL (pre:=[]) (post:=[]) 9 1 rfl rfl rfl)))).trans (bJ.Fv [0,1,2,6,7,4,5,11,8,10,12,9] [5,7,8,9,29] aN),rfl,⟨rfl,rfl,rfl,rfl,rfl,rfl,λt ht=>ap (by rw[ht];exact Bool.false_ne_true)⟩,?_⟩ ?_ ?_
 ·refine⟨[],?_⟩;have hr:∀n q,(⟨q,true,1,List.replicate n [V.d (D.sc (Value.bool false))]⟩:VL.Obj)=cx q (List.replicate n false):=λn q=>by simp [cx,bV,bD]
  have Jq:([V.d (D.sc (Value.bool false))]::List.replicate t.length [V.d (D.sc (Value.bool false))])=List.replicate (t.length+1) [V.d (D.sc (Value.bool false))]:=rfl;have Fu:∀n q,(⟨q,true,1,List.replicate n [V.d (D.sc (Value.int IntKind.i64 0))]⟩:VL.Obj)=bw q (List.replicate n 0):=λn q=>by simp [bw,i64]
  rw[Jq];simp only[N4,bP,ajJ,ajv,ajw,aju,aiZ,ai2,PK,R4,List.map_replicate,pt,pt.go,aiX,ai0,ai8,ai9,
   mF,aj2,ajW,ka,mT,ry,mC _ (rfl:List.idxOf? 0 [0,1,2,6,7,4,5,11,8,10,12,9]=some 0)]
  simp only[hr,Fu,mT,ry,dV,false_and,true_and,and_self,if_true,if_false,reduceIte];rfl
 ·rintro e ⟨f0,f5,f7,f8,f9,f29,fa⟩ i s hi ⟨B,rfl⟩;have hi':i<=t.length:=ae;have S4:xB false t.length i=(i:Int):=by simp only[xB,ajf,if_false]
  rw[S4];obtain⟨tN,y9,V7,hl4⟩:=yi t Bs C i;have GB:cQ t Bs C (i+1)=(gJ t Bs C i (C.length+1) 0 (cL t Bs C i (cQ t Bs C i).1.rd ⟨(cQ t Bs C i).1.ad,(cQ t Bs C i).1.ho,[],(cQ t Bs C i).2⟩),(cQ t Bs C i).1.gn):=rfl;rw[GB];generalize cQ t Bs C i=ST at *;obtain⟨⟨ad,ho,rd,gn⟩,gb⟩:=ST;simp only at tN y9 V7 hl4 ⊢;simp only[zQ,simprocAttr,bSO,fM,f0,f5,f7,f8,f9,dF,dB,cf,aQ];refine aA mix [3,4] [] aN ?_;have e1:∀q l,(bw q l).g=q:=λ_ _=>rfl;have e2:∀q l,(bw q l).sz=1:=λ_ _=>rfl;have e3:∀q l,(bw q l).aw.length=l.length:=λ_ _=>by simp [bw]
  simp only[zQ,simprocAttr,f0,f5,f7,f8,f9,cf,aQ,aiW,ai7,e1,e2,e3,ajc,and_self,true_and];have YB:=qN t Bs C i;have W6:∀e∈rd,e+1<C.length:=λe he=>by
   have h1:=hl4 e he;refine hg.next e ?_ (.inl h1);refine Decidable.byContradiction λiA=>?_;have:bz C e=⟨0,0,0,0,none⟩:=by unfold bz;rw[aja,ajH ae];rfl
   rw[this]at h1;cases h1
  refine ay (λn e' s=>∃m:Nat,n=rd.length-m/\m<=rd.length/\e' 0=.any/\e' 9=.rf 9 0 0 0/\e' 10=i64 i/\e' 34=.so 7 gn 0 rd.length/\e' 35=i64 rd.length/\e' 36=i64 m/\s=Xz t root parts bg nb Bs g b a C (cL t Bs C i (rd.take m) ⟨ad,ho,[],gb⟩) gn rd)
   ⟨_,_,_,Yz 10 rfl,0,rfl,ae,f0,f9,rfl,rfl,rfl,rfl,aN⟩ ?_
  rintro n e' s ⟨m,rfl,hm,q0,q9,ji,q34,q35,q36,rfl⟩;have YB:=qN t Bs C i (rd.take m) ⟨ad,ho,[],gb⟩;have hcN:fy i ad<=ad.length:=ajY;obtain⟨a1,a2,a3,a4,_⟩:=YB;simp only[ai9]at a1 a2 a3 a4;rcases ajr m rd.length with aB|iA
  ·have aH:(m:Int)<(rd.length:Int):=by omega
   obtain⟨x,hx⟩:∃x,rd[m]?=some x:=bZ aB;have hxC:=W6 x (ai4 hx);have hw:IntKind.i64.wrap ((x:Int)+1)=((x+1:Nat):Int):=by rw[bF _ ae];rfl
   have Dm:(0:Int)<=(m:Int):=ae;have hc:=λK hk=>GZ t root parts bg nb Bs g b a C (I9 t root parts bg nb Bs g b a C i hg oM ht ae C.length) (n:=x+1) (st:=cL t Bs C i (rd.take m) ⟨ad,ho,[],gb⟩) hxC ae ae ae ae (gq:=gn) (rq:=rd) (K:=K) hk;rw[<- Io,<- bj hx]at hc;generalize Du:cL t Bs C i (rd.take (m+1)) ⟨ad,ho,[],gb⟩=E2 at *;unfold eW Xz at hc;have hxm:(bw gn rd).aw[m]?=some [i64 (x:Int)]:=by simp [bw,hx]
   simp only[i64]at hxm;simp only[zQ,simprocAttr,Xz,dF,dB,q0,q9,ji,q34,q35,q36,B4,cf,aQ,aH,aB,Dm,e1,e2,e3,ai1,ai7,hxm,hw,aiX,ai0];refine hc _ ?_;simp only[zQ,simprocAttr,q0,q9,ji,q34,q35,q36,cf,aQ,aiX,ai0];refine⟨rd.length-(m+1),_,_,ae,bJ.refl,m+1,rfl,aB,?_,?_,?_,?_,?_,?_,by rw[Du];rfl⟩ <;> (try simp only[zU,gV,cy,cJ,dV,reduceIte])
   ·exact q0
   ·exact q9
   ·exact ji
   ·exact q34
   ·exact q35
   ·rw[bF _ ae];rfl
  ·have TO:m=rd.length:=by omega
   subst TO;rw[ajt]at *;have hc:=λK hk=>GZ t root parts bg nb Bs g b a C (I9 t root parts bg nb Bs g b a C i hg oM ht ae C.length) (n:=0) (st:=cL t Bs C i rd ⟨ad,ho,[],gb⟩) hC ae ae ae ae (gq:=gn) (rq:=rd) (K:=K) hk;generalize gJ t Bs C i (C.length+1) 0 (cL t Bs C i rd ⟨ad,ho,[],gb⟩)=E2 at *;unfold eW Xz at hc;simp only[zQ,simprocAttr,Xz,dF,dB,q0,q9,ji,q34,q35,q36,B4,cf,aQ,ajZ,aiX,ai0];refine hc _ ?_;simp only[zQ,simprocAttr,q0,q9,ji,q34,q35,q36,cf,aQ,aiX,ai0];have GQ:NZ [0,1,2,3,4,5,6,10,8,9,7,11] [5,7,8,9,29] e=e:=by
    refine G3 fa ?_;intro x hx;simp only[ajF,ajP,or_false]at hx;rcases hx with rfl|rfl|rfl|rfl|rfl
    ·rw[f5];rfl
    ·rw[f7];rfl
    ·rw[f8];rfl
    ·rw[f9];rfl
    ·rw[f29];rfl
   refine⟨_,bJ.My [0,1,2,3,4,5,6,10,8,9,7,11] _ aN GQ,rd,?_⟩;simp only[mF,aiZ,ai2,aj2,ajW,ka,mT,ry,mC _ (rfl:List.idxOf? 0 [0,1,2,3,4,5,6,10,8,9,7,11]=some 0)];rfl
 ·rintro e ⟨f0,f5,f7,f8,f9,f29,fa⟩ s ⟨B,rfl⟩;simp only[zX,simprocAttr,bSO,fM,dF,f0,f5,tY,zG];refine⟨[0,1,2,5],rfl,?_⟩;simp only[mF,aiZ,ai2,aj2,ajW,ka,mT,mC _ (rfl:List.idxOf? 0 [0,1,2,5]=some 0)];exact⟨rfl,rfl⟩
end
section
variable (t:List Int) (root parts:D) (bg nb:Nat) (Bs:List (List Bool)) (b a:Nat)
def wO (C:List au):List VL.Obj:=[dK t root parts bg nb,fX bg Bs,pN 5 C.length,
 ⟨0,true,1,[[.cl (.func 55) [] [.rf 2 0 0 0]]]⟩,
 ⟨0,true,1,[[.cl (.func 56) [] [.rf 3 0 0 0,mB b a,.rf 4 0 0 0,.rf 2 0 0 0]]]⟩,cP C.length b a C]
omit t root parts bg nb Bs in
def dJ (re:Re) (k:Nat):List V:=[.d (re.bq k),.rf 3 0 0 0,mB b a,.rf 4 0 0 0,.rf 2 0 0 0]
omit t root parts bg nb Bs b a in
def OH (re:Re):Bool:=decide ((re.op=4\/re.op=5->re.kids.length=1)/\(re.op=3->1<=re.kids.length)/\re.kids.length<=1000000/\0<=re.mn/\re.mn<=1000000/\-1<=re.mx/\re.mx<=1000000/\0<=re.n/\re.n<=1000000)
omit t root parts bg nb Bs b a in
theorem sM {re:Re}:OH re=true ↔ (re.op=4\/re.op=5->re.kids.length=1)/\(re.op=3->1<=re.kids.length)/\re.kids.length<=1000000/\0<=re.mn/\re.mn<=1000000/\-1<=re.mx/\re.mx<=1000000/\0<=re.n/\re.n<=1000000:=by unfold OH;rw[decide_eq_true_eq]
def zH (re:Re):Prop:=∀(k:Nat) (C:List au),C.length+re.dc<=1000000000000 ->
 az Try.prog 56 (dJ b a re k) (wO t root parts bg nb Bs b a C) λv s=>v=.tu []/\s=wO t root parts bg nb Bs b a (re.emit k C)
theorem M6 (C:List au):(wO t root parts bg nb Bs b a C).map (bf [0,1,2,3,4,5])=wO t root parts bg nb Bs b a C:=by simp only[wO,aiZ,ai2,kY,fN];simp [bf,dK,pN,mB,aS,aS.go]
theorem yQ (C:List au):(wO t root parts bg nb Bs b a C).all (bc 6)=true:=by have:=ij 6 bg Bs;simp only[wO,ajS,ajV,ll 6 _ _ _ ae,ajk];simp [bc,dK,pN,mB,ak,ak.go,this]
variable {t root parts bg nb Bs b a}
variable{K:V->List VL.Obj->Prop}{tl:List VL.Obj}{C:List au}
theorem We {f:FuncId}{args:List V}{r:V}{C':List au} (h:az Try.prog f args (wO t root parts bg nb Bs b a C) λv s=>v=r/\s=wO t root parts bg nb Bs b a C') (ha:args=args.map (aS [0,1,2,3,4,5])) (F6:ak.go 6 args=true) (hr:aS [0,1,2,3,4,5] r=r)
  (hk:K r (wO t root parts bg nb Bs b a C'++tl)):az Try.prog f args (wO t root parts bg nb Bs b a C++tl) K:=by
 have Fu:=M6 t root parts bg nb Bs b a C';refine ew [0,1,2,3,4,5] h aJ rfl ?_ ha F6 (yQ t root parts bg nb Bs b a C) (r':=r) hr ?_
 ·have:=M6 t root parts bg nb Bs b a C;have h2:(wO t root parts bg nb Bs b a C).map (λo=>some (bf [0,1,2,3,4,5] o))=((wO t root parts bg nb Bs b a C).map (bf [0,1,2,3,4,5])).map some:=by rw[ajL];rfl
  rw[h2,this];rfl
 ·rw[Fu];exact hk
theorem Bi (hC:C.length<=1000000000000) (x:au) (hk:K (i64 C.length) (wO t root parts bg nb Bs b a (C++[x])++tl)):az Try.prog 55 [tB b a x,.rf 2 0 0 0] (wO t root parts bg nb Bs b a C++tl) K:=by
 have e0:∀n,bf [0,1,2,5] (pN 3 n)=pN 5 n:=λn=>by simp [bf,pN,aS,aS.go]
 have e1:bf [0,1,2,5] (dK t root parts bg nb)=dK t root parts bg nb:=rfl;have hb:=ij 4 bg Bs;refine ew [0,1,2,5] (U0 t root parts bg nb Bs b a C hC x) aj aN ?_ ?_ ?_ ?_ (r':=i64 C.length) rfl ?_
 ·simp only[aiZ,ai2,e0,e1,kY,fN];rfl
 ·simp [tB,au.cells,GP,aS,aS.go,i64]
 ·simp [tB,au.cells,Ld 4 b a ae,ak,ak.go,i64]
 ·simp only[ajS,ajV,ai8,ai9,ai7,Nat.reduceAdd,ll 4 _ _ _ ae,ajk];simp [bc,pN,dK,ak,hb]
 ·simp only[aiZ,ai2,e0,e1,kY,fN,aO,wO,aiX,ai0,aju,ajw];simpa [wO]using hk
theorem lk (hC:C.length<=1000000000000) (op x y n:Int) (hk:K (i64 C.length) (wO t root parts bg nb Bs b a (C++[⟨op,x,y,n,none⟩])++tl)):az Try.prog 55 [.ag [i64 op,i64 x,i64 y,i64 n,.d (.sc .nilFunc)],.rf 2 0 0 0] (wO t root parts bg nb Bs b a C++tl) K :=
 Bi hC ⟨op,x,y,n,none⟩ hk
theorem abz (C:List au) (v:V) (tl:List VL.Obj):N4 6 0 v (wO t root parts bg nb Bs b a C++(⟨0,true,1,[[v]]⟩:VL.Obj)::tl)=wO t root parts bg nb Bs b a C++(⟨0,false,1,[[pt 6 0 v v]]⟩:VL.Obj)::(tl.map λo=>{ o with aw:=o.aw.map λc=>c.map (pt 6 0 v) }):=by have e1:=PK 6 0 v bg Bs;have e2:=R4 6 0 v C.length b a C;simp only[wO,N4,bP,aiX,ai0,ajJ,ajv,ajw,aju,aiZ,ai2,e1,e2];rfl
theorem wE (hC:C.length<=1000000000000) (x:au) (d:D) (arg:V) (AE:pt 6 0 (.d d) arg=tB b a x) (hk:K (i64 C.length) (wO t root parts bg nb Bs b a (C++[x])++[⟨0,false,1,[[.d d]]⟩])) :
  az Try.prog 55 [arg,.rf 2 0 0 0] (wO t root parts bg nb Bs b a C++[⟨0,true,1,[[.d d]]⟩]) K:=by
 refine Pk (o:=⟨0,true,1,[[.d d]]⟩) (v:=.d d) 6 rfl rfl rfl ?_;have h1:([arg,.rf 2 0 0 0].map (pt 6 (⟨0,true,1,[[.d d]]⟩:VL.Obj).g (.d d)))=[tB b a x,.rf 2 0 0 0]:=by show [pt 6 0 (.d d) arg,_]=_;rw[AE];rfl
 rw[h1];have h2:=abz (t:=t) (root:=root) (parts:=parts) (bg:=bg) (nb:=nb) (Bs:=Bs) (b:=b) (a:=a) C (.d d) [];rw[show (⟨0,true,1,[[.d d]]⟩:VL.Obj).g=0 from rfl,h2];exact Bi hC x hk
end
structure kL where
 op:Int
 x:Int
 y:Int
 n:Int
 set:List (Int×Int)
def kL.cells (i:kL):List D:=[iD i.op,iD i.x,iD i.y,iD i.n,.sl (i.set.map aU)]
structure MY where
 ins:List kL
 ai:Int
 aF:Bool
def MY.cells (g:MY):List D:=[.sl (g.ins.map kL.cells),iD g.ai,bD g.aF]
def Ox (g:MY):V:=.ag (g.cells.map .d)
theorem PS (g:MY):Ox g=.ag [.d (.sl (g.ins.map kL.cells)),.d (iD g.ai),.d (bD g.aF)]:=rfl
mutual
def Re.comp:Re->List Int->Bool
 |.mk op _ kids _ _ mode n _,a =>
  if op=4/\(mode=2\/Re.qa kids=true) then false
  else if op=5/\n∈a then false
  else if 5<op/\op≠11 then false
  else Re.K3 kids (if op=5 then a++[n] else a)
def Re.K3:List Re->List Int->Bool
 |[],_=>true
 |k::l,a=>k.comp a&&Re.K3 l a
end
theorem Re.HJ:∀(l:List Re) (a:List Int),Re.K3 l a=l.all λk=>k.comp a
 |[],_=>by simp [Re.K3]
 |k::l,a=>by simp [Re.K3,Re.HJ l a]
theorem Re.wq (re:Re) (a:List Int):re.comp a=if re.op=4/\(re.mode=2\/Re.qa re.kids=true) then false
  else if re.op=5/\re.n∈a then false
  else if 5<re.op/\re.op≠11 then false
  else re.kids.all λk=>k.comp (if re.op=5 then a++[re.n] else a):=by
 cases re;simp only[Re.comp,Re.HJ,Re.op,Re.kids,Re.mode,Re.n];rfl
def Jl (op mn mx:Int) (k n:Int):Int :=
 min (if op=1\/op=11 then 1 else if op=3 then n+2*k-2 else if op=5 then n+2 else if op=4 then (if mx=-1 then (mn+1)*n+2 else mx*n+mx-mn) else n) 10000
mutual
def Re.kK:Re->Int
 |.mk op _ kids mn mx _ _ _=>Jl op mn mx kids.length (Re.gx kids)
def Re.gx:List Re->Int
 |[]=>0
 |k::l=>k.kK+Re.gx l
end
theorem Re.Ir (re:Re):re.kK=Jl re.op re.mn re.mx re.kids.length (Re.gx re.kids):=by
 cases re;simp only[Re.kK,Re.op,Re.kids,Re.mn,Re.mx]
theorem Re.Bo:∀(l:List Re) (k:Re),Re.gx (l++[k])=Re.gx l+k.kK
 |[],k=>by simp [Re.gx]
 |x::l,k=>by simp only[aiX,Re.gx,Re.Bo l k];omega
def Lr (x:Int):kL:=⟨3,x,0,0,[]⟩
def HX (n:Int):kL:=⟨4,0,0,n,[]⟩
def zq (mode a b:Int):kL:=if mode=1 then ⟨2,b,a,0,[]⟩ else ⟨2,a,b,0,[]⟩
def gF (c:Int->List kL):Nat->Int->List kL
 |0,_=>[]
 |k+1,f=>gF c k f++c (f+(gF c k f).length)
def gu (c:Int->List kL) (mode:Int) (fin:Int):Nat->Int->List kL
 |0,_=>[]
 |k+1,f=>gu c mode fin k f++zq mode (f+(gu c mode fin k f).length+1) fin::c (f+(gu c mode fin k f).length+1)
def Ry (c:Int->List kL) (mn mx mode sz:Int) (f:Int):List kL :=
 let pre:=gF c mn.toNat f
 if mx=-1 then
  let aP:=c (f+pre.length+1)
  pre++zq mode (f+pre.length+1) (f+pre.length+aP.length+2)::(aP++[Lr (f+pre.length)])
 else pre++gu c mode (f+sz) (mx-mn).toNat (f+pre.length)
mutual
def Re.code:Re->Int->List kL
 |.mk op set kids mn mx mode n _,f =>
  if op=1 then [⟨1,0,0,0,set⟩] else if op=11 then [⟨5,0,0,n,[]⟩] else if op=2 then Re.ek kids f
  else if op=3 then Re.eY kids f
  else if op=5 then HX (2*n-2)::(Re.En kids (f+1)++[HX (2*n-1)])
  else if op=4 then Ry (λi=>Re.En kids i) mn mx mode (Jl op mn mx kids.length (Re.gx kids)) f
  else []
def Re.ek:List Re->Int->List kL
 |[],_=>[]
 |k::l,f=>k.code f++Re.ek l (f+(k.code f).length)
def Re.eY:List Re->Int->List kL
 |[],_=>[]
 |k::l,f=>match l with
  |[]=>k.code f
  |_::_=>zq 0 (f+1) (f+(k.code (f+1)).length+2)::(k.code (f+1)++Lr (f+(k.code (f+1)).length+2+(Re.eY l (f+(k.code (f+1)).length+2)).length)::Re.eY l (f+(k.code (f+1)).length+2))
def Re.En:List Re->Int->List kL
 |[],_=>[]
 |k::_,f=>k.code f
end
theorem Re.oz (re:Re) (f:Int):re.code f=if re.op=1 then [⟨1,0,0,0,re.set⟩] else if re.op=11 then [⟨5,0,0,re.n,[]⟩] else if re.op=2 then Re.ek re.kids f
  else if re.op=3 then Re.eY re.kids f
  else if re.op=5 then HX (2*re.n-2)::(Re.En re.kids (f+1)++[HX (2*re.n-1)])
  else if re.op=4 then Ry (λi=>Re.En re.kids i) re.mn re.mx re.mode re.kK f
  else []:=by
 cases re;rw[Re.code,Re.kK];rfl
theorem Re.zO:∀(l:List Re) (k:Re) (f:Int),Re.ek (l++[k]) f=Re.ek l f++k.code (f+(Re.ek l f).length)
 |[],k,f=>by simp [Re.ek]
 |x::l,k,f=>by simp only[aiX,Re.ek,Re.zO l k,ajq,ai6];congr 3;omega
theorem TM (l:List Int) (x:Int) (hl:l.length<=1000000000):aM prog 96 [.d (an l),i64 x] (bV (decide (x∈l))):=by
 refine bk func96 ntmps96 results96 0 51 ?_;simp only[zX,simprocAttr,i64];refine ay (λn e s=>∃i:Nat,n=l.length-i/\i<=l.length/\e 0=.d (an l)/\e 1=i64 x/\e 5=i64 i/\s=[]/\x ∉ l.take i)
  ⟨_,_,_,bJ.refl,0,rfl,ae,rfl,rfl,rfl,rfl,aj⟩ ?_
 rintro n e s ⟨i,rfl,hi,h0,h1,h5,rfl,jf⟩;rcases ajr i l.length with aB|iA
 ·obtain⟨y,hy⟩:∃y,l[i]?=some y:=bZ aB;by_cases RJ:y=x
  ·simp only[zI,simprocAttr,an,iD,h0,h1,h5,aB,hy,RJ];rw[bi (by rw[<- RJ];exact ai4 hy)];all_goals exact ed
  ·simp only[zI,simprocAttr,an,iD,h0,h1,h5,aB,hy,RJ];refine⟨l.length-(i+1),_,_,ae,bJ.refl,i+1,rfl,aB,?_,?_,?_,rfl,by rw[bj hy];simp [jf,Ne.symm RJ]⟩ <;> (try simp only[zU,gV,cy,cJ,dV,reduceIte])
   ·exact h0
   ·exact h1
   ·rw[bF _ ae];rfl
 ·have dY:i=l.length:=by omega
  subst dY;rw[ajt]at jf;simp only[zI,simprocAttr,an,iD,h0,h1,h5,aj7];rw[ce jf];all_goals exact ed
end Go.Proofs.Ytfmdmlfhigocaaa
