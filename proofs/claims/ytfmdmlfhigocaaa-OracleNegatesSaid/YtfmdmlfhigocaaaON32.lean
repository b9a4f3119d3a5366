/- A part of the proof (O11 O14 K1 F62). -/
import Derived.Test.YtfmdmlfhigocaaaON14
import Derived.Test.YtfmdmlfhigocaaaON16
import Derived.Test.YtfmdmlfhigocaaaON24
import Derived.Test.YtfmdmlfhigocaaaON26
import Derived.Test.YtfmdmlfhigocaaaON28
import Derived.Test.YtfmdmlfhigocaaaON29
import Derived.Test.YtfmdmlfhigocaaaON31
set_option linter.unusedSimpArgs false
set_option linter.unusedVariables false
open Nat renaming reduceShiftRight → cQ, reduceMod → dx, reduceLT → dB, reduceMul → dC, reduceSub → dD, reduceEqDiff → eI, reduceAdd → eJ, reduceLeDiff → fX, reduceBEq → gj
open Int renaming reduceToNat → gl, reduceNeg → ja, reduceLT → jg, reduceLE → jk, reduceEq → mA
set_option maxRecDepth 100000
set_option maxHeartbeats 80000000
namespace Go.Proofs.Ytfmdmlfhigocaaa
open Go.VL Go.Proofs.Try
theorem pZ (aY:List Nat) (q:Nat) (l:List Nat):fy aY (bo q l)=bo q l:=by unfold fy bo;simp only[agy];congr 1
theorem MB (k g:Nat) (v:V) (bg:Nat) (Bs:List (List Bool)):(⟨(fr bg Bs).g,(fr bg Bs).live,(fr bg Bs).sz,(fr bg Bs).aw.map λc=>c.map (nO k g v)⟩:VL.Obj)=fr bg Bs:=by unfold fr;simp only[agy];congr 1
theorem OQ (k g:Nat) (v:V) (cg b a:Nat) (C:List ay):(⟨(cG cg b a C).g,(cG cg b a C).live,(cG cg b a C).sz,(cG cg b a C).aw.map λc=>c.map (nO k g v)⟩:VL.Obj)=cG cg b a C:=by
 have hp:∀x,nO k g v (bY b a x)=bY b a x:=by
  intro x;cases x with
  |none=>rfl
  |some x =>
   obtain⟨re,k⟩:=x;unfold bY;simp only;split
   ·rfl
   ·split <;> rfl
 unfold cG;simp only[agy];congr 1;apply agC;intro i _;simp [ay.cells,hp,nO,i64]
theorem Vu {L:Nat}{e:VL.Env}{s:List VL.Obj}{gb:Nat}{B:List Nat} (k:Nat) (ho:s[k]?=some (bo gb B)):br L e s e (s.set k (bo gb [])):=by
 cases B with
 |nil =>
  have:s.set k (bo gb [])=s:=by
   apply agT;intro j;by_cases hj:j=k
   ·subst hj;rw[agc (List.getElem?_eq_some_iff.1 ho).1,ho]
   ·rw[agp (Ne.symm hj)]
  rw[this];exact br.refl
 |cons x B =>
  refine br.TE (o:=bo gb (x::B)) k 0 ho (λes h=>?_);have h1:(bo gb (x::B)).aw[0]?=some [i64 (x:Int)]:=rfl;rw[h,eR,afO]at h1;obtain⟨y,_,h2⟩:=Option.map_eq_some_iff.1 h1;have h3:=congrArg List.length h2;simp at h3
section
variable (t:List Int) (Bs:List (List Bool)) (C:List ay)
def hU (p:Nat) (l:List Nat) (st:Aq):Aq:=l.foldl (λst n=>jJ t Bs C p (C.length+1) (n+1) st) st
def cR:Nat->Aq×Nat
 |0=>(⟨List.replicate C.length 0,List.replicate (t.length+1) false,[],0⟩,0)
 |p+1=>(jJ t Bs C p (C.length+1) 0 (hU t Bs C p (cR p).1.rd ⟨(cR p).1.ad,(cR p).1.ho,[],(cR p).2⟩),(cR p).1.gn)
def wW:List Bool:=(cR t Bs C (t.length+1)).1.ho
theorem pC (p:Nat):∀(l:List Nat) (st:Aq),rn C p st (hU t Bs C p l st)
 |[],st=>.refl st
 |n::l,st=>by have h1:=AD t Bs C p (C.length+1) (n+1) st;exact h1.trans (pC p l _)
theorem FL (p:Nat) (l:List Nat) (n:Nat) (st:Aq):hU t Bs C p (l++[n]) st=jJ t Bs C p (C.length+1) (n+1) (hU t Bs C p l st):=by unfold hU;rw[List.foldl_append];rfl
theorem vW:∀p,(cR t Bs C p).1.ad.length=C.length/\(cR t Bs C p).1.ho.length=t.length+1/\(cR t Bs C p).1.rd.length<=C.length/\∀e∈(cR t Bs C p).1.rd,(eV C e).op=1
 |0=>by simp [cR]
 |p+1=>by obtain⟨h1,h2,_,_⟩:=vW p;have k1:=pC t Bs C p (cR t Bs C p).1.rd ⟨(cR t Bs C p).1.ad,(cR t Bs C p).1.ho,[],(cR t Bs C p).2⟩;have k2:=AD t Bs C p (C.length+1) 0 (hU t Bs C p (cR t Bs C p).1.rd ⟨(cR t Bs C p).1.ad,(cR t Bs C p).1.ho,[],(cR t Bs C p).2⟩);obtain⟨a1,a2,a3,a4,a5⟩:=k1.trans k2;simp only[af0]at a1 a2 a3 a4;have hc:iM p (cR t Bs C p).1.ad<=(cR t Bs C p).1.ad.length:=ag5;simp only[cR];refine⟨a1.trans h1,a2.trans h2,by omega,λe he=>(a5 e he).resolve_left (by simp)⟩
end
section
variable (t:List Int) (root parts:D) (bg nb:Nat) (Bs:List (List Bool)) (g b a:Nat) (C:List ay)
def ZG (st:Aq) (gb:Nat) (B:List Nat):List VL.Obj:=fg t root parts bg nb Bs g b a C st++[bo gb B,da 10 gb B.length]
def Uy (st:Aq) (gq:Nat) (rq:List Nat):List VL.Obj :=
 [dp t root parts bg nb,fr bg Bs,cG g b a C,bo 0 st.ad,dc 0 3 C.length,b5 0 st.ho,dc 0 5 (t.length+1),bo gq rq,da 10 st.gn st.rd.length,⟨0,true,1,[[zZ g C.length]]⟩,bo st.gn st.rd,da 7 gq rq.length]
theorem En {p k n gq:Nat}{rq:List Nat}{st:Aq} (h:JL t root parts bg nb Bs g b a C p k) (hn:n<C.length) (h1:st.ad.length=C.length) (h2:st.ho.length=t.length+1) (hu:iM p st.ad<=k) (hr:st.rd.length+iM p st.ad<=C.length) {K:V->List VL.Obj->Prop}
  (hk:K (.tu []) (Uy t root parts bg nb Bs g b a C (jJ t Bs C p (k+1) n st) gq rq)) :
  aq Try.prog 85 (ek g C.length n p) (Uy t root parts bg nb Bs g b a C st gq rq) K:=by
 have C5:∀st,(fg t root parts bg nb Bs g b a C st).map (aT [0,1,2,3,4,5,6,10,8,9])=[dp t root parts bg nb,fr bg Bs,cG g b a C,bo 0 st.ad,dc 0 3 C.length,b5 0 st.ho,dc 0 5 (t.length+1),bo st.gn st.rd,da 10 st.gn st.rd.length,⟨0,true,1,[[zZ g C.length]]⟩]:=by intro st;simp only[fg,afR,afU,jY,xX,fh,nJ];simp [aT,dp,dc,da,zZ,aL,aL.go,i64]
 refine cH [0,1,2,3,4,5,6,10,8,9] (h n st hn h1 h2 hu hr) (by decide) rfl ?_ (by rfl) (by rfl) (L1 t root parts bg nb Bs g b a C st) (r':=.tu []) rfl ?_
 ·have h3:(fg t root parts bg nb Bs g b a C st).map (λo=>some (aT [0,1,2,3,4,5,6,10,8,9] o))=((fg t root parts bg nb Bs g b a C st).map (aT [0,1,2,3,4,5,6,10,8,9])).map some:=by rw[agy];rfl
  rw[h3,C5];rfl
 ·rw[C5];exact hk
theorem Ff (hg:m8 t Bs C) (nr:nb=Bs.length) (ht:t.length<=1000000) (hC:0<C.length) :
  aq Try.prog 54 [.rf 0 0 0 0,.so 2 g 0 C.length] [dp t root parts bg nb,fr bg Bs,cG g b a C] λv s=>v=.so 3 0 0 (t.length+1)/\s=[dp t root parts bg nb,fr bg Bs,cG g b a C,b5 0 (wW t Bs C)]:=by
 have cY:=yj t.length false;have hlen:=hg.len;have w1:IntKind.i64.wrap ((t.length:Int)+1)=((t.length+1:Nat):Int):=by rw[bd _ (by omega)];rfl
 simp only[i64,bV]at cY;refine LH Try.func54 rfl Try.ntmps54 Try.results54 rfl 3 258771785723 (by simp) (by simp) ?_;simp only[zX,cQ,dx,dB,dC,dD,gl,ja,jg,jk,mA,eI,eJ,fX,reduceIte,reduceCtorEq,gj,iU,pX,me,uj,i64,bV,iD,bD,dp,al,bU,aP,afN,w1];have hcg:(cG g b a C).g=g:=rfl;refine⟨⟨by omega,by omega,by omega⟩,⟨by omega,by omega,by omega⟩,?_⟩;refine aj cY rfl rfl ?_;simp only[zX,cQ,dx,dB,dC,dD,gl,ja,jg,jk,mA,eI,eJ,fX,reduceIte,reduceCtorEq,gj,iU,pX,me,uj,i64,bV,iD,bD];refine rl.of 29 30 _ (Ou t.length false) (t.length+1) (vt false t.length) (λi s=>∃B:List Nat,s=ZG t root parts bg nb Bs g b a C (cR t Bs C i).1 (cR t Bs C i).2 B)
  (λe=>e 0=.any/\e 5=.rf 6 0 0 0/\e 7=.rf 8 0 0 0/\e 8=.rf 11 0 0 0/\e 9=.rf 9 0 0 0/\e 29=.d (.cl (.func 106) [] (Ou t.length false))/\∀t,[5,7,8,9,29].contains t=false->e t=.any)
  rfl rfl (by decide) (G8 t.length ht false) ⟨_,_,(br.DD ((bO.bx 3 rfl rfl rfl).trans ((mF (pre:=[]) (post:=[]) 8 1 rfl rfl rfl).trans (mF (pre:=[]) (post:=[]) 9 1 rfl rfl rfl)))).trans (br.C8 [0,1,2,6,7,4,5,11,8,10,12,9] [5,7,8,9,29] (by rfl)),rfl,⟨rfl,rfl,rfl,rfl,rfl,rfl,λt ht=>ap (by rw[ht];exact Bool.false_ne_true)⟩,?_⟩ ?_ ?_
 ·refine⟨[],?_⟩;have hr:∀n q,(⟨q,true,1,List.replicate n [V.d (D.sc (Value.bool false))]⟩:VL.Obj)=b5 q (List.replicate n false):=λn q=>by simp [b5,bV,bD]
  have Ee:([V.d (D.sc (Value.bool false))]::List.replicate t.length [V.d (D.sc (Value.bool false))])=List.replicate (t.length+1) [V.d (D.sc (Value.bool false))]:=rfl;have C5:∀n q,(⟨q,true,1,List.replicate n [V.d (D.sc (Value.int IntKind.i64 0))]⟩:VL.Obj)=bo q (List.replicate n 0):=λn q=>by simp [bo,i64]
  rw[Ee];simp only[K5,bM,agF,agm,agf,agd,afR,afU,MB,OQ,List.map_replicate,nO,nO.go,afQ,afS,afZ,af0,
   lF,agW,agX,ji,lR,pZ,lD _ (rfl:List.idxOf? 0 [0,1,2,6,7,4,5,11,8,10,12,9]=some 0)]
  simp only[hr,C5,lR,pZ,eI,false_and,true_and,and_self,if_true,if_false,reduceIte];rfl
 ·rintro e ⟨f0,f5,f7,f8,f9,f29,fa⟩ i s hi ⟨B,rfl⟩;have hi':i<=t.length:=by omega
  have BT:vt false t.length i=(i:Int):=by simp only[vt,age,if_false]
  rw[BT];obtain⟨vu,CZ,S8,Y5⟩:=vW t Bs C i;have DZ:cR t Bs C (i+1)=(jJ t Bs C i (C.length+1) 0 (hU t Bs C i (cR t Bs C i).1.rd ⟨(cR t Bs C i).1.ad,(cR t Bs C i).1.ho,[],(cR t Bs C i).2⟩),(cR t Bs C i).1.gn):=rfl;rw[DZ];generalize cR t Bs C i=ST at *;obtain⟨⟨ad,ho,rd,gn⟩,gb⟩:=ST;simp only at vu CZ S8 Y5 ⊢;simp only[zX,cQ,dx,dB,dC,dD,gl,ja,jg,jk,mA,eI,eJ,fX,reduceIte,reduceCtorEq,gj,i64,bV,iD,bD,ZG,fg,f0,f5,f7,f8,f9,dc,da,bU,aP];refine ar mix [3,4] [] (by rfl) ?_;have e1:∀q l,(bo q l).g=q:=λ_ _=>rfl;have e2:∀q l,(bo q l).sz=1:=λ_ _=>rfl;have e3:∀q l,(bo q l).aw.length=l.length:=λ_ _=>by simp [bo]
  simp only[zX,cQ,dx,dB,dC,dD,gl,ja,jg,jk,mA,eI,eJ,fX,reduceIte,reduceCtorEq,gj,i64,bV,iD,bD,f0,f5,f7,f8,f9,bU,aP,afN,afX,e1,e2,e3,af3,and_self,true_and];have Vw:=pC t Bs C i;have T5:∀e∈rd,e+1<C.length:=λe he=>by
   have h1:=Y5 e he;refine hg.next e ?_ (.inl h1);refine Decidable.byContradiction λfI=>?_;have:eV C e=⟨0,0,0,0,none⟩:=by unfold eV;rw[af9,agG (by omega)];rfl
   rw[this]at h1;cases h1
  refine au (λn e' s=>∃m:Nat,n=rd.length-m/\m<=rd.length/\e' 0=.any/\e' 9=.rf 9 0 0 0/\e' 10=i64 i/\e' 34=.so 7 gn 0 rd.length/\e' 35=i64 rd.length/\e' 36=i64 m/\s=Uy t root parts bg nb Bs g b a C (hU t Bs C i (rd.take m) ⟨ad,ho,[],gb⟩) gn rd)
   ⟨_,_,_,Vu 10 rfl,0,rfl,by omega,f0,f9,rfl,rfl,rfl,rfl,by rfl⟩ ?_
  rintro n e' s ⟨m,rfl,hm,q0,q9,iF,Yo,Xq,YP,rfl⟩;have Vw:=pC t Bs C i (rd.take m) ⟨ad,ho,[],gb⟩;have Y2:iM i ad<=ad.length:=ag5;obtain⟨a1,a2,a3,a4,_⟩:=Vw;simp only[af0]at a1 a2 a3 a4;rcases agi m rd.length with az|fI
  ·have aC:(m:Int)<(rd.length:Int):=by omega
   obtain⟨x,hx⟩:∃x,rd[m]?=some x:=⟨_,afP az⟩
   have hxC:=T5 x (afW hx);have hw:IntKind.i64.wrap ((x:Int)+1)=((x+1:Nat):Int):=by rw[bd _ (by omega)];rfl
   have wI:(0:Int)<=(m:Int):=by omega
   have hc:=λK hk=>En t root parts bg nb Bs g b a C (Gu t root parts bg nb Bs g b a C i hg nr ht (by omega) C.length) (n:=x+1) (st:=hU t Bs C i (rd.take m) ⟨ad,ho,[],gb⟩) hxC (by omega) (by omega) (by omega) (by omega) (gq:=gn) (rq:=rd) (K:=K) hk;rw[<- FL,<- aR hx]at hc;generalize AB:hU t Bs C i (rd.take (m+1)) ⟨ad,ho,[],gb⟩=E2 at *;unfold ek Uy at hc;have hxm:(bo gn rd).aw[m]?=some [i64 (x:Int)]:=by simp [bo,hx]
   simp only[i64]at hxm;simp only[zX,cQ,dx,dB,dC,dD,gl,ja,jg,jk,mA,eI,eJ,fX,reduceIte,reduceCtorEq,gj,i64,bV,iD,bD,Uy,dc,da,q0,q9,iF,Yo,Xq,YP,zZ,bU,aP,aC,az,wI,e1,e2,e3,afT,afX,hxm,hw,afQ,afS];refine hc _ ?_;simp only[zX,cQ,dx,dB,dC,dD,gl,ja,jg,jk,mA,eI,eJ,fX,reduceIte,reduceCtorEq,gj,i64,bV,iD,bD,q0,q9,iF,Yo,Xq,YP,bU,aP,afQ,afS];refine⟨rd.length-(m+1),_,_,by omega,br.refl,m+1,rfl,az,?_,?_,?_,?_,?_,?_,by rw[AB];rfl⟩ <;> (try simp only[zU,gj,cQ,dx,eI,reduceIte])
   ·exact q0
   ·exact q9
   ·exact iF
   ·exact Yo
   ·exact Xq
   ·rw[bd _ (by omega)];rfl
  ·have QL:m=rd.length:=by omega
   subst QL;rw[agj]at *;have hc:=λK hk=>En t root parts bg nb Bs g b a C (Gu t root parts bg nb Bs g b a C i hg nr ht (by omega) C.length) (n:=0) (st:=hU t Bs C i rd ⟨ad,ho,[],gb⟩) hC (by omega) (by omega) (by omega) (by omega) (gq:=gn) (rq:=rd) (K:=K) hk;generalize jJ t Bs C i (C.length+1) 0 (hU t Bs C i rd ⟨ad,ho,[],gb⟩)=E2 at *;unfold ek Uy at hc;simp only[zX,cQ,dx,dB,dC,dD,gl,ja,jg,jk,mA,eI,eJ,fX,reduceIte,reduceCtorEq,gj,i64,bV,iD,bD,Uy,dc,da,q0,q9,iF,Yo,Xq,YP,zZ,bU,aP,agO,afQ,afS];refine hc _ ?_;simp only[zX,cQ,dx,dB,dC,dD,gl,ja,jg,jk,mA,eI,eJ,fX,reduceIte,reduceCtorEq,gj,i64,bV,iD,bD,q0,q9,iF,Yo,Xq,YP,bU,aP,afQ,afS];have Eb:K2 [0,1,2,3,4,5,6,10,8,9,7,11] [5,7,8,9,29] e=e:=by
    refine Ep fa ?_;intro x hx;simp only[agV,ag8,or_false]at hx;rcases hx with rfl|rfl|rfl|rfl|rfl
    ·rw[f5];rfl
    ·rw[f7];rfl
    ·rw[f8];rfl
    ·rw[f9];rfl
    ·rw[f29];rfl
   refine⟨_,br.JQ [0,1,2,3,4,5,6,10,8,9,7,11] _ (by rfl) Eb,rd,?_⟩;simp only[lF,afR,afU,agW,agX,ji,lR,pZ,lD _ (rfl:List.idxOf? 0 [0,1,2,3,4,5,6,10,8,9,7,11]=some 0)];rfl
 ·rintro e ⟨f0,f5,f7,f8,f9,f29,fa⟩ s ⟨B,rfl⟩;simp only[zX,cQ,dx,dB,dC,dD,gl,ja,jg,jk,mA,eI,eJ,fX,reduceIte,reduceCtorEq,gj,ZG,fg,dc,f0,f5,sg,xR];refine⟨[0,1,2,5],rfl,?_⟩;simp only[lF,afR,afU,agW,agX,ji,lR,lD _ (rfl:List.idxOf? 0 [0,1,2,5]=some 0)];exact⟨rfl,rfl⟩
end
section
variable (t:List Int) (root parts:D) (bg nb:Nat) (Bs:List (List Bool)) (b a:Nat)
def wO (C:List ay):List VL.Obj:=[dp t root parts bg nb,fr bg Bs,oh 5 C.length,
 ⟨0,true,1,[[.cl (.func 55) [] [.rf 2 0 0 0]]]⟩,
 ⟨0,true,1,[[.cl (.func 56) [] [.rf 3 0 0 0,mB b a,.rf 4 0 0 0,.rf 2 0 0 0]]]⟩,cG C.length b a C]
omit t root parts bg nb Bs in
def dj (re:Re) (k:Nat):List V:=[.d (re.bj k),.rf 3 0 0 0,mB b a,.rf 4 0 0 0,.rf 2 0 0 0]
omit t root parts bg nb Bs b a in
def LB (re:Re):Bool:=decide ((re.op=4\/re.op=5->re.kids.length=1)/\(re.op=3->1<=re.kids.length)/\re.kids.length<=1000000/\0<=re.mn/\re.mn<=1000000/\-1<=re.mx/\re.mx<=1000000/\0<=re.n/\re.n<=1000000)
omit t root parts bg nb Bs b a in
theorem qV {re:Re}:LB re=true ↔ (re.op=4\/re.op=5->re.kids.length=1)/\(re.op=3->1<=re.kids.length)/\re.kids.length<=1000000/\0<=re.mn/\re.mn<=1000000/\-1<=re.mx/\re.mx<=1000000/\0<=re.n/\re.n<=1000000:=by unfold LB;rw[decide_eq_true_eq]
def xS (re:Re):Prop:=∀(k:Nat) (C:List ay),C.length+re.gD<=1000000000000 ->
 aq Try.prog 56 (dj b a re k) (wO t root parts bg nb Bs b a C) λv s=>v=.tu []/\s=wO t root parts bg nb Bs b a (re.emit k C)
theorem Km (C:List ay):(wO t root parts bg nb Bs b a C).map (aT [0,1,2,3,4,5])=wO t root parts bg nb Bs b a C:=by simp only[wO,afR,afU,jY,fh];simp [aT,dp,oh,mB,aL,aL.go]
theorem wU (C:List ay):(wO t root parts bg nb Bs b a C).all (aG 6)=true:=by have:=gr 6 bg Bs;simp only[wO,agq,agA,kj 6 _ _ _ (by omega),af5];simp [aG,dp,oh,mB,ah,ah.go,this]
variable {t root parts bg nb Bs b a}
variable{K:V->List VL.Obj->Prop}{tl:List VL.Obj}{C:List ay}
theorem Td {f:FuncId}{args:List V}{r:V}{C':List ay} (h:aq Try.prog f args (wO t root parts bg nb Bs b a C) λv s=>v=r/\s=wO t root parts bg nb Bs b a C') (ha:args=args.map (aL [0,1,2,3,4,5])) (DC:ah.go 6 args=true) (hr:aL [0,1,2,3,4,5] r=r)
  (hk:K r (wO t root parts bg nb Bs b a C'++tl)):aq Try.prog f args (wO t root parts bg nb Bs b a C++tl) K:=by
 have C5:=Km t root parts bg nb Bs b a C';refine cH [0,1,2,3,4,5] h (by decide) rfl ?_ ha DC (wU t root parts bg nb Bs b a C) (r':=r) hr ?_
 ·have:=Km t root parts bg nb Bs b a C;have h2:(wO t root parts bg nb Bs b a C).map (λo=>some (aT [0,1,2,3,4,5] o))=((wO t root parts bg nb Bs b a C).map (aT [0,1,2,3,4,5])).map some:=by rw[agy];rfl
  rw[h2,this];rfl
 ·rw[C5];exact hk
theorem zh (hC:C.length<=1000000000000) (x:ay) (hk:K (i64 C.length) (wO t root parts bg nb Bs b a (C++[x])++tl)):aq Try.prog 55 [rH b a x,.rf 2 0 0 0] (wO t root parts bg nb Bs b a C++tl) K:=by
 have e0:∀n,aT [0,1,2,5] (oh 3 n)=oh 5 n:=λn=>by simp [aT,oh,aL,aL.go]
 have e1:aT [0,1,2,5] (dp t root parts bg nb)=dp t root parts bg nb:=rfl;have hb:=gr 4 bg Bs;refine cH [0,1,2,5] (RW t root parts bg nb Bs b a C hC x) (by simp) (by rfl) ?_ ?_ ?_ ?_ (r':=i64 C.length) rfl ?_
 ·simp only[afR,afU,e0,e1,jY,fh];rfl
 ·simp [rH,ay.cells,Ea,aL,aL.go,i64]
 ·simp [rH,ay.cells,IC 4 b a (by omega),ah,ah.go,i64]
 ·simp only[agq,agA,afZ,af0,afX,eJ,kj 4 _ _ _ (by omega),af5];simp [aG,oh,dp,ah,hb]
 ·simp only[afR,afU,e0,e1,jY,fh,aE,wO,afQ,afS,agd,agf];simpa [wO]using hk
theorem kf (hC:C.length<=1000000000000) (op x y n:Int) (hk:K (i64 C.length) (wO t root parts bg nb Bs b a (C++[⟨op,x,y,n,none⟩])++tl)):aq Try.prog 55 [.ag [i64 op,i64 x,i64 y,i64 n,.d (.sc .nilFunc)],.rf 2 0 0 0] (wO t root parts bg nb Bs b a C++tl) K :=
 zh hC ⟨op,x,y,n,none⟩ hk
theorem Yl (C:List ay) (v:V) (tl:List VL.Obj):K5 6 0 v (wO t root parts bg nb Bs b a C++(⟨0,true,1,[[v]]⟩:VL.Obj)::tl)=wO t root parts bg nb Bs b a C++(⟨0,false,1,[[nO 6 0 v v]]⟩:VL.Obj)::(tl.map λo=>{ o with aw:=o.aw.map λc=>c.map (nO 6 0 v) }):=by have e1:=MB 6 0 v bg Bs;have e2:=OQ 6 0 v C.length b a C;simp only[wO,K5,bM,afQ,afS,agF,agm,agf,agd,afR,afU,e1,e2];rfl
theorem uB (hC:C.length<=1000000000000) (x:ay) (d:D) (arg:V) (yG:nO 6 0 (.d d) arg=rH b a x) (hk:K (i64 C.length) (wO t root parts bg nb Bs b a (C++[x])++[⟨0,false,1,[[.d d]]⟩])) :
  aq Try.prog 55 [arg,.rf 2 0 0 0] (wO t root parts bg nb Bs b a C++[⟨0,true,1,[[.d d]]⟩]) K:=by
 refine Md (o:=⟨0,true,1,[[.d d]]⟩) (v:=.d d) 6 rfl rfl rfl ?_;have h1:([arg,.rf 2 0 0 0].map (nO 6 (⟨0,true,1,[[.d d]]⟩:VL.Obj).g (.d d)))=[rH b a x,.rf 2 0 0 0]:=by show [nO 6 0 (.d d) arg,_]=_;rw[yG];rfl
 rw[h1];have h2:=Yl (t:=t) (root:=root) (parts:=parts) (bg:=bg) (nb:=nb) (Bs:=Bs) (b:=b) (a:=a) C (.d d) [];rw[show (⟨0,true,1,[[.d d]]⟩:VL.Obj).g=0 from rfl,h2];exact zh hC x hk
end
structure jM where
 op:Int
 x:Int
 y:Int
 n:Int
 set:List (Int×Int)
def jM.cells (i:jM):List D:=[iD i.op,iD i.x,iD i.y,iD i.n,.sl (i.set.map aV)]
structure J9 where
 ins:List jM
 ak:Int
 aN:Bool
def J9.cells (g:J9):List D:=[.sl (g.ins.map jM.cells),iD g.ak,bD g.aN]
def Lu (g:J9):V:=.ag (g.cells.map .d)
theorem MI (g:J9):Lu g=.ag [.d (.sl (g.ins.map jM.cells)),.d (iD g.ak),.d (bD g.aN)]:=rfl
mutual
def Re.comp:Re->List Int->Bool
 |.mk op _ kids _ _ mode n _,a =>
  if op=4/\(mode=2\/Re.uQ kids=true) then false
  else if op=5/\n∈a then false
  else if 5<op/\op≠11 then false
  else Re.It kids (if op=5 then a++[n] else a)
def Re.It:List Re->List Int->Bool
 |[],_=>true
 |k::l,a=>k.comp a&&Re.It l a
end
theorem Re.Fb:∀(l:List Re) (a:List Int),Re.It l a=l.all λk=>k.comp a
 |[],_=>by simp [Re.It]
 |k::l,a=>by simp [Re.It,Re.Fb l a]
theorem Re.uq (re:Re) (a:List Int):re.comp a=if re.op=4/\(re.mode=2\/Re.uQ re.kids=true) then false
  else if re.op=5/\re.n∈a then false
  else if 5<re.op/\re.op≠11 then false
  else re.kids.all λk=>k.comp (if re.op=5 then a++[re.n] else a):=by
 cases re;simp only[Re.comp,Re.Fb,Re.op,Re.kids,Re.mode,Re.n];rfl
def GF (op mn mx:Int) (k n:Int):Int :=
 min (if op=1\/op=11 then 1 else if op=3 then n+2*k-2 else if op=5 then n+2 else if op=4 then (if mx=-1 then (mn+1)*n+2 else mx*n+mx-mn) else n) 10000
mutual
def Re.jL:Re->Int
 |.mk op _ kids mn mx _ _ _=>GF op mn mx kids.length (Re.fJ kids)
def Re.fJ:List Re->Int
 |[]=>0
 |k::l=>k.jL+Re.fJ l
end
theorem Re.FN (re:Re):re.jL=GF re.op re.mn re.mx re.kids.length (Re.fJ re.kids):=by
 cases re;simp only[Re.jL,Re.op,Re.kids,Re.mn,Re.mx]
theorem Re.zl:∀(l:List Re) (k:Re),Re.fJ (l++[k])=Re.fJ l+k.jL
 |[],k=>by simp [Re.fJ]
 |x::l,k=>by simp only[afQ,Re.fJ,Re.zl l k];omega
def IN (x:Int):jM:=⟨3,x,0,0,[]⟩
def Fp (n:Int):jM:=⟨4,0,0,n,[]⟩
def xC (mode a b:Int):jM:=if mode=1 then ⟨2,b,a,0,[]⟩ else ⟨2,a,b,0,[]⟩
def fN (c:Int->List jM):Nat->Int->List jM
 |0,_=>[]
 |k+1,f=>fN c k f++c (f+(fN c k f).length)
def fH (c:Int->List jM) (mode:Int) (fin:Int):Nat->Int->List jM
 |0,_=>[]
 |k+1,f=>fH c mode fin k f++xC mode (f+(fH c mode fin k f).length+1) fin::c (f+(fH c mode fin k f).length+1)
def Om (c:Int->List jM) (mn mx mode sz:Int) (f:Int):List jM :=
 let pre:=fN c mn.toNat f
 if mx=-1 then
  let kid:=c (f+pre.length+1)
  pre++xC mode (f+pre.length+1) (f+pre.length+kid.length+2)::(kid++[IN (f+pre.length)])
 else pre++fH c mode (f+sz) (mx-mn).toNat (f+pre.length)
mutual
def Re.code:Re->Int->List jM
 |.mk op set kids mn mx mode n _,f =>
  if op=1 then [⟨1,0,0,0,set⟩] else if op=11 then [⟨5,0,0,n,[]⟩] else if op=2 then Re.dI kids f
  else if op=3 then Re.er kids f
  else if op=5 then Fp (2*n-2)::(Re.BU kids (f+1)++[Fp (2*n-1)])
  else if op=4 then Om (λi=>Re.BU kids i) mn mx mode (GF op mn mx kids.length (Re.fJ kids)) f
  else []
def Re.dI:List Re->Int->List jM
 |[],_=>[]
 |k::l,f=>k.code f++Re.dI l (f+(k.code f).length)
def Re.er:List Re->Int->List jM
 |[],_=>[]
 |k::l,f=>match l with
  |[]=>k.code f
  |_::_=>xC 0 (f+1) (f+(k.code (f+1)).length+2)::(k.code (f+1)++IN (f+(k.code (f+1)).length+2+(Re.er l (f+(k.code (f+1)).length+2)).length)::Re.er l (f+(k.code (f+1)).length+2))
def Re.BU:List Re->Int->List jM
 |[],_=>[]
 |k::_,f=>k.code f
end
theorem Re.ng (re:Re) (f:Int):re.code f=if re.op=1 then [⟨1,0,0,0,re.set⟩] else if re.op=11 then [⟨5,0,0,re.n,[]⟩] else if re.op=2 then Re.dI re.kids f
  else if re.op=3 then Re.er re.kids f
  else if re.op=5 then Fp (2*re.n-2)::(Re.BU re.kids (f+1)++[Fp (2*re.n-1)])
  else if re.op=4 then Om (λi=>Re.BU re.kids i) re.mn re.mx re.mode re.jL f
  else []:=by
 cases re;rw[Re.code,Re.jL];rfl
theorem Re.xY:∀(l:List Re) (k:Re) (f:Int),Re.dI (l++[k]) f=Re.dI l f++k.code (f+(Re.dI l f).length)
 |[],k,f=>by simp [Re.dI]
 |x::l,k,f=>by simp only[afQ,Re.dI,Re.xY l k,agu,af7];congr 3;omega
theorem QK (l:List Int) (x:Int) (hl:l.length<=1000000000):aO prog 96 [.d (al l),i64 x] (bV (decide (x∈l))):=by
 refine an func96 rfl ntmps96 results96 rfl 0 51 (by simp) (by simp) ?_;simp only[zX,simprocAttr,i64];refine au (λn e s=>∃i:Nat,n=l.length-i/\i<=l.length/\e 0=.d (al l)/\e 1=i64 x/\e 5=i64 i/\s=[]/\x ∉ l.take i)
  ⟨_,_,_,br.refl,0,rfl,by omega,rfl,rfl,rfl,rfl,by simp⟩ ?_
 rintro n e s ⟨i,rfl,hi,h0,h1,h5,rfl,mT⟩;rcases agi i l.length with az|fI
 ·obtain⟨y,hy⟩:∃y,l[i]?=some y:=⟨_,afP az⟩
  by_cases OA:y=x
  ·simp only[zX,simprocAttr,i64,al,iD,h0,h1,h5,az,hy,OA];rw[bi (by rw[<- OA];exact afW hy)];all_goals first|exact⟨rfl,rfl⟩|exact⟨rfl,trivial⟩|rfl|trivial|(rw[ai];rfl)
  ·simp only[zX,simprocAttr,i64,al,iD,h0,h1,h5,az,hy,OA];refine⟨l.length-(i+1),_,_,by omega,br.refl,i+1,rfl,az,?_,?_,?_,rfl,by rw[aR hy];simp [mT,Ne.symm OA]⟩ <;> (try simp only[zU,gj,cQ,dx,eI,reduceIte])
   ·exact h0
   ·exact h1
   ·rw[bd _ (by omega)];rfl
 ·have cV:i=l.length:=by omega
  subst cV;rw[agj]at mT;simp only[zX,simprocAttr,i64,al,iD,h0,h1,h5,agK];rw[b6 mT];all_goals first|exact⟨rfl,rfl⟩|exact⟨rfl,trivial⟩|rfl|trivial|(rw[ai];rfl)
end Go.Proofs.Ytfmdmlfhigocaaa
