/- A part of the proof (O11 O14 K1 F62). -/
import Derived.Test.YtjjfioalgbecmaaGreatOQ28
import Derived.Test.YtjjfioalgbecmaaGreatOQ30
set_option linter.unusedSimpArgs false
set_option linter.unusedVariables false
open Nat renaming reduceShiftRight → jN, reduceMod → oN, reduceEqDiff → oV, reduceBEq → pZ
set_option maxRecDepth 100000
set_option maxHeartbeats 80000000
namespace Go.Proofs.YtjjfioalgbecmaaGreat
open Go.VL Go.Proofs.Tryz
theorem qo (aZ:List Nat) (q:Nat) (l:List Nat):di aZ (bp q l)=bp q l:=by unfold di bp;simp only[akq];congr 1
theorem O8 (k g:Nat) (v:V) (bg:Nat) (Bs:List (List Bool)):(⟨(fx bg Bs).g,(fx bg Bs).live,(fx bg Bs).sz,(fx bg Bs).au.map λc=>c.map (nZ k g v)⟩:VL.Obj)=fx bg Bs:=by unfold fx;simp only[akq];congr 1
theorem RA (k g:Nat) (v:V) (cg b a:Nat) (C:List aq):(⟨(cN cg b a C).g,(cN cg b a C).live,(cN cg b a C).sz,(cN cg b a C).au.map λc=>c.map (nZ k g v)⟩:VL.Obj)=cN cg b a C:=by
 have hp:∀x,nZ k g v (cj b a x)=cj b a x:=by
  intro x;cases x with
  |none=>rfl
  |some x =>
   obtain⟨re,k⟩:=x;unfold cj;simp only;split
   ·rfl
   ·split <;> rfl
 unfold cN;simp only[akq];congr 1;apply akz;intro i _;simp [aq.cells,hp,nZ,i64]
theorem YT {L:Nat}{e:VL.Env}{s:List VL.Obj}{gb:Nat}{B:List Nat} (k:Nat) (ho:s[k]?=some (bp gb B)):bA L e s e (s.set k (bp gb [])):=by
 cases B with
 |nil =>
  have:s.set k (bp gb [])=s:=by
   apply List.ext_getElem?;intro j;by_cases hj:j=k
   ·subst hj;rw[List.getElem?_set_self (List.getElem?_eq_some_iff.1 ho).1,ho]
   ·rw[List.getElem?_set_ne (Ne.symm hj)]
  rw[this];exact bA.refl
 |cons x B =>
  refine bA.W4 (o:=bp gb (x::B)) k 0 ho (λes h=>?_);have h1:(bp gb (x::B)).au[0]?=some [i64 (x:Int)]:=rfl;rw[h,fz,List.getElem?_map]at h1;obtain⟨y,_,h2⟩:=Option.map_eq_some_iff.1 h1;have h3:=congrArg List.length h2;simp at h3
section
variable (t:List Int) (Bs:List (List Bool)) (C:List aq)
def jF (p:Nat) (l:List Nat) (st:Fg):Fg:=l.foldl (λst n=>kW t Bs C p (C.length+1) (n+1) st) st
def cW:Nat->Fg×Nat
 |0=>(⟨List.replicate C.length 0,List.replicate (t.length+1) false,[],0⟩,0)
 |p+1=>(kW t Bs C p (C.length+1) 0 (jF t Bs C p (cW p).1.rd ⟨(cW p).1.ad,(cW p).1.ho,[],(cW p).2⟩),(cW p).1.gn)
def zd:List Bool:=(cW t Bs C (t.length+1)).1.ho
theorem pO (p:Nat):∀(l:List Nat) (st:Fg),rZ C p st (jF t Bs C p l st)
 |[],st=>.refl st
 |n::l,st=>by have h1:=BE t Bs C p (C.length+1) (n+1) st;exact h1.trans (pO p l _)
theorem HL (p:Nat) (l:List Nat) (n:Nat) (st:Fg):jF t Bs C p (l++[n]) st=kW t Bs C p (C.length+1) (n+1) (jF t Bs C p l st):=by unfold jF;rw[ak7];rfl
theorem w8:∀p,(cW t Bs C p).1.ad.length=C.length/\(cW t Bs C p).1.ho.length=t.length+1/\(cW t Bs C p).1.rd.length<=C.length/\∀e∈(cW t Bs C p).1.rd,(e9 C e).op=1
 |0=>by simp [cW]
 |p+1=>by obtain⟨h1,h2,_,_⟩:=w8 p;have k1:=pO t Bs C p (cW t Bs C p).1.rd ⟨(cW t Bs C p).1.ad,(cW t Bs C p).1.ho,[],(cW t Bs C p).2⟩;have k2:=BE t Bs C p (C.length+1) 0 (jF t Bs C p (cW t Bs C p).1.rd ⟨(cW t Bs C p).1.ad,(cW t Bs C p).1.ho,[],(cW t Bs C p).2⟩);obtain⟨a1,a2,a3,a4,a5⟩:=k1.trans k2;simp only[ajX]at a1 a2 a3 a4;have hc:jd p (cW t Bs C p).1.ad<=(cW t Bs C p).1.ad.length:=akP;simp only[cW];refine⟨a1.trans h1,a2.trans h2,ae,λe he=>(a5 e he).resolve_left ak⟩
end
section
variable (t:List Int) (root parts:D) (bg nb:Nat) (Bs:List (List Bool)) (g b a:Nat) (C:List aq)
def bSO (st:Fg) (gb:Nat) (B:List Nat):List VL.Obj:=fq t root parts bg nb Bs g b a C st++[bp gb B,dh 10 gb B.length]
def XZ (st:Fg) (gq:Nat) (rq:List Nat):List VL.Obj :=
 [dz t root parts bg nb,fx bg Bs,cN g b a C,bp 0 st.ad,dm 0 3 C.length,cq 0 st.ho,dm 0 5 (t.length+1),bp gq rq,dh 10 st.gn st.rd.length,⟨0,true,1,[[A1 g C.length]]⟩,bp st.gn st.rd,dh 7 gq rq.length]
theorem Gm {p k n gq:Nat}{rq:List Nat}{st:Fg} (h:LV t root parts bg nb Bs g b a C p k) (hn:n<C.length) (h1:st.ad.length=C.length) (h2:st.ho.length=t.length+1) (hu:jd p st.ad<=k) (hr:st.rd.length+jd p st.ad<=C.length) {K:V->List VL.Obj->Prop}
  (hk:K (.tu []) (XZ t root parts bg nb Bs g b a C (kW t Bs C p (k+1) n st) gq rq)) :
  ar Tryz.prog 99 (eJ g C.length n p) (XZ t root parts bg nb Bs g b a C st gq rq) K:=by
 have BP:∀st,(fq t root parts bg nb Bs g b a C st).map (aN [0,1,2,3,4,5,6,10,8,9])=[dz t root parts bg nb,fx bg Bs,cN g b a C,bp 0 st.ad,dm 0 3 C.length,cq 0 st.ho,dm 0 5 (t.length+1),bp st.gn st.rd,dh 10 st.gn st.rd.length,⟨0,true,1,[[A1 g C.length]]⟩]:=by intro st;simp only[fq,ajR,ajV,ko,yv,fr,nS];simp [aN,dz,dm,dh,A1,aE,aE.go,i64]
 refine cV [0,1,2,3,4,5,6,10,8,9] (h n st hn h1 h2 hu hr) aU rfl ?_ cB cB (Ok t root parts bg nb Bs g b a C st) (r':=.tu []) rfl ?_
 ·have h3:(fq t root parts bg nb Bs g b a C st).map (λo=>some (aN [0,1,2,3,4,5,6,10,8,9] o))=((fq t root parts bg nb Bs g b a C st).map (aN [0,1,2,3,4,5,6,10,8,9])).map some:=by rw[akq];rfl
  rw[h3,BP];rfl
 ·rw[BP];exact hk
theorem Hj (hg:nj t Bs C) (nD:nb=Bs.length) (ht:t.length<=1000000) (hC:0<C.length) :
  ar Tryz.prog 62 [.rf 0 0 0 0,.so 2 g 0 C.length] [dz t root parts bg nb,fx bg Bs,cN g b a C] λv s=>v=.so 3 0 0 (t.length+1)/\s=[dz t root parts bg nb,fx bg Bs,cN g b a C,cq 0 (zd t Bs C)]:=by
 have lX:=yQ t.length false;have hlen:=hg.len;have w1:IntKind.i64.wrap ((t.length:Int)+1)=((t.length+1:Nat):Int):=by rw[bG _ ae];rfl
 simp only[i64,bV]at lX;refine NY Tryz.func62 rfl Tryz.ntmps62 Tryz.results62 rfl 3 258771785723 ak ak ?_;simp only[zX,simprocAttr,jk,qn,mE,ve,i64,bV,iD,bD,dz,ao,b6,aO,ajM,w1];have hcg:(cN g b a C).g=g:=rfl;refine⟨⟨ae,ae,ae⟩,⟨ae,ae,ae⟩,?_⟩;refine dY lX ?_;simp only[zX,simprocAttr,jk,qn,mE,ve,i64,bV,iD,bD];refine rX.of 29 30 _ (Ra t.length false) (t.length+1) (vZ false t.length) (λi s=>∃B:List Nat,s=bSO t root parts bg nb Bs g b a C (cW t Bs C i).1 (cW t Bs C i).2 B)
  (λe=>e 0=.any/\e 5=.rf 6 0 0 0/\e 7=.rf 8 0 0 0/\e 8=.rf 11 0 0 0/\e 9=.rf 9 0 0 0/\e 29=.d (.cl (.func 118) [] (Ra t.length false))/\∀t,[5,7,8,9,29].contains t=false->e t=.any)
  rfl rfl aU (I7 t.length ht false) ⟨_,_,(bA.K4 ((bW.bx 3 rfl rfl rfl).trans ((kL (pre:=[]) (post:=[]) 8 1 rfl rfl rfl).trans (kL (pre:=[]) (post:=[]) 9 1 rfl rfl rfl)))).trans (bA.Dv [0,1,2,6,7,4,5,11,8,10,12,9] [5,7,8,9,29] cB),rfl,⟨rfl,rfl,rfl,rfl,rfl,rfl,λt ht=>ap (by rw[ht];exact Bool.false_ne_true)⟩,?_⟩ ?_ ?_
 ·refine⟨[],?_⟩;have hr:∀n q,(⟨q,true,1,List.replicate n [V.d (D.sc (Value.bool false))]⟩:VL.Obj)=cq q (List.replicate n false):=λn q=>by simp [cq,bV,bD]
  have Gd:([V.d (D.sc (Value.bool false))]::List.replicate t.length [V.d (D.sc (Value.bool false))])=List.replicate (t.length+1) [V.d (D.sc (Value.bool false))]:=rfl;have BP:∀n q,(⟨q,true,1,List.replicate n [V.d (D.sc (Value.int IntKind.i64 0))]⟩:VL.Obj)=bp q (List.replicate n 0):=λn q=>by simp [bp,i64]
  rw[Gd];simp only[Ng,ck,List.getElem?_cons_succ,List.getElem?_cons_zero,akf,aj9,ajR,ajV,O8,RA,List.map_replicate,nZ,nZ.go,ajN,ajO,ajW,ajX,
   kx,akM,akN,ju,mg,qo,lU _ (rfl:List.idxOf? 0 [0,1,2,6,7,4,5,11,8,10,12,9]=some 0)]
  simp only[hr,BP,mg,qo,oV,false_and,true_and,and_self,if_true,if_false,reduceIte];rfl
 ·rintro e ⟨f0,f5,f7,f8,f9,f29,fa⟩ i s hi ⟨B,rfl⟩;have hi':i<=t.length:=ae;have hpo:vZ false t.length i=(i:Int):=by simp only[vZ,ajY,if_false]
  rw[hpo];obtain⟨oT,BL,Ro,hl4⟩:=w8 t Bs C i;have Mq:cW t Bs C (i+1)=(kW t Bs C i (C.length+1) 0 (jF t Bs C i (cW t Bs C i).1.rd ⟨(cW t Bs C i).1.ad,(cW t Bs C i).1.ho,[],(cW t Bs C i).2⟩),(cW t Bs C i).1.gn):=rfl;rw[Mq];generalize cW t Bs C i=ST at *;obtain⟨⟨ad,ho,rd,gn⟩,gb⟩:=ST;simp only at oT BL Ro hl4 ⊢;simp only[zQ,simprocAttr,bSO,fq,f0,f5,f7,f8,f9,dm,dh,b6,aO];refine cu mix [3,4] [] ?_;have e1:∀q l,(bp q l).g=q:=λ_ _=>rfl;have e2:∀q l,(bp q l).sz=1:=λ_ _=>rfl;have e3:∀q l,(bp q l).au.length=l.length:=λ_ _=>by simp [bp]
  simp only[zQ,simprocAttr,f0,f5,f7,f8,f9,b6,aO,ajM,ajT,e1,e2,e3,ajZ,and_self,true_and];have YU:=pO t Bs C i;have XA:∀e∈rd,e+1<C.length:=λe he=>by
   have h1:=hl4 e he;refine hg.next e ?_ (.inl h1);refine Decidable.byContradiction λgx=>?_;have:e9 C e=⟨0,0,0,0,none⟩:=by unfold e9;rw[List.getD_eq_getElem?_getD,List.getElem?_eq_none ae];rfl
   rw[this]at h1;cases h1
  refine aw (λn e' s=>∃m:Nat,n=rd.length-m/\m<=rd.length/\e' 0=.any/\e' 9=.rf 9 0 0 0/\e' 10=i64 i/\e' 34=.so 7 gn 0 rd.length/\e' 35=i64 rd.length/\e' 36=i64 m/\s=XZ t root parts bg nb Bs g b a C (jF t Bs C i (rd.take m) ⟨ad,ho,[],gb⟩) gn rd)
   ⟨_,_,_,YT 10 rfl,0,rfl,ae,f0,f9,rfl,rfl,rfl,rfl,cB⟩ ?_
  rintro n e' s ⟨m,rfl,hm,q0,q9,jc,q34,q35,q36,rfl⟩;have YU:=pO t Bs C i (rd.take m) ⟨ad,ho,[],gb⟩;have hcN:jd i ad<=ad.length:=akP;obtain⟨a1,a2,a3,a4,_⟩:=YU;simp only[ajX]at a1 a2 a3 a4;rcases akd m rd.length with az|gx
  ·have aA:(m:Int)<(rd.length:Int):=by omega
   obtain⟨x,hx⟩:∃x,rd[m]?=some x:=cc az;have hxC:=XA x (List.mem_of_getElem? hx);have hw:IntKind.i64.wrap ((x:Int)+1)=((x+1:Nat):Int):=by rw[bG _ ae];rfl
   have EP:(0:Int)<=(m:Int):=ae;have hc:=λK hk=>Gm t root parts bg nb Bs g b a C (It t root parts bg nb Bs g b a C i hg nD ht ae C.length) (n:=x+1) (st:=jF t Bs C i (rd.take m) ⟨ad,ho,[],gb⟩) hxC ae ae ae ae (gq:=gn) (rq:=rd) (K:=K) hk;rw[<- HL,<- bm hx]at hc;generalize Cf:jF t Bs C i (rd.take (m+1)) ⟨ad,ho,[],gb⟩=E2 at *;unfold eJ XZ at hc;have VT:(bp gn rd).au[m]?=some [i64 (x:Int)]:=by simp [bp,hx]
   simp only[i64]at VT;simp only[zQ,simprocAttr,XZ,dm,dh,q0,q9,jc,q34,q35,q36,A1,b6,aO,aA,az,EP,e1,e2,e3,ajP,ajT,VT,hw,ajN,ajO];refine hc _ ?_;simp only[zQ,simprocAttr,q0,q9,jc,q34,q35,q36,b6,aO,ajN,ajO];refine⟨rd.length-(m+1),_,_,ae,bA.refl,m+1,rfl,az,?_,?_,?_,?_,?_,?_,by rw[Cf];rfl⟩ <;> (try simp only[zU,pZ,jN,oN,oV,reduceIte])
   ·exact q0
   ·exact q9
   ·exact jc
   ·exact q34
   ·exact q35
   ·rw[bG _ ae];rfl
  ·have TF:m=rd.length:=by omega
   subst TF;rw[akg]at *;have hc:=λK hk=>Gm t root parts bg nb Bs g b a C (It t root parts bg nb Bs g b a C i hg nD ht ae C.length) (n:=0) (st:=jF t Bs C i rd ⟨ad,ho,[],gb⟩) hC ae ae ae ae (gq:=gn) (rq:=rd) (K:=K) hk;generalize kW t Bs C i (C.length+1) 0 (jF t Bs C i rd ⟨ad,ho,[],gb⟩)=E2 at *;unfold eJ XZ at hc;simp only[zQ,simprocAttr,XZ,dm,dh,q0,q9,jc,q34,q35,q36,A1,b6,aO,aku,ajN,ajO];refine hc _ ?_;simp only[zQ,simprocAttr,q0,q9,jc,q34,q35,q36,b6,aO,ajN,ajO];have Gb:Na [0,1,2,3,4,5,6,10,8,9,7,11] [5,7,8,9,29] e=e:=by
    refine Gp fa ?_;intro x hx;simp only[akD,List.not_mem_nil,or_false]at hx;rcases hx with rfl|rfl|rfl|rfl|rfl
    ·rw[f5];rfl
    ·rw[f7];rfl
    ·rw[f8];rfl
    ·rw[f9];rfl
    ·rw[f29];rfl
   refine⟨_,bA.LY [0,1,2,3,4,5,6,10,8,9,7,11] _ cB Gb,rd,?_⟩;simp only[kx,ajR,ajV,akM,akN,ju,mg,qo,lU _ (rfl:List.idxOf? 0 [0,1,2,3,4,5,6,10,8,9,7,11]=some 0)];rfl
 ·rintro e ⟨f0,f5,f7,f8,f9,f29,fa⟩ s ⟨B,rfl⟩;simp only[zX,simprocAttr,bSO,fq,dm,f0,f5,Cl,v7];refine⟨[0,1,2,5],rfl,?_⟩;simp only[kx,ajR,ajV,akM,akN,ju,mg,lU _ (rfl:List.idxOf? 0 [0,1,2,5]=some 0)];exact⟨rfl,rfl⟩
end
section
variable (t:List Int) (root parts:D) (bg nb:Nat) (Bs:List (List Bool)) (b a:Nat)
def wO (C:List aq):List VL.Obj:=[dz t root parts bg nb,fx bg Bs,oy 5 C.length,
 ⟨0,true,1,[[.cl (.func 63) [] [.rf 2 0 0 0]]]⟩,
 ⟨0,true,1,[[.cl (.func 64) [] [.rf 3 0 0 0,mB b a,.rf 4 0 0 0,.rf 2 0 0 0]]]⟩,cN C.length b a C]
omit t root parts bg nb Bs in
def dy (re:Re) (k:Nat):List V:=[.d (re.bk k),.rf 3 0 0 0,mB b a,.rf 4 0 0 0,.rf 2 0 0 0]
omit t root parts bg nb Bs b a in
def NR (re:Re):Bool:=decide ((re.op=4\/re.op=5->re.kids.length=1)/\(re.op=3->1<=re.kids.length)/\re.kids.length<=1000000/\0<=re.mn/\re.mn<=1000000/\-1<=re.mx/\re.mx<=1000000/\0<=re.n/\re.n<=1000000)
omit t root parts bg nb Bs b a in
theorem rN {re:Re}:NR re=true ↔ (re.op=4\/re.op=5->re.kids.length=1)/\(re.op=3->1<=re.kids.length)/\re.kids.length<=1000000/\0<=re.mn/\re.mn<=1000000/\-1<=re.mx/\re.mx<=1000000/\0<=re.n/\re.n<=1000000:=by unfold NR;rw[decide_eq_true_eq]
def yq (re:Re):Prop:=∀(k:Nat) (C:List aq),C.length+re.eC<=1000000000000 ->
 ar Tryz.prog 64 (dy b a re k) (wO t root parts bg nb Bs b a C) λv s=>v=.tu []/\s=wO t root parts bg nb Bs b a (re.emit k C)
theorem Ml (C:List aq):(wO t root parts bg nb Bs b a C).map (aN [0,1,2,3,4,5])=wO t root parts bg nb Bs b a C:=by simp only[wO,ajR,ajV,ko,fr];simp [aN,dz,oy,mB,aE,aE.go]
theorem xI (C:List aq):(wO t root parts bg nb Bs b a C).all (aK 6)=true:=by have:=gu 6 bg Bs;simp only[wO,aks,akB,kv 6 _ _ _ ae,aj4];simp [aK,dz,oy,mB,aj,aj.go,this]
variable {t root parts bg nb Bs b a}
variable{K:V->List VL.Obj->Prop}{C:List aq}{tl:List VL.Obj}
theorem Ww {f:FuncId}{args:List V}{r:V}{C':List aq} (h:ar Tryz.prog f args (wO t root parts bg nb Bs b a C) λv s=>v=r/\s=wO t root parts bg nb Bs b a C') (ha:args=args.map (aE [0,1,2,3,4,5])) (wY:aj.go 6 args=true) (hr:aE [0,1,2,3,4,5] r=r)
  (hk:K r (wO t root parts bg nb Bs b a C'++tl)):ar Tryz.prog f args (wO t root parts bg nb Bs b a C++tl) K:=by
 have BP:=Ml t root parts bg nb Bs b a C';refine cV [0,1,2,3,4,5] h aU rfl ?_ ha wY (xI t root parts bg nb Bs b a C) (r':=r) hr ?_
 ·have:=Ml t root parts bg nb Bs b a C;have h2:(wO t root parts bg nb Bs b a C).map (λo=>some (aN [0,1,2,3,4,5] o))=((wO t root parts bg nb Bs b a C).map (aN [0,1,2,3,4,5])).map some:=by rw[akq];rfl
  rw[h2,this];rfl
 ·rw[BP];exact hk
theorem Aj (hC:C.length<=1000000000000) (x:aq) (hk:K (i64 C.length) (wO t root parts bg nb Bs b a (C++[x])++tl)):ar Tryz.prog 63 [ss b a x,.rf 2 0 0 0] (wO t root parts bg nb Bs b a C++tl) K:=by
 have e0:∀n,aN [0,1,2,5] (oy 3 n)=oy 5 n:=λn=>by simp [aN,oy,aE,aE.go]
 have e1:aN [0,1,2,5] (dz t root parts bg nb)=dz t root parts bg nb:=rfl;have hb:=gu 4 bg Bs;refine cV [0,1,2,5] (U9 t root parts bg nb Bs b a C hC x) ak cB ?_ ?_ ?_ ?_ (r':=i64 C.length) rfl ?_
 ·simp only[ajR,ajV,e0,e1,ko,fr];rfl
 ·simp [ss,aq.cells,F9,aE,aE.go,i64]
 ·simp [ss,aq.cells,KB 4 b a ae,aj,aj.go,i64]
 ·simp only[aks,akB,ajW,ajX,ajT,Nat.reduceAdd,kv 4 _ _ _ ae,aj4];simp [aK,oy,dz,aj,hb]
 ·simp only[ajR,ajV,e0,e1,ko,fr,aJ,wO,ajN,ajO,aj9,akf];simpa [wO]using hk
theorem ku (hC:C.length<=1000000000000) (op x y n:Int) (hk:K (i64 C.length) (wO t root parts bg nb Bs b a (C++[⟨op,x,y,n,none⟩])++tl)):ar Tryz.prog 63 [.ag [i64 op,i64 x,i64 y,i64 n,.d (.sc .nilFunc)],.rf 2 0 0 0] (wO t root parts bg nb Bs b a C++tl) K :=
 Aj hC ⟨op,x,y,n,none⟩ hk
theorem abX (C:List aq) (v:V) (tl:List VL.Obj):Ng 6 0 v (wO t root parts bg nb Bs b a C++(⟨0,true,1,[[v]]⟩:VL.Obj)::tl)=wO t root parts bg nb Bs b a C++(⟨0,false,1,[[nZ 6 0 v v]]⟩:VL.Obj)::(tl.map λo=>{ o with au:=o.au.map λc=>c.map (nZ 6 0 v) }):=by have e1:=O8 6 0 v bg Bs;have e2:=RA 6 0 v C.length b a C;simp only[wO,Ng,ck,ajN,ajO,List.getElem?_cons_succ,List.getElem?_cons_zero,akf,aj9,ajR,ajV,e1,e2];rfl
theorem vm (hC:C.length<=1000000000000) (x:aq) (d:D) (arg:V) (ze:nZ 6 0 (.d d) arg=ss b a x) (hk:K (i64 C.length) (wO t root parts bg nb Bs b a (C++[x])++[⟨0,false,1,[[.d d]]⟩])) :
  ar Tryz.prog 63 [arg,.rf 2 0 0 0] (wO t root parts bg nb Bs b a C++[⟨0,true,1,[[.d d]]⟩]) K:=by
 refine OD (o:=⟨0,true,1,[[.d d]]⟩) (v:=.d d) 6 rfl rfl rfl ?_;have h1:([arg,.rf 2 0 0 0].map (nZ 6 (⟨0,true,1,[[.d d]]⟩:VL.Obj).g (.d d)))=[ss b a x,.rf 2 0 0 0]:=by show [nZ 6 0 (.d d) arg,_]=_;rw[ze];rfl
 rw[h1];have h2:=abX (t:=t) (root:=root) (parts:=parts) (bg:=bg) (nb:=nb) (Bs:=Bs) (b:=b) (a:=a) C (.d d) [];rw[show (⟨0,true,1,[[.d d]]⟩:VL.Obj).g=0 from rfl,h2];exact Aj hC x hk
end
structure bM where
 op:Int
 x:Int
 y:Int
 n:Int
 set:List (Int×Int)
def bM.cells (i:bM):List D:=[iD i.op,iD i.x,iD i.y,iD i.n,.sl (i.set.map aT)]
structure dk where
 ins:List bM
 ai:Int
 aB:Bool
def dk.cells (g:dk):List D:=[.sl (g.ins.map bM.cells),iD g.ai,bD g.aB]
def sH (g:dk):V:=.ag (g.cells.map .d)
theorem aQ (g:dk):sH g=.ag [.d (.sl (g.ins.map bM.cells)),.d (iD g.ai),.d (bD g.aB)]:=rfl
mutual
def Re.comp:Re->List Int->Bool
 |.mk op _ kids _ _ mode n _,a =>
  if op=4/\(mode=2\/Re.mZ kids=true) then false
  else if op=5/\n∈a then false
  else if 5<op/\op≠11 then false
  else Re.Kq kids (if op=5 then a++[n] else a)
def Re.Kq:List Re->List Int->Bool
 |[],_=>true
 |k::l,a=>k.comp a&&Re.Kq l a
end
theorem Re.Hg:∀(l:List Re) (a:List Int),Re.Kq l a=l.all λk=>k.comp a
 |[],_=>by simp [Re.Kq]
 |k::l,a=>by simp [Re.Kq,Re.Hg l a]
theorem Re.nz (re:Re) (a:List Int):re.comp a=if re.op=4/\(re.mode=2\/Re.mZ re.kids=true) then false
  else if re.op=5/\re.n∈a then false
  else if 5<re.op/\re.op≠11 then false
  else re.kids.all λk=>k.comp (if re.op=5 then a++[re.n] else a):=by
 cases re;simp only[Re.comp,Re.Hg,Re.op,Re.kids,Re.mode,Re.n];rfl
def kD (op mn mx:Int) (k n:Int):Int :=
 min (if op=1\/op=11 then 1 else if op=3 then n+2*k-2 else if op=5 then n+2 else if op=4 then (if mx=-1 then (mn+1)*n+2 else mx*n+mx-mn) else n) 10000
mutual
def Re.fh:Re->Int
 |.mk op _ kids mn mx _ _ _=>kD op mn mx kids.length (Re.cF kids)
def Re.cF:List Re->Int
 |[]=>0
 |k::l=>k.fh+Re.cF l
end
theorem Re.HN (re:Re):re.fh=kD re.op re.mn re.mx re.kids.length (Re.cF re.kids):=by
 cases re;simp only[Re.fh,Re.op,Re.kids,Re.mn,Re.mx]
theorem Re.Hq:∀(l:List Re) (k:Re),Re.cF (l++[k])=Re.cF l+k.fh
 |[],k=>by simp [Re.cF]
 |x::l,k=>by simp only[ajN,Re.cF,Re.Hq l k];omega
def sC (x:Int):bM:=⟨3,x,0,0,[]⟩
def mc (n:Int):bM:=⟨4,0,0,n,[]⟩
def wN (mode a b:Int):bM:=if mode=1 then ⟨2,b,a,0,[]⟩ else ⟨2,a,b,0,[]⟩
def bB (c:Int->List bM):Nat->Int->List bM
 |0,_=>[]
 |k+1,f=>bB c k f++c (f+(bB c k f).length)
def c8 (c:Int->List bM) (mode:Int) (fin:Int):Nat->Int->List bM
 |0,_=>[]
 |k+1,f=>c8 c mode fin k f++wN mode (f+(c8 c mode fin k f).length+1) fin::c (f+(c8 c mode fin k f).length+1)
def Ai (c:Int->List bM) (mn mx mode sz:Int) (f:Int):List bM :=
 let pre:=bB c mn.toNat f
 if mx=-1 then
  let kid:=c (f+pre.length+1)
  pre++wN mode (f+pre.length+1) (f+pre.length+kid.length+2)::(kid++[sC (f+pre.length)])
 else pre++c8 c mode (f+sz) (mx-mn).toNat (f+pre.length)
mutual
def Re.code:Re->Int->List bM
 |.mk op set kids mn mx mode n _,f =>
  if op=1 then [⟨1,0,0,0,set⟩] else if op=11 then [⟨5,0,0,n,[]⟩] else if op=2 then Re.da kids f
  else if op=3 then Re.dJ kids f
  else if op=5 then mc (2*n-2)::(Re.l6 kids (f+1)++[mc (2*n-1)])
  else if op=4 then Ai (λi=>Re.l6 kids i) mn mx mode (kD op mn mx kids.length (Re.cF kids)) f
  else []
def Re.da:List Re->Int->List bM
 |[],_=>[]
 |k::l,f=>k.code f++Re.da l (f+(k.code f).length)
def Re.dJ:List Re->Int->List bM
 |[],_=>[]
 |k::l,f=>match l with
  |[]=>k.code f
  |_::_=>wN 0 (f+1) (f+(k.code (f+1)).length+2)::(k.code (f+1)++sC (f+(k.code (f+1)).length+2+(Re.dJ l (f+(k.code (f+1)).length+2)).length)::Re.dJ l (f+(k.code (f+1)).length+2))
def Re.l6:List Re->Int->List bM
 |[],_=>[]
 |k::_,f=>k.code f
end
theorem Re.lg (re:Re) (f:Int):re.code f=if re.op=1 then [⟨1,0,0,0,re.set⟩] else if re.op=11 then [⟨5,0,0,re.n,[]⟩] else if re.op=2 then Re.da re.kids f
  else if re.op=3 then Re.dJ re.kids f
  else if re.op=5 then mc (2*re.n-2)::(Re.l6 re.kids (f+1)++[mc (2*re.n-1)])
  else if re.op=4 then Ai (λi=>Re.l6 re.kids i) re.mn re.mx re.mode re.fh f
  else []:=by
 cases re;rw[Re.code,Re.fh];rfl
theorem Re.yw:∀(l:List Re) (k:Re) (f:Int),Re.da (l++[k]) f=Re.da l f++k.code (f+(Re.da l f).length)
 |[],k,f=>by simp [Re.da]
 |x::l,k,f=>by simp only[ajN,Re.da,Re.yw l k,aj7,ajQ];congr 3;omega
theorem YQ (l:List Int) (x:Int) (hl:l.length<=1000000000):aM prog 76 [.d (ao l),i64 x] (bV (decide (x∈l))):=by
 refine bo func76 ntmps76 results76 0 51 ?_;simp only[zX,simprocAttr,i64];refine aw (λn e s=>∃i:Nat,n=l.length-i/\i<=l.length/\e 0=.d (ao l)/\e 1=i64 x/\e 5=i64 i/\s=[]/\x ∉ l.take i)
  ⟨_,_,_,bA.refl,0,rfl,ae,rfl,rfl,rfl,rfl,ak⟩ ?_
 rintro n e s ⟨i,rfl,hi,h0,h1,h5,rfl,mS⟩;rcases akd i l.length with az|gx
 ·obtain⟨y,hy⟩:∃y,l[i]?=some y:=cc az;by_cases Rh:y=x
  ·simp only[zI,simprocAttr,ao,iD,h0,h1,h5,az,hy,Rh];rw[bi (by rw[<- Rh];exact List.mem_of_getElem? hy)];all_goals exact dW
  ·simp only[zI,simprocAttr,ao,iD,h0,h1,h5,az,hy,Rh];refine⟨l.length-(i+1),_,_,ae,bA.refl,i+1,rfl,az,?_,?_,?_,rfl,by rw[bm hy];simp [mS,Ne.symm Rh]⟩ <;> (try simp only[zU,pZ,jN,oN,oV,reduceIte])
   ·exact h0
   ·exact h1
   ·rw[bG _ ae];rfl
 ·have dX:i=l.length:=by omega
  subst dX;rw[akg]at mS;simp only[zI,simprocAttr,ao,iD,h0,h1,h5,ak9];rw[ce mS];all_goals exact dW
end Go.Proofs.YtjjfioalgbecmaaGreat
