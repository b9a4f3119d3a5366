/- A part of the proof (O32 O33 O34 O35). -/
import Derived.Test.YtjjfioalgbecmaaGreatOQ40
set_option linter.unusedSimpArgs false
set_option linter.unusedVariables false
open Nat renaming reduceShiftRight → jN, reduceMod → oN, reduceEqDiff → oV, reduceBEq → pZ
open Int renaming reduceEq → D6
set_option maxRecDepth 100000
set_option maxHeartbeats 80000000
namespace Go.Proofs.YtjjfioalgbecmaaGreat
open Go.VL
structure jC where
 cI:Nat
 aF:List Int
def jC.cells (x:jC):List D:=[iD x.cI,ao x.aF]
structure fE where
 ad:List Nat
 cl:Bool
 rd:List jC
 gn:Nat
def gU (t:List Int) (Bs:List (List Bool)) (C:List aq) (p:Nat):Nat->Nat->List Int->fE->fE
 |0,_,_,st=>st
 |k+1,n,rg,st =>
  if st.cl=true\/st.ad[n]?=none\/st.ad[n]?=some (p+1) then st else
  let bF:fE:=⟨st.ad.set n (p+1),st.cl,st.rd,st.gn⟩
  let i:=e9 C n
  if i.op=0\/i.op=1 then ⟨bF.ad,decide (i.op=0),bF.rd++[⟨n,rg⟩],bF.gn+1⟩
  else if i.op=2 then gU t Bs C p k i.y.toNat rg (gU t Bs C p k i.x.toNat rg bF)
  else if i.op=3 then gU t Bs C p k i.x.toNat rg bF
  else if i.op=4 then gU t Bs C p k (n+1) (rg.set i.n.toNat p) bF
  else if i.op=5 then (if i.pass t Bs p=true then gU t Bs C p k (n+1) rg bF else bF)
  else bF
section
variable (t:List Int) (Bs:List (List Bool)) (C:List aq) (p:Nat) (c:Nat)
def jC.ok (x:jC):Prop:=x.aF.length=c/\x.cI<C.length/\((e9 C x.cI).op=0\/(e9 C x.cI).op=1)
def Ar (st st':fE):Prop:=st'.ad.length=st.ad.length/\jd p st'.ad<=jd p st.ad/\st'.rd.length+jd p st'.ad<=st.rd.length+jd p st.ad/\∀e∈st'.rd,e∈st.rd\/e.ok C c
variable {C p c}
theorem Ar.refl (st:fE):Ar C p c st st:=⟨rfl,ajZ _,ajZ _,λ_ h=>.inl h⟩
theorem Ar.trans {a b d:fE} (h:Ar C p c a b) (k:Ar C p c b d):Ar C p c a d :=
 ⟨k.1.trans h.1,akS k.2.1 h.2.1,akS k.2.2.1 h.2.2.1,λe he=>(k.2.2.2 e he).elim (λh'=>h.2.2.2 e h') .inr⟩
variable (C p c)
theorem Ck:∀(k n:Nat) (rg:List Int) (st:fE),rg.length=c->st.ad.length=C.length->Ar C p c st (gU t Bs C p k n rg st)
 |0,_,_,st,_,_=>.refl st
 |k+1,n,rg,st,hr,hd=>by
  have ih:=Ck k;rw[gU];split
  ·exact .refl st
  ·rename_i hk;obtain⟨x,hx⟩:∃x,st.ad[n]?=some x:=by
    cases h:st.ad[n]? with
    |none=>exact absurd (.inr (.inl h)) hk
    |some x=>exact⟨x,rfl⟩
   have BR:x≠p+1:=λh=>hk (.inr (.inr (by rw[hx,h])));have hn:=(List.getElem?_eq_some_iff.1 hx).1;have hu:=yi hx BR;have key:Ar C p c st ⟨st.ad.set n (p+1),st.cl,st.rd,st.gn⟩:=⟨ak,n6,n6,λ_ h=>.inl h⟩
   have qh:(⟨st.ad.set n (p+1),st.cl,st.rd,st.gn⟩:fE).ad.length=C.length:=by simpa using hd
   simp only;split
   ·rename_i h1;refine⟨ak,n6,by simp only[ajQ,aki];omega,λe he=>?_⟩;rcases List.mem_append.1 he with h|h
    ·exact .inl h
    ·rw[List.mem_singleton.1 h];exact .inr ⟨hr,n6,h1⟩
   split
   ·have k1:=ih (e9 C n).x.toNat rg _ hr qh;exact(key.trans k1).trans (ih _ _ _ hr (k1.1.trans qh))
   split
   ·exact key.trans (ih _ _ _ hr qh)
   split
   ·exact key.trans (ih _ _ _ (by simpa using hr) qh)
   split
   ·split
    ·exact key.trans (ih _ _ _ hr qh)
    ·exact key
   ·exact key
end
def eV (q:Nat) (l:List jC):VL.Obj:=⟨q,true,2,l.map λx=>x.cells.map V.d⟩
def Fy (g N:Nat):V:=.cl (.func 71) [] [.rf 5 0 0 0,.rf 4 0 0 0,.bx (.so 2 g 0 N),.rf 6 0 0 0,.rf 8 0 0 0]
def oQ (t:List Int) (root parts:D) (bg nb:Nat) (Bs:List (List Bool)) (g b a:Nat) (C:List aq) (q:Nat) (st:fE):List VL.Obj :=
 [dz t root parts bg nb,fx bg Bs,cN g b a C,bp q st.ad,dh 3 q C.length,⟨0,true,1,[[bV st.cl]]⟩,dh 7 st.gn st.rd.length,eV st.gn st.rd,⟨0,true,1,[[Fy g C.length]]⟩]
def df (g N n p:Nat) (rg:List Int):List V:=[i64 n,i64 p,.d (ao rg),.rf 5 0 0 0,.rf 4 0 0 0,.bx (.so 2 g 0 N),.rf 6 0 0 0,.rf 8 0 0 0]
theorem GQ (ρ:List Nat) (q:Nat) (l:List jC):aN ρ (eV q l)=eV q l:=by unfold aN eV;simp only[akq];congr 1
theorem Nb (aZ:List Nat) (q:Nat) (l:List jC):di aZ (eV q l)=eV q l:=by unfold di eV;simp only[akq];congr 1
theorem tR (n q:Nat) (l:List jC):aK n (eV q l)=true:=by unfold aK eV;rw[aj3];intro e he;obtain⟨i,_,rfl⟩:=List.mem_map.1 he;rfl
section
variable (t:List Int) (root parts:D) (bg nb:Nat) (Bs:List (List Bool)) (g b a:Nat) (C:List aq) (q:Nat) (p:Nat) (c:Nat)
theorem NS (st:fE):(oQ t root parts bg nb Bs g b a C q st).map (aN [0,1,2,3,4,5,6,7,8])=oQ t root parts bg nb Bs g b a C q st:=by simp only[oQ,ajR,ajV,ko,fr,nS,GQ];simp [aN,dz,dh,Fy,aE,aE.go,bV]
theorem Ss (st:fE):(oQ t root parts bg nb Bs g b a C q st).all (aK 9)=true:=by have:=gu 9 bg Bs;simp only[oQ,aks,akB,kv 9 _ _ _ ae,nq,tR,aj4];simp [aK,dz,dh,Fy,aj,aj.go,bV,this]
def Uh (k:Nat):Prop:=∀(n:Nat) (rg:List Int) (st:fE),n<C.length->rg.length=c->st.ad.length=C.length->jd p st.ad<=k->st.rd.length+jd p st.ad<=C.length ->
 ar Tryz.prog 71 (df g C.length n p rg) (oQ t root parts bg nb Bs g b a C q st) λv s=>v=.tu []/\s=oQ t root parts bg nb Bs g b a C q (gU t Bs C p (k+1) n rg st)
def He:Prop:=∀n,n<C.length->(e9 C n).op=4->0<=(e9 C n).n/\(e9 C n).n<(c:Int)
variable {t root parts bg nb Bs g b a C q p c}
theorem Gv {k n:Nat}{rg:List Int}{st:fE} (h:Uh t root parts bg nb Bs g b a C q p c k) (hn:n<C.length) (hc:rg.length=c) (h1:st.ad.length=C.length) (hu:jd p st.ad<=k) (hr:st.rd.length+jd p st.ad<=C.length) {tl:List VL.Obj}{K:V->List VL.Obj->Prop}
  (hk:K (.tu []) (oQ t root parts bg nb Bs g b a C q (gU t Bs C p (k+1) n rg st)++tl)) :
  ar Tryz.prog 71 (df g C.length n p rg) (oQ t root parts bg nb Bs g b a C q st++tl) K:=by
 have BP:=NS t root parts bg nb Bs g b a C q st;refine cV [0,1,2,3,4,5,6,7,8] (h n rg st hn hc h1 hu hr) aU rfl ?_ cB cB (Ss t root parts bg nb Bs g b a C q st) (r':=.tu []) rfl ?_
 ·have h2:(oQ t root parts bg nb Bs g b a C q st).map (λo=>some (aN [0,1,2,3,4,5,6,7,8] o))=((oQ t root parts bg nb Bs g b a C q st).map (aN [0,1,2,3,4,5,6,7,8])).map some:=by rw[akq];rfl
  rw[h2,BP];rfl
 ·rw[NS];exact hk
end
theorem Y3 (l:List Int):∀e∈(l.map λx=>[iD x]).map (λx=>x.map V.d),e.length=1:=λe he=>by obtain⟨x,hx,rfl⟩:=List.mem_map.1 he;obtain⟨y,_,rfl⟩:=List.mem_map.1 hx;rfl
theorem Cu {P:Program}{f:FuncId}{args:List V}{s:List VL.Obj}{K:V->List VL.Obj->Prop}{x y:V} (ids:List Nat) (j:Nat) (hj:args[j]?=some x) (hf:bc (br s ids).length (br s ids) x=some y) (h:ar P f (args.set j y) (br s ids) K):ar P f args s K:=by
 refine⟨h.1,λσ w vals hI hl hv=>?_⟩;obtain⟨hE,fS⟩:=oE ids s hI;refine(h.2 σ w vals fS (by simpa using hl) λi z hz=>?_).mono λe w' ⟨u,v,σ',s',h1,h2,h3,h4,h5⟩=>⟨u,v,σ',s',h1,hE.trans h2,h3,h4,h5⟩
 rw[List.getElem?_set]at hz;split at hz
 ·rename_i X0;subst X0;split at hz
  ·cases hz;have:=iO fS ((hv j x hj).aR hE) hf;rwa [akg]at this
  ·cases hz
 ·exact(hv i z hz).aR hE
section
variable (t:List Int) (root parts:D) (bg nb:Nat) (Bs:List (List Bool)) (g b a:Nat) (C:List aq) (q:Nat) (p:Nat) (c:Nat)
theorem G0 (hg:nj t Bs C) (Rj:He C c) (qf:c<=100000) (nD:nb=Bs.length) (ht:t.length<=1000000) (hp:p<=t.length) (k:Nat) (IH:∀j,j+1=k->Uh t root parts bg nb Bs g b a C q p c j):Uh t root parts bg nb Bs g b a C q p c k:=by
 intro n rg st hn ZJ h1 hu hrl;have XR:=hg.len;have iQ:(n:Int)<(C.length:Int):=ae;have gp:(0:Int)<=(n:Int):=ae;have kf:n<st.ad.length:=ae;have sL:IntKind.i64.wrap ((p:Int)+1)=((p+1:Nat):Int):=by rw[bG _ ae];rfl
 have iC:=gu 9 bg Bs;have kJ:((dz t root parts bg nb).au.all λe=>e.all (aj 9))=true:=rfl;have jB:((C.map (aq.cells b a)).all λe=>e.all (aj 9))=true:=kv 9 g b a ae C;have Le:∀q l,((eV q l).au.all λe=>e.all (aj 9))=true:=λq l=>tR 9 q l;have sB:∀l:List Nat,((l.map λ(x:Nat)=>[V.d (D.sc (Value.int IntKind.i64 (x:Int)))]).all λe=>e.all (aj 9))=true:=λl=>nq 9 0 l;obtain⟨x,hx⟩:∃x,st.ad[n]?=some x:=cc kf;obtain⟨i,hi⟩:∃i,C[n]?=some i:=cc hn;have kS:e9 C n=i:=by unfold e9;rw[List.getD_eq_getElem?_getD,hi];rfl
 cases ia:st.cl with
 |true =>
  have hr:gU t Bs C p (k+1) n rg st=st:=by rw[gU,be (.inl ia)]
  rw[hr];unfold df oQ;refine bo Tryz.func71 Tryz.ntmps71 Tryz.results71 9 25769810175 ?_;simp only[zQ,simprocAttr,df,oQ,b6,aO,dh,bp,Fy,cN,iQ,gp,kf,hn,h1,ajP,ajM,List.getElem?_map,hx,hi,ajS,ajT,aq.cells,jq,kJ,iC,jB,Le,sB,aj4,ajN,ajO,aj8,sL,ia]
 |false =>
 by_cases Vv:x=p+1
 ·subst Vv;have hr:gU t Bs C p (k+1) n rg st=st:=by rw[gU,be (.inr (.inr hx))]
  rw[hr];unfold df oQ;refine bo Tryz.func71 Tryz.ntmps71 Tryz.results71 9 25769810175 ?_;simp only[zQ,simprocAttr,df,oQ,b6,aO,dh,bp,Fy,cN,iQ,gp,kf,hn,h1,ajP,ajM,List.getElem?_map,hx,hi,ajS,ajT,aq.cells,jq,kJ,iC,jB,Le,sB,aj4,ajN,ajO,aj8,sL,ia]
 have vF:((x:Int)=((p+1:Nat):Int))=False:=eq_false ae;have hu1:=yi hx Vv;have hup:=JT hx Vv;have zr:gU t Bs C p (k+1) n rg st=(let bF:fE:=⟨st.ad.set n (p+1),false,st.rd,st.gn⟩
  if i.op=0\/i.op=1 then ⟨bF.ad,decide (i.op=0),bF.rd++[⟨n,rg⟩],bF.gn+1⟩
  else if i.op=2 then gU t Bs C p k i.y.toNat rg (gU t Bs C p k i.x.toNat rg bF)
  else if i.op=3 then gU t Bs C p k i.x.toNat rg bF
  else if i.op=4 then gU t Bs C p k (n+1) (rg.set i.n.toNat p) bF
  else if i.op=5 then (if i.pass t Bs p=true then gU t Bs C p k (n+1) rg bF else bF)
  else bF):=by rw[gU,ap (by rw[hx,ia];rintro (h|h|h) <;> simp at h;exact Vv h),kS,ia]
 simp only at zr;rw[zr];have hT:List.take st.rd.length (st.rd.map λ(x:jC)=>x.cells.map V.d)++[[V.d (iD n),V.d (ao rg)]]=(st.rd++[(⟨n,rg⟩:jC)]).map λ(x:jC)=>x.cells.map V.d:=by rw[akb (by rw[ajM];exact ajZ _)];simp [jC.cells]
 have hcN:jd p st.ad<=st.ad.length:=akP;by_cases o0:i.op=0
 ·simp only[o0,true_or,if_true];unfold df oQ;refine bo Tryz.func71 Tryz.ntmps71 Tryz.results71 9 25769810175 ?_;simp only[iD,ao]at hT;simp only[zQ,simprocAttr,df,oQ,b6,aO,dh,bp,Fy,cN,iQ,gp,kf,hn,h1,ajP,ajM,List.getElem?_map,hx,hi,ajS,ajT,aq.cells,jq,kJ,iC,jB,Le,sB,aj4,ajN,ajO,aj8,sL,ia,vF,o0,eV,hT,ao];refine⟨λe he=>by rw[List.mem_singleton.1 he];rfl,⟨ajZ _,ae⟩,?_,?_⟩
  ·exact tR 9 0 _
  ·simp
 by_cases o1:i.op=1
 ·simp only[o1,or_true,if_true];unfold df oQ;refine bo Tryz.func71 Tryz.ntmps71 Tryz.results71 9 25769810175 ?_;simp only[iD,ao]at hT;simp only[zQ,simprocAttr,df,oQ,b6,aO,dh,bp,Fy,cN,iQ,gp,kf,hn,h1,ajP,ajM,List.getElem?_map,hx,hi,ajS,ajT,aq.cells,jq,kJ,iC,jB,Le,sB,aj4,ajN,ajO,aj8,sL,ia,vF,o1,eV,hT,ao];refine⟨λe he=>by rw[List.mem_singleton.1 he];rfl,⟨ajZ _,ae⟩,?_,?_⟩
  ·exact tR 9 0 _
  ·simp
 rw[bd];obtain⟨j,rfl⟩:∃j,k=j+1:=⟨k-1,ae⟩
 have US:=λ(m:Nat) (r:List Int) (hm:m<C.length) (hr:r.length=c) (tl:List VL.Obj) (K:V->List VL.Obj->Prop) hk=>Gv (IH j rfl) (n:=m) (rg:=r) (st:=⟨st.ad.set n (p+1),false,st.rd,st.gn⟩) hm hr (by simpa using h1) n6 n6 (tl:=tl) (K:=K) hk;have hlen:=λm=>Ck t Bs C p c (j+1) m rg ⟨st.ad.set n (p+1),false,st.rd,st.gn⟩ ZJ (by simpa using h1);by_cases o3:i.op=3
 ·obtain⟨x0,x1⟩:=hg.jump n hn (by rw[kS];exact o3);rw[kS]at x0 x1;obtain⟨X,hX⟩:∃X:Nat,i.x=X:=⟨i.x.toNat,ae⟩
  have Bg:X<C.length:=ae;have hc:=US X rg Bg ZJ [⟨0,true,5,[[i64 3,i64 X,i64 i.y,i64 i.n,cj b a i.node]]⟩];simp only[o3,hX,D6,reduceIte,ajP];generalize gU t Bs C p (j+1) X rg ⟨st.ad.set n (p+1),false,st.rd,st.gn⟩=R at *;unfold df oQ at hc;unfold df oQ;refine bo Tryz.func71 Tryz.ntmps71 Tryz.results71 9 25769810175 ?_;simp only[zQ,simprocAttr,df,oQ,b6,aO,dh,bp,Fy,cN,iQ,gp,kf,hn,h1,ajP,ajM,List.getElem?_map,hx,hi,ajS,ajT,aq.cells,jq,kJ,iC,jB,Le,sB,aj4,ajN,ajO,aj8,sL,ia,vF,o3,hX];refine hc _ ?_;simp only[zQ,simprocAttr,df,oQ,b6,aO,dh,bp,Fy,cN,iQ,gp,kf,hn,h1,ajP,ajM,List.getElem?_map,hx,hi,ajS,ajT,aq.cells,jq,kJ,iC,jB,Le,sB,aj4,ajN,ajO,aj8,sL,ia,vF,o3,hX]
 by_cases o4:i.op=4
 ·have Bg:=hg.next n hn (by rw[kS];exact .inr (.inl o4));obtain⟨s0,s1⟩:=Rj n hn (by rw[kS];exact o4);rw[kS]at s0 s1;obtain⟨N,hN⟩:∃N:Nat,i.n=N:=⟨i.n.toNat,ae⟩
  have hw:IntKind.i64.wrap ((n:Int)+1)=((n+1:Nat):Int):=by rw[bG _ ae];rfl
  have w2:IntKind.i64.wrap ((N:Int)+1)=((N+1:Nat):Int):=by rw[bG _ ae];rfl
  have b0:(0:Int)<=(N:Int):=ae;have b1:(N:Int)<=(rg.length:Int):=ae;have b2:((N+1:Nat):Int)<=(rg.length:Int):=ae;have b3:(0:Int)<=((N+1:Nat):Int):=ae;have z3:List.take ((rg.length:Int)-((N+1:Nat):Int)).toNat (List.drop (N+1) (rg.map λx=>[D.sc (.int .i64 x)]))=(rg.drop (N+1)).map λx=>[D.sc (.int .i64 x)]:=by rw[<- List.map_drop,akb cC]
  have z4:List.take N (rg.map λx=>[D.sc (.int .i64 x)])=(rg.take N).map λx=>[D.sc (.int .i64 x)]:=by rw[List.map_take]
  have eO:rg.set N (p:Int)=rg.take N++(p:Int)::rg.drop (N+1):=by rw[List.set_eq_take_append_cons_drop,sP]
  have Xv:(rg.drop (N+1)).length<=100000:=cC;have Kb:(rg.take N).length<=100000:=cC;simp only[o4,hN,D6,reduceIte,ajP];have hc:=US (n+1) (rg.set N (p:Int)) Bg (by simpa using ZJ);generalize gU t Bs C p (j+1) (n+1) (rg.set N (p:Int)) ⟨st.ad.set n (p+1),false,st.rd,st.gn⟩=R at *;unfold df oQ at hc;unfold df oQ;refine bo Tryz.func71 Tryz.ntmps71 Tryz.results71 9 25769810175 ?_;simp only[zQ,simprocAttr,df,oQ,b6,aO,dh,bp,Fy,cN,iQ,gp,kf,hn,h1,ajP,ajM,List.getElem?_map,hx,hi,ajS,ajT,aq.cells,jq,kJ,iC,jB,Le,sB,aj4,ajN,ajO,aj8,sL,ia,vF,o4,hN,ao,b0,b1,akc,z4,Int.sub_zero];refine⟨rfl,λe he=>by rw[List.mem_singleton.1 he];rfl,?_⟩;split
  ·rename_i heq;cases heq
  refine⟨⟨ae,λe he=>by obtain⟨y,_,rfl⟩:=List.mem_map.1 he;rfl⟩,?_⟩;refine cu mix [11] [(10,[10],[10])] ?_;simp only[zQ,simprocAttr,df,oQ,b6,aO,dh,bp,Fy,cN,iQ,gp,kf,hn,h1,ajP,ajM,List.getElem?_map,hx,hi,ajS,ajT,aq.cells,jq,kJ,iC,jB,Le,sB,aj4,ajN,ajO,aj8,sL,ia,vF,o4,hN,ao,hw,w2,b2,b3,akc,z3,z4];refine⟨.inr (λe he=>by obtain⟨y,_,rfl⟩:=List.mem_map.1 he;rfl),rfl,Y3 _,⟨ak,ae⟩,?_⟩;refine ct (Cu (y:=.d (ao (rg.set N (p:Int)))) [10] 2 rfl ?_ (hc [⟨0,true,5,[[i64 4,i64 i.x,i64 i.y,i64 N,cj b a i.node]]⟩,⟨1,false,1,List.take ((List.take N rg).length+1) (List.map (λx=>List.map V.d x) (List.map (λx=>[D.sc (Value.int IntKind.i64 x)]) (List.take N rg))++[[V.d (D.sc (Value.int IntKind.i64 p))]])++List.map (λx=>List.map V.d x) (List.map (λx=>[D.sc (Value.int IntKind.i64 x)]) (List.drop (N+1) rg))⟩] _ ⟨rfl,rfl⟩)) ?_
  ·simp only[br,ck,List.getElem?_cons_succ,List.getElem?_cons_zero,akf,aj9,ajW,ajX];rw[lh (ds:=(rg.set N (p:Int)).map λx=>[iD x]) cB ?_ ?_ (.inr rfl)]
   ·rw[akJ,akb ak,akb ak,eO];simp [iD]
   ·simp
  ·simp only[zQ,simprocAttr,df,oQ,b6,aO,dh,bp,Fy,cN,iQ,gp,kf,hn,h1,ajP,ajM,List.getElem?_map,hx,hi,ajS,ajT,aq.cells,jq,kJ,iC,jB,Le,sB,aj4,ajN,ajO,aj8,sL,ia,vF,o4,hN]
 by_cases o5:i.op=5
 ·obtain⟨V9,ai,mj,wJ,nO,sI⟩:=qv t root parts bg nb Bs b a C hg nD ht hn (.inr (by rw[kS];exact o5)) p hp;have Bg:=hg.next n hn (by rw[kS];exact .inr (.inr o5));have hw:IntKind.i64.wrap ((n:Int)+1)=((n+1:Nat):Int):=by rw[bG _ ae];rfl
  rw[kS]at mj sI;have hc:=US (n+1) rg Bg ZJ [⟨0,true,5,[[i64 5,i64 i.x,i64 i.y,i64 i.n,.cl (.func V9) [] ai]]⟩];simp only[o5,D6,reduceIte];generalize i.pass t Bs p=y at *;cases y with
  |true =>
   simp only[reduceIte];generalize gU t Bs C p (j+1) (n+1) rg ⟨st.ad.set n (p+1),false,st.rd,st.gn⟩=R at *;unfold df oQ at hc;unfold df oQ;refine bo Tryz.func71 Tryz.ntmps71 Tryz.results71 9 25769810175 ?_;simp only[zQ,simprocAttr,df,oQ,b6,aO,dh,bp,Fy,cN,iQ,gp,kf,hn,h1,ajP,ajM,List.getElem?_map,hx,hi,ajS,ajT,aq.cells,jq,kJ,iC,jB,Le,sB,aj4,ajN,ajO,aj8,sL,ia,vF,o5,mj,hw];refine dU t root parts bg nb Bs sI ?_ ?_ rfl rfl rfl ?_
   ·simp [aE,i64,nO]
   ·simp [aj,aj.go,i64,wJ]
   simp only[zQ,simprocAttr,df,oQ,b6,aO,dh,bp,Fy,cN,iQ,gp,kf,hn,h1,ajP,ajM,List.getElem?_map,hx,hi,ajS,ajT,aq.cells,jq,kJ,iC,jB,Le,sB,aj4,ajN,ajO,aj8,sL,ia,vF,o5,mj,hw];refine hc _ ?_;simp only[zQ,simprocAttr,df,oQ,b6,aO,dh,bp,Fy,cN,iQ,gp,kf,hn,h1,ajP,ajM,List.getElem?_map,hx,hi,ajS,ajT,aq.cells,jq,kJ,iC,jB,Le,sB,aj4,ajN,ajO,aj8,sL,ia,vF,o5,mj,hw]
  |false =>
   simp only[ajY,reduceIte];unfold df oQ;refine bo Tryz.func71 Tryz.ntmps71 Tryz.results71 9 25769810175 ?_;simp only[zQ,simprocAttr,df,oQ,b6,aO,dh,bp,Fy,cN,iQ,gp,kf,hn,h1,ajP,ajM,List.getElem?_map,hx,hi,ajS,ajT,aq.cells,jq,kJ,iC,jB,Le,sB,aj4,ajN,ajO,aj8,sL,ia,vF,o5,mj];refine dU t root parts bg nb Bs sI ?_ ?_ rfl rfl rfl ?_
   ·simp [aE,i64,nO]
   ·simp [aj,aj.go,i64,wJ]
   simp only[zQ,simprocAttr,df,oQ,b6,aO,dh,bp,Fy,cN,iQ,gp,kf,hn,h1,ajP,ajM,List.getElem?_map,hx,hi,ajS,ajT,aq.cells,jq,kJ,iC,jB,Le,sB,aj4,ajN,ajO,aj8,sL,ia,vF,o5,mj]
 by_cases o2:i.op=2
 ·obtain⟨x0,x1,y0,y1⟩:=hg.split n hn (by rw[kS];exact o2);rw[kS]at x0 x1 y0 y1;obtain⟨X,hX⟩:∃X:Nat,i.x=X:=⟨i.x.toNat,ae⟩
  obtain⟨Y,hY⟩:∃Y:Nat,i.y=Y:=⟨i.y.toNat,ae⟩
  have Bg:X<C.length:=ae;have hYC:Y<C.length:=ae;have hc:=US X rg Bg ZJ [⟨0,true,5,[[i64 2,i64 X,i64 Y,i64 i.n,cj b a i.node]]⟩];have hl:=hlen X;simp only[o2,hX,hY,D6,reduceIte,ajP];generalize gU t Bs C p (j+1) X rg ⟨st.ad.set n (p+1),false,st.rd,st.gn⟩=R at *;obtain⟨l1,l2,l3,_⟩:=hl;simp only[aj8]at l1 l2 l3;have nO:=λ(K:V->List VL.Obj->Prop) hk=>Gv (IH j rfl) (n:=Y) (rg:=rg) (st:=R) hYC ZJ ae ae ae (tl:=[⟨0,true,5,[[i64 2,i64 X,i64 Y,i64 i.n,cj b a i.node]]⟩]) (K:=K) hk;generalize gU t Bs C p (j+1) Y rg R=R2 at *;unfold df oQ at hc nO;unfold df oQ;refine bo Tryz.func71 Tryz.ntmps71 Tryz.results71 9 25769810175 ?_;simp only[zQ,simprocAttr,df,oQ,b6,aO,dh,bp,Fy,cN,iQ,gp,kf,hn,h1,ajP,ajM,List.getElem?_map,hx,hi,ajS,ajT,aq.cells,jq,kJ,iC,jB,Le,sB,aj4,ajN,ajO,aj8,sL,ia,vF,o2,hX,hY];refine hc _ ?_;simp only[zQ,simprocAttr,df,oQ,b6,aO,dh,bp,Fy,cN,iQ,gp,kf,hn,h1,ajP,ajM,List.getElem?_map,hx,hi,ajS,ajT,aq.cells,jq,kJ,iC,jB,Le,sB,aj4,ajN,ajO,aj8,sL,ia,vF,o2,hX,hY];refine nO _ ?_;simp only[zQ,simprocAttr,df,oQ,b6,aO,dh,bp,Fy,cN,iQ,gp,kf,hn,h1,ajP,ajM,List.getElem?_map,hx,hi,ajS,ajT,aq.cells,jq,kJ,iC,jB,Le,sB,aj4,ajN,ajO,aj8,sL,ia,vF,o2,hX,hY]
 have wH:=hg.ops n hn;rw[kS]at wH;omega
theorem yJ (hg:nj t Bs C) (Rj:He C c) (qf:c<=100000) (nD:nb=Bs.length) (ht:t.length<=1000000) (hp:p<=t.length):∀k,Uh t root parts bg nb Bs g b a C q p c k
 |0=>G0 t root parts bg nb Bs g b a C q p c hg Rj qf nD ht hp 0 (λj h=>ae)
 |k+1=>G0 t root parts bg nb Bs g b a C q p c hg Rj qf nD ht hp (k+1) (λj h=>by
  have:j=k:=ae;subst this;exact yJ hg Rj qf nD ht hp j)
end
variable{j:Nat}{c:Nat}
def Zz (aF:List Int) (j:Nat):Int×Int :=
 if aF.getD (2*j) 0=-1\/aF.getD (2*j+1) 0=-1 then (-1,-1) else (aF.getD (2*j) 0,aF.getD (2*j+1) 0)
def Ny (c:Nat) (aF:List Int):aH:=(List.range c).map (Zz aF)
theorem Xr {l:List Int}{i:Nat} (h:i<l.length):l[i]?=some (l.getD i 0):=by rw[List.getD,List.getElem?_eq_getElem h];rfl
def UY (st en:Int) (v:V):VL.Obj:=⟨0,true,3,[[i64 st,i64 en,v]]⟩
def OE:VL.Obj:=⟨0,true,3,[[i64 0,i64 0,.fu []]]⟩
def Lh (c i:Nat) (aF:List Int):VL.Obj:=⟨0,true,2,(List.range i).map (λj=>[i64 (Zz aF j).1,i64 (Zz aF j).2])++List.replicate (c-i) [i64 0,i64 0]⟩
theorem Wb {α:Type} (l:List α) (z:α) (hl:l.length=j) (h:j<c):(l++List.replicate (c-j) z)[j]?=some z:=by rw[List.getElem?_append_right ae];simp [List.getElem?_replicate,hl];omega
theorem Zv {α:Type} (l:List α) (z y:α) (hl:l.length=j) (h:j<c):((l++List.replicate (c-j) z).set j y)[j]?=some y :=
 List.getElem?_set_self cC
theorem VB {α:Type} (l:List α) (z y:α) (hl:l.length=j) (h:j<c):(l++List.replicate (c-j) z).set j y=(l++[y])++List.replicate (c-(j+1)) z:=by
 rw[akI _ _ ae];obtain⟨m,hm⟩:∃m,c-j=m+1:=⟨c-j-1,ae⟩
 rw[hm,hl,akQ,ale,aj9,aj7];have:c-(j+1)=m:=ae;rw[this];rfl
theorem Ps (c:Nat) (hc:c<=1000) (st en:Int) (aF:List Int) (hr:aF.length=2*c):aM Tryz.prog 72 [i64 st,i64 en,.d (ao aF)] (jy.mk st en (Ny c aF)).v:=by
 have w0:Int.tdiv (aF.length:Int) 2=(c:Int):=by rw[hr,Int.tdiv_eq_ediv_of_nonneg ae];omega
 have ZV:IntKind.i64.wrap (c:Int)=(c:Int):=bG _ ae;refine bo Tryz.func72 Tryz.ntmps72 Tryz.results72 0 786887 ?_;simp only[zQ,simprocAttr,ao,ajM,w0,ZV];refine⟨ae,?_⟩;refine aw (λn e s=>∃j:Nat,n=c-j/\j<=c/\e 2=.d (ao aF)/\e 6=.rf 0 0 0 0/\e 7=.rf 2 0 0 0/\e 18=i64 c/\e 19=i64 j/\s=[OE,Lh c j aF,UY st en (.so 1 0 0 c)])
  ⟨_,_,_,bA.refl,0,rfl,ae,rfl,rfl,rfl,rfl,rfl,by simp [OE,Lh,UY,i64]⟩ ?_
 rintro n e s ⟨j,rfl,hj,h2,h6,h7,kH,lk,rfl⟩;rcases akd j c with az|gx
 ·have aA:(j:Int)<c:=by omega
  have w1:IntKind.i64.wrap (2*(j:Int))=((2*j:Nat):Int):=by rw[bG _ ae];omega
  have w2:IntKind.i64.wrap (((2*j:Nat):Int)+1)=((2*j+1:Nat):Int):=by rw[bG _ ae];omega
  have c1:((2*j+1:Nat):Int)<(aF.length:Int):=ae;have c2:((2*j:Nat):Int)<(aF.length:Int):=ae;have c3:(0:Int)<=((2*j:Nat):Int):=ae;have c4:(0:Int)<=((2*j+1:Nat):Int):=ae;have g1:=Xr (l:=aF) (i:=2*j) ae;have g2:=Xr (l:=aF) (i:=2*j+1) ae;have hP:Zz aF j=if aF.getD (2*j) 0=-1\/aF.getD (2*j+1) 0=-1 then (-1,-1) else (aF.getD (2*j) 0,aF.getD (2*j+1) 0):=rfl
  generalize aF.getD (2*j) 0=a at *;generalize aF.getD (2*j+1) 0=b at *;simp only[ao]at h2;have Ec:((List.range j).map (λj=>[V.d (.sc (.int .i64 (Zz aF j).1)),V.d (.sc (.int .i64 (Zz aF j).2))])).length=j:=ak;have dO:=Wb _ [V.d (.sc (.int .i64 0)),V.d (.sc (.int .i64 0))] Ec az;have eO:=λy=>VB _ [V.d (.sc (.int .i64 0)),V.d (.sc (.int .i64 0))] y Ec az;have KI:=λy=>Zv _ [V.d (.sc (.int .i64 0)),V.d (.sc (.int .i64 0))] y Ec az;by_cases ha:a=-1
  ·have KN:=eq_true ha;simp only[zQ,simprocAttr,h2,h6,h7,kH,lk,aA,w1,w2,c1,c2,c3,c4,g1,g2,KN,OE,Lh,UY,ao,dO,ajT,akX,ajP,ajM,ne_eq,not_true_eq_false,not_false_eq_true];refine⟨c-(j+1),_,_,ae,bA.refl,j+1,rfl,az,?_,?_,?_,?_,?_,?_⟩ <;> (try simp only[zU,pZ,jN,oN,oV,reduceIte])
   ·exact h2
   ·exact h6
   ·exact h7
   ·exact kH
   ·rw[bG _ ae];rfl
   ·rw[eO];simp [hP,ha,alb]
  ·by_cases hb:b=-1
   ·have IJ:=eq_true hb;simp only[zQ,simprocAttr,h2,h6,h7,kH,lk,aA,w1,w2,c1,c2,c3,c4,g1,g2,ha,IJ,OE,Lh,UY,ao,dO,ajT,akX,ajP,ajM,ne_eq,not_true_eq_false,not_false_eq_true];refine⟨c-(j+1),_,_,ae,bA.refl,j+1,rfl,az,?_,?_,?_,?_,?_,?_⟩ <;> (try simp only[zU,pZ,jN,oN,oV,reduceIte])
    ·exact h2
    ·exact h6
    ·exact h7
    ·exact kH
    ·rw[bG _ ae];rfl
    ·rw[eO];simp [hP,ha,hb,alb]
   ·simp only[zQ,simprocAttr,h2,h6,h7,kH,lk,aA,w1,w2,c1,c2,c3,c4,g1,g2,ha,hb,OE,Lh,UY,ao,dO,ajT,akX,ajP,ajM,ne_eq,not_true_eq_false,not_false_eq_true];refine cu mix [16] [] ?_;simp only[zX,simprocAttr,KI,i64,bV,iD,bD,h2,h6,h7,kH,lk,aA,w1,w2,c1,c2,c3,c4,g1,g2,ha,hb,OE,Lh,UY,ao,dO,ajT,akX,ajP,ajM,ne_eq,not_true_eq_false,not_false_eq_true];refine⟨c-(j+1),_,_,ae,bA.refl,j+1,rfl,az,?_,?_,?_,?_,?_,?_⟩ <;> (try simp only[zU,pZ,jN,oN,oV,reduceIte])
    ·exact h2
    ·exact h6
    ·exact h7
    ·exact kH
    ·rw[bG _ ae];rfl
    ·rw[List.set_set,eO];simp [hP,ha,hb,alb]
 ·have Ks:j=c:=by omega
  subst Ks;have aA:¬(j:Int)<j:=ae;have ads:Lh j j aF=⟨0,true,2,((Ny j aF).map aT).map λx=>x.map V.d⟩:=by simp [Lh,Ny,aT,iD,i64]
  simp only[zI,simprocAttr,bV,iD,h2,h6,h7,kH,lk,aA,OE,ads,UY];rw[js 7 0 _ _ _ (by simp [Ny]),be (by simp [Ny])];rfl
section
variable (t:List Int) (Bs:List (List Bool)) (C:List aq)
def jg (p:Nat) (st:fE) (x:jC):fE:=if (e9 C x.cI).op=1/\(e9 C x.cI).pass t Bs p=true then gU t Bs C (p+1) (C.length+1) (x.cI+1) x.aF st else st
def jj (p:Nat) (l:List jC) (st:fE):fE:=l.foldl (jg t Bs C p) st
def tN (b p c:Nat) (st:fE) (ig:Option jy):Option jy:=if st.cl=true then some ⟨b,p,Ny c (st.rd.getLastD ⟨0,[]⟩).aF⟩ else ig
def mm (b c:Nat):Nat->Nat->fE->Nat->Option jy->Option jy×List Nat
 |0,_,st,_,ig=>(ig,st.ad)
 |k+1,p,st,gb,ig=>if st.rd=[] then (ig,st.ad) else mm b c k (p+1) (jj t Bs C p st.rd ⟨st.ad,false,[],gb⟩) st.gn (tN b p c st ig)
def lI (c:Nat):List Int:=List.replicate (2*c) (-1)
def mJ (p c:Nat):fE:=gU t Bs C p (C.length+1) 0 (lI c) ⟨List.replicate C.length 0,false,[],0⟩
def fL (p c:Nat):Option jy×List Nat:=mm t Bs C p c (t.length+2-p) p (mJ t Bs C p c) 0 none
def Tx (r:Option jy):jy:=r.getD ⟨0,0,[]⟩
variable {t Bs C}
variable{c:Nat}{p:Nat}{st:fE}
theorem Dm (p:Nat) (l:List jC) (x:jC) (st:fE):jj t Bs C p (l++[x]) st=jg t Bs C p (jj t Bs C p l st) x:=by unfold jj;rw[ak7];rfl
structure vK (C:List aq) (c:Nat) (st:fE):Prop where
 ad:st.ad.length=C.length
 th:∀x∈st.rd,x.ok C (2*c)
 last:st.cl=true->st.rd≠[]
def l8 (C:List aq) (p:Nat) (st:fE):Prop:=st.rd.length+jd p st.ad<=C.length
theorem FJ (p:Nat):∀(k n:Nat) (rg:List Int) (st:fE),(st.cl=true->st.rd≠[])->((gU t Bs C p k n rg st).cl=true->(gU t Bs C p k n rg st).rd≠[])
 |0,_,_,st,h=>h
 |k+1,n,rg,st,h=>by
  have ih:=FJ p k;rw[gU];split
  ·exact h
  simp only;split
  ·intro _;simp
  split
  ·exact ih _ _ _ (ih _ _ _ h)
  split
  ·exact ih _ _ _ h
  split
  ·exact ih _ _ _ h
  split
  ·split
   ·exact ih _ _ _ h
   ·exact h
  ·exact h
theorem zH {k n:Nat}{rg:List Int} (h:vK C c st) (hn:l8 C p st) (hr:rg.length=2*c):vK C c (gU t Bs C p k n rg st)/\l8 C p (gU t Bs C p k n rg st):=by obtain⟨l1,l2,l3,l4⟩:=Ck t Bs C p (2*c) k n rg st hr h.ad;refine⟨⟨l1.trans h.ad,λx hx=>(l4 x hx).elim (h.th x) id,FJ p k n rg st h.last⟩,?_⟩;unfold l8 at *;omega
theorem M9{x:jC} (hx:x.ok C (2*c)) (h:vK C c st) (hn:l8 C (p+1) st):vK C c (jg t Bs C p st x)/\l8 C (p+1) (jg t Bs C p st x):=by
 unfold jg;split
 ·exact zH h hn hx.1
 ·exact⟨h,hn⟩
theorem rH {c p:Nat}:∀(l:List jC) (st:fE),(∀x∈l,x.ok C (2*c))->vK C c st->l8 C (p+1) st->vK C c (jj t Bs C p l st)/\l8 C (p+1) (jj t Bs C p l st)
 |[],st,_,h,hn=>⟨h,hn⟩
 |x::l,st,hl,h,hn=>by obtain⟨k1,k2⟩:=M9 (t:=t) (Bs:=Bs) (hl x ak) h hn;exact rH l _ (λy hy=>hl y (by simp [hy])) k1 k2
theorem H7 (hg:nj t Bs C) {n:Nat} (hn:n<C.length) (ho:(e9 C n).op=1) (h:(e9 C n).pass t Bs p=true):p<t.length:=by obtain⟨re,k,h1,h2,_⟩:=hg.set n hn ho;unfold aq.pass at h;rw[h1]at h;simp only[h2,if_true,aj5,decide_eq_true_eq]at h;omega
theorem PO (hg:nj t Bs C){x:jC} (hx:x.ok C (2*c)) (hp:t.length<=p):jg t Bs C p st x=st:=by unfold jg;rw[ap];rintro ⟨h1,h2⟩;have:=H7 hg hx.2.1 h1 h2;omega
theorem Af (hg:nj t Bs C) {c p:Nat} (hp:t.length<=p):∀(l:List jC) (st:fE),(∀x∈l,x.ok C (2*c))->jj t Bs C p l st=st
 |[],_,_=>rfl
 |x::l,st,hl=>by show jj t Bs C p l (jg t Bs C p st x)=st;rw[PO hg (hl x ak) hp];exact Af hg hp l st λy hy=>hl y (by simp [hy])
end
theorem Tl {P:Program}{f:FuncId}{args:List V}{s:List VL.Obj}{K:V->List VL.Obj->Prop}{o:VL.Obj}{pre post:List V} (k sz:Nat) (ho:s[k]?=some o) (gD:o.au=[pre++.fu []::post]) (eZ:pre.length+1+post.length=o.sz)
  (h:ar P f args (s.set k { o with au:=[pre++.so s.length 0 0 0::post] }++[⟨0,true,sz,[]⟩]) K):ar P f args s K:=by
 refine⟨h.1,λσ w vals hI hl hv=>?_⟩;obtain⟨σ',h1,h2⟩:=CH hI k sz ho gD eZ;exact(h.2 σ' w vals h2 hl (λi x hx=>(hv i x hx).aR h1)).mono λ_ _ ⟨u,v,σ'',s',a,b,c,d,e⟩=>⟨u,v,σ'',s',a,h1.trans b,c,d,e⟩
def Rt (b:Bool):VL.Obj:=⟨0,true,1,[[bV b]]⟩
def rn (g N a3 a4 a5 a6:Nat):VL.Obj:=⟨0,true,1,[[.cl (.func 71) [] [.rf a3 0 0 0,.rf a4 0 0 0,.bx (.so 2 g 0 N),.rf a5 0 0 0,.rf a6 0 0 0]]]⟩
section
variable {t:List Int}{root parts:D}{bg nb:Nat}{Bs:List (List Bool)}{g b a:Nat}{C:List aq}{q p c:Nat}
theorem zb {k n:Nat}{rg:List Int}{st:fE} (h:Uh t root parts bg nb Bs g b a C q p c k) (hn:n<C.length) (hc:rg.length=c) (h1:st.ad.length=C.length) (hu:jd p st.ad<=k) (hr:st.rd.length+jd p st.ad<=C.length) {s:List VL.Obj}{K:V->List VL.Obj->Prop}
  (a4 a5 a6 a7 a8:Nat) (hnd:[0,1,2,3,a4,a5,a6,a7,a8].Nodup) (s0:s[0]?=some (dz t root parts bg nb)) (s1:s[1]?=some (fx bg Bs)) (s2:s[2]?=some (cN g b a C)) (s3:s[3]?=some (bp q st.ad)) (s4:s[a4]?=some (dh 3 q C.length)) (s5:s[a5]?=some (Rt st.cl)) (s6:s[a6]?=some (dh a7 st.gn st.rd.length)) (s7:s[a7]?=some (eV st.gn st.rd)) (s8:s[a8]?=some (rn g C.length a5 a4 a6 a8))
  {R:fE} (hR:R=gU t Bs C p (k+1) n rg st)
  (hk:K (.tu []) (((((((((s.set 0 (dz t root parts bg nb)).set 1 (fx bg Bs)).set 2 (cN g b a C)).set 3 (bp q R.ad)).set a4 (dh 3 q C.length)).set a5 (Rt R.cl)).set a6 (dh a7 R.gn R.rd.length)).set a7 (eV R.gn R.rd)).set a8 (rn g C.length a5 a4 a6 a8))) :
  ar Tryz.prog 71 [i64 n,i64 p,.d (ao rg),.rf a5 0 0 0,.rf a4 0 0 0,.bx (.so 2 g 0 C.length),.rf a6 0 0 0,.rf a8 0 0 0] s K:=by
 subst hR;have BP:∀st,(oQ t root parts bg nb Bs g b a C q st).map (aN [0,1,2,3,a4,a5,a6,a7,a8])=[dz t root parts bg nb,fx bg Bs,cN g b a C,bp q st.ad,dh 3 q C.length,Rt st.cl,dh a7 st.gn st.rd.length,eV st.gn st.rd,rn g C.length a5 a4 a6 a8]:=by intro st;simp only[oQ,ajR,ajV,ko,fr,nS,GQ];simp [aN,dz,dh,Fy,aE,aE.go,bV,Rt,rn]
 refine cV [0,1,2,3,a4,a5,a6,a7,a8] (h n rg st hn hc h1 hu hr) hnd rfl ?_ (by simp [df,aE,aE.go,i64]) cB (Ss t root parts bg nb Bs g b a C q st) (r':=.tu []) rfl ?_
 ·have h3:(oQ t root parts bg nb Bs g b a C q st).map (λo=>some (aN [0,1,2,3,a4,a5,a6,a7,a8] o))=((oQ t root parts bg nb Bs g b a C q st).map (aN [0,1,2,3,a4,a5,a6,a7,a8])).map some:=by rw[akq];rfl
  rw[h3,BP];simp only[ajR,ajV,s0,s1,s2,s3,s4,s5,s6,s7,s8]
 ·rw[BP];exact hk
end
end Go.Proofs.YtjjfioalgbecmaaGreat
