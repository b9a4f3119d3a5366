/- A part of the proof (O32 O33 O34 O35). -/
import Derived.Test.YtfmdmlfhigocaaaON14
import Derived.Test.YtfmdmlfhigocaaaON15
import Derived.Test.YtfmdmlfhigocaaaON26
import Derived.Test.YtfmdmlfhigocaaaON31
import Derived.Test.YtfmdmlfhigocaaaON32
import Derived.Test.YtfmdmlfhigocaaaON43
set_option linter.unusedSimpArgs false
set_option linter.unusedVariables false
open Nat renaming reduceShiftRight → cQ, reduceMod → dx, reduceLT → dB, reduceMul → dC, reduceSub → dD, reduceEqDiff → eI, reduceAdd → eJ, reduceLeDiff → fX, reduceBEq → gj
open Int renaming reduceToNat → gl, reduceNeg → ja, reduceLT → jg, reduceLE → jk, reduceEq → mA
set_option maxRecDepth 100000
set_option maxHeartbeats 80000000
namespace Go.Proofs.Ytfmdmlfhigocaaa
open Go.VL
structure kI where
 kg:Nat
 dP:List Int
def kI.cells (x:kI):List D:=[iD x.kg,al x.dP]
structure il where
 ad:List Nat
 cl:Bool
 rd:List kI
 gn:Nat
def ij (t:List Int) (Bs:List (List Bool)) (C:List ay) (p:Nat):Nat->Nat->List Int->il->il
 |0,_,_,st=>st
 |k+1,n,rg,st =>
  if st.cl=true\/st.ad[n]?=none\/st.ad[n]?=some (p+1) then st else
  let kO:il:=⟨st.ad.set n (p+1),st.cl,st.rd,st.gn⟩
  let i:=eV C n
  if i.op=0\/i.op=1 then ⟨kO.ad,decide (i.op=0),kO.rd++[⟨n,rg⟩],kO.gn+1⟩
  else if i.op=2 then ij t Bs C p k i.y.toNat rg (ij t Bs C p k i.x.toNat rg kO)
  else if i.op=3 then ij t Bs C p k i.x.toNat rg kO
  else if i.op=4 then ij t Bs C p k (n+1) (rg.set i.n.toNat p) kO
  else if i.op=5 then (if i.pass t Bs p=true then ij t Bs C p k (n+1) rg kO else kO)
  else kO
section
variable (t:List Int) (Bs:List (List Bool)) (C:List ay) (p:Nat) (c:Nat)
def kI.ok (x:kI):Prop:=x.dP.length=c/\x.kg<C.length/\((eV C x.kg).op=0\/(eV C x.kg).op=1)
def zo (st st':il):Prop:=st'.ad.length=st.ad.length/\iM p st'.ad<=iM p st.ad/\st'.rd.length+iM p st'.ad<=st.rd.length+iM p st.ad/\∀e∈st'.rd,e∈st.rd\/e.ok C c
variable {C p c}
theorem zo.refl (st:il):zo C p c st st:=⟨rfl,af3 _,af3 _,λ_ h=>.inl h⟩
theorem zo.trans {a b d:il} (h:zo C p c a b) (k:zo C p c b d):zo C p c a d :=
 ⟨k.1.trans h.1,ag4 k.2.1 h.2.1,ag4 k.2.2.1 h.2.2.1,λe he=>(k.2.2.2 e he).elim (λh'=>h.2.2.2 e h') .inr⟩
variable (C p c)
theorem Bg:∀(k n:Nat) (rg:List Int) (st:il),rg.length=c->st.ad.length=C.length->zo C p c st (ij t Bs C p k n rg st)
 |0,_,_,st,_,_=>.refl st
 |k+1,n,rg,st,hr,hd=>by
  have ih:=Bg k;rw[ij];split
  ·exact .refl st
  ·rename_i hk;obtain⟨x,hx⟩:∃x,st.ad[n]?=some x:=by
    cases h:st.ad[n]? with
    |none=>exact absurd (.inr (.inl h)) hk
    |some x=>exact⟨x,rfl⟩
   have Qj:x≠p+1:=λh=>hk (.inr (.inr (by rw[hx,h])));have hn:=(List.getElem?_eq_some_iff.1 hx).1;have hu:=xG hx Qj;have key:zo C p c st ⟨st.ad.set n (p+1),st.cl,st.rd,st.gn⟩:=⟨by simp,by simp only;omega,by simp only;omega,λ_ h=>.inl h⟩
   have pQ:(⟨st.ad.set n (p+1),st.cl,st.rd,st.gn⟩:il).ad.length=C.length:=by simpa using hd
   simp only;split
   ·rename_i h1;refine⟨by simp,by simp only;omega,by simp only[af7,agv];omega,λe he=>?_⟩;rcases List.mem_append.1 he with h|h
    ·exact .inl h
    ·rw[List.mem_singleton.1 h];exact .inr ⟨hr,by simp only;omega,h1⟩
   split
   ·have k1:=ih (eV C n).x.toNat rg _ hr pQ;exact(key.trans k1).trans (ih _ _ _ hr (k1.1.trans pQ))
   split
   ·exact key.trans (ih _ _ _ hr pQ)
   split
   ·exact key.trans (ih _ _ _ (by simpa using hr) pQ)
   split
   ·split
    ·exact key.trans (ih _ _ _ hr pQ)
    ·exact key
   ·exact key
end
def eM (q:Nat) (l:List kI):VL.Obj:=⟨q,true,2,l.map λx=>x.cells.map V.d⟩
def DK (g N:Nat):V:=.cl (.func 63) [] [.rf 5 0 0 0,.rf 4 0 0 0,.bx (.so 2 g 0 N),.rf 6 0 0 0,.rf 8 0 0 0]
def oA (t:List Int) (root parts:D) (bg nb:Nat) (Bs:List (List Bool)) (g b a:Nat) (C:List ay) (q:Nat) (st:il):List VL.Obj :=
 [dp t root parts bg nb,fr bg Bs,cG g b a C,bo q st.ad,da 3 q C.length,⟨0,true,1,[[bV st.cl]]⟩,da 7 st.gn st.rd.length,eM st.gn st.rd,⟨0,true,1,[[DK g C.length]]⟩]
def c8 (g N n p:Nat) (rg:List Int):List V:=[i64 n,i64 p,.d (al rg),.rf 5 0 0 0,.rf 4 0 0 0,.bx (.so 2 g 0 N),.rf 6 0 0 0,.rf 8 0 0 0]
theorem EL (ρ:List Nat) (q:Nat) (l:List kI):aT ρ (eM q l)=eM q l:=by unfold aT eM;simp only[agy];congr 1
theorem K3 (aY:List Nat) (q:Nat) (l:List kI):fy aY (eM q l)=eM q l:=by unfold fy eM;simp only[agy];congr 1
theorem tc (n q:Nat) (l:List kI):aG n (eM q l)=true:=by unfold aG eM;rw[af8];intro e he;obtain⟨i,_,rfl⟩:=List.mem_map.1 he;rfl
section
variable (t:List Int) (root parts:D) (bg nb:Nat) (Bs:List (List Bool)) (g b a:Nat) (C:List ay) (q:Nat) (p:Nat) (c:Nat)
theorem LC (st:il):(oA t root parts bg nb Bs g b a C q st).map (aT [0,1,2,3,4,5,6,7,8])=oA t root parts bg nb Bs g b a C q st:=by simp only[oA,afR,afU,jY,fh,nJ,EL];simp [aT,dp,da,DK,aL,aL.go,bV]
theorem Pz (st:il):(oA t root parts bg nb Bs g b a C q st).all (aG 9)=true:=by have:=gr 9 bg Bs;simp only[oA,agq,agA,kj 9 _ _ _ (by omega),ni,tc,af5];simp [aG,dp,da,DK,ah,ah.go,bV,this]
def Rg (k:Nat):Prop:=∀(n:Nat) (rg:List Int) (st:il),n<C.length->rg.length=c->st.ad.length=C.length->iM p st.ad<=k->st.rd.length+iM p st.ad<=C.length ->
 aq Try.prog 63 (c8 g C.length n p rg) (oA t root parts bg nb Bs g b a C q st) λv s=>v=.tu []/\s=oA t root parts bg nb Bs g b a C q (ij t Bs C p (k+1) n rg st)
def E8:Prop:=∀n,n<C.length->(eV C n).op=4->0<=(eV C n).n/\(eV C n).n<(c:Int)
variable {t root parts bg nb Bs g b a C q p c}
theorem Ex {k n:Nat}{rg:List Int}{st:il} (h:Rg t root parts bg nb Bs g b a C q p c k) (hn:n<C.length) (hc:rg.length=c) (h1:st.ad.length=C.length) (hu:iM p st.ad<=k) (hr:st.rd.length+iM p st.ad<=C.length) {tl:List VL.Obj}{K:V->List VL.Obj->Prop}
  (hk:K (.tu []) (oA t root parts bg nb Bs g b a C q (ij t Bs C p (k+1) n rg st)++tl)) :
  aq Try.prog 63 (c8 g C.length n p rg) (oA t root parts bg nb Bs g b a C q st++tl) K:=by
 have C5:=LC t root parts bg nb Bs g b a C q st;refine cH [0,1,2,3,4,5,6,7,8] (h n rg st hn hc h1 hu hr) (by decide) rfl ?_ (by rfl) (by rfl) (Pz t root parts bg nb Bs g b a C q st) (r':=.tu []) rfl ?_
 ·have h2:(oA t root parts bg nb Bs g b a C q st).map (λo=>some (aT [0,1,2,3,4,5,6,7,8] o))=((oA t root parts bg nb Bs g b a C q st).map (aT [0,1,2,3,4,5,6,7,8])).map some:=by rw[agy];rfl
  rw[h2,C5];rfl
 ·rw[LC];exact hk
end
theorem VE (l:List Int):∀e∈(l.map λx=>[iD x]).map (λx=>x.map V.d),e.length=1:=λe he=>by obtain⟨x,hx,rfl⟩:=List.mem_map.1 he;obtain⟨y,_,rfl⟩:=List.mem_map.1 hx;rfl
theorem Bu {P:Program}{f:FuncId}{args:List V}{s:List VL.Obj}{K:V->List VL.Obj->Prop}{x y:V} (ids:List Nat) (j:Nat) (hj:args[j]?=some x) (hf:ba (bE s ids).length (bE s ids) x=some y) (h:aq P f (args.set j y) (bE s ids) K):aq P f args s K:=by
 refine⟨h.1,λσ w vals hI hl hv=>?_⟩;obtain⟨hE,jo⟩:=tq ids s hI;refine(h.2 σ w vals jo (by simpa using hl) λi z hz=>?_).mono λe w' ⟨u,v,σ',s',h1,h2,h3,h4,h5⟩=>⟨u,v,σ',s',h1,hE.trans h2,h3,h4,h5⟩
 rw[List.getElem?_set]at hz;split at hz
 ·rename_i Uz;subst Uz;split at hz
  ·cases hz;have:=lP jo ((hv j x hj).aX hE) hf;rwa [agj]at this
  ·cases hz
 ·exact(hv i z hz).aX hE
section
variable (t:List Int) (root parts:D) (bg nb:Nat) (Bs:List (List Bool)) (g b a:Nat) (C:List ay) (q:Nat) (p:Nat) (c:Nat)
theorem EV (hg:m8 t Bs C) (OC:E8 C c) (zF:c<=100000) (nr:nb=Bs.length) (ht:t.length<=1000000) (hp:p<=t.length) (k:Nat) (IH:∀j,j+1=k->Rg t root parts bg nb Bs g b a C q p c j):Rg t root parts bg nb Bs g b a C q p c k:=by
 intro n rg st hn Wi h1 hu hrl;have WD:=hg.len;have iw:(n:Int)<(C.length:Int):=by omega
 have gp:(0:Int)<=(n:Int):=by omega
 have jv:n<st.ad.length:=by omega
 have rU:IntKind.i64.wrap ((p:Int)+1)=((p+1:Nat):Int):=by rw[bd _ (by omega)];rfl
 have ju:=gr 9 bg Bs;have ky:((dp t root parts bg nb).aw.all λe=>e.all (ah 9))=true:=rfl;have jD:((C.map (ay.cells b a)).all λe=>e.all (ah 9))=true:=kj 9 g b a (by omega) C;have I5:∀q l,((eM q l).aw.all λe=>e.all (ah 9))=true:=λq l=>tc 9 q l;have rN:∀l:List Nat,((l.map λ(x:Nat)=>[V.d (D.sc (Value.int IntKind.i64 (x:Int)))]).all λe=>e.all (ah 9))=true:=λl=>ni 9 0 l;obtain⟨x,hx⟩:∃x,st.ad[n]?=some x:=⟨_,afP jv⟩
 obtain⟨i,hi⟩:∃i,C[n]?=some i:=⟨_,afP hn⟩
 have kH:eV C n=i:=by unfold eV;rw[af9,hi];rfl
 cases fK:st.cl with
 |true =>
  have hr:ij t Bs C p (k+1) n rg st=st:=by rw[ij,be (.inl fK)]
  rw[hr];unfold c8 oA;refine an Try.func63 rfl Try.ntmps63 Try.results63 rfl 9 25769810175 (by simp) (by simp) ?_;simp only[zX,cQ,dx,dB,dC,dD,gl,ja,jg,jk,mA,eI,eJ,fX,reduceIte,reduceCtorEq,gj,i64,bV,iD,bD,c8,oA,bU,aP,da,bo,DK,cG,iw,gp,jv,hn,h1,afT,afN,afO,hx,hi,afV,afX,ay.cells,je,ky,ju,jD,I5,rN,af5,afQ,afS,agl,rU,fK]
 |false =>
 by_cases Sl:x=p+1
 ·subst Sl;have hr:ij t Bs C p (k+1) n rg st=st:=by rw[ij,be (.inr (.inr hx))]
  rw[hr];unfold c8 oA;refine an Try.func63 rfl Try.ntmps63 Try.results63 rfl 9 25769810175 (by simp) (by simp) ?_;simp only[zX,cQ,dx,dB,dC,dD,gl,ja,jg,jk,mA,eI,eJ,fX,reduceIte,reduceCtorEq,gj,i64,bV,iD,bD,c8,oA,bU,aP,da,bo,DK,cG,iw,gp,jv,hn,h1,afT,afN,afO,hx,hi,afV,afX,ay.cells,je,ky,ju,jD,I5,rN,af5,afQ,afS,agl,rU,fK]
 have mQ:((x:Int)=((p+1:Nat):Int))=False:=eq_false (by omega);have hu1:=xG hx Sl;have hup:=HW hx Sl;have HV:ij t Bs C p (k+1) n rg st=(let kO:il:=⟨st.ad.set n (p+1),false,st.rd,st.gn⟩
  if i.op=0\/i.op=1 then ⟨kO.ad,decide (i.op=0),kO.rd++[⟨n,rg⟩],kO.gn+1⟩
  else if i.op=2 then ij t Bs C p k i.y.toNat rg (ij t Bs C p k i.x.toNat rg kO)
  else if i.op=3 then ij t Bs C p k i.x.toNat rg kO
  else if i.op=4 then ij t Bs C p k (n+1) (rg.set i.n.toNat p) kO
  else if i.op=5 then (if i.pass t Bs p=true then ij t Bs C p k (n+1) rg kO else kO)
  else kO):=by rw[ij,ap (by rw[hx,fK];rintro (h|h|h) <;> simp at h;exact Sl h),kH,fK]
 simp only at HV;rw[HV];have hT:List.take st.rd.length (st.rd.map λ(x:kI)=>x.cells.map V.d)++[[V.d (iD n),V.d (al rg)]]=(st.rd++[(⟨n,rg⟩:kI)]).map λ(x:kI)=>x.cells.map V.d:=by rw[af1 (by rw[afN];exact af3 _)];simp [kI.cells]
 have Y2:iM p st.ad<=st.ad.length:=ag5;by_cases o0:i.op=0
 ·simp only[o0,true_or,if_true];unfold c8 oA;refine an Try.func63 rfl Try.ntmps63 Try.results63 rfl 9 25769810175 (by simp) (by simp) ?_;simp only[iD,al]at hT;simp only[zX,cQ,dx,dB,dC,dD,gl,ja,jg,jk,mA,eI,eJ,fX,reduceIte,reduceCtorEq,gj,i64,bV,iD,bD,c8,oA,bU,aP,da,bo,DK,cG,iw,gp,jv,hn,h1,afT,afN,afO,hx,hi,afV,afX,ay.cells,je,ky,ju,jD,I5,rN,af5,afQ,afS,agl,rU,fK,mQ,o0,eM,hT,al];refine⟨λe he=>by rw[List.mem_singleton.1 he];rfl,⟨af3 _,by omega⟩,?_,?_⟩
  ·exact tc 9 0 _
  ·simp
 by_cases o1:i.op=1
 ·simp only[o1,or_true,if_true];unfold c8 oA;refine an Try.func63 rfl Try.ntmps63 Try.results63 rfl 9 25769810175 (by simp) (by simp) ?_;simp only[iD,al]at hT;simp only[zX,cQ,dx,dB,dC,dD,gl,ja,jg,jk,mA,eI,eJ,fX,reduceIte,reduceCtorEq,gj,i64,bV,iD,bD,c8,oA,bU,aP,da,bo,DK,cG,iw,gp,jv,hn,h1,afT,afN,afO,hx,hi,afV,afX,ay.cells,je,ky,ju,jD,I5,rN,af5,afQ,afS,agl,rU,fK,mQ,o1,eM,hT,al];refine⟨λe he=>by rw[List.mem_singleton.1 he];rfl,⟨af3 _,by omega⟩,?_,?_⟩
  ·exact tc 9 0 _
  ·simp
 rw[ap (by omega)];obtain⟨j,rfl⟩:∃j,k=j+1:=⟨k-1,by omega⟩
 have RN:=λ(m:Nat) (r:List Int) (hm:m<C.length) (hr:r.length=c) (tl:List VL.Obj) (K:V->List VL.Obj->Prop) hk=>Ex (IH j rfl) (n:=m) (rg:=r) (st:=⟨st.ad.set n (p+1),false,st.rd,st.gn⟩) hm hr (by simpa using h1) (by simp only;omega) (by simp only;omega) (tl:=tl) (K:=K) hk;have hlen:=λm=>Bg t Bs C p c (j+1) m rg ⟨st.ad.set n (p+1),false,st.rd,st.gn⟩ Wi (by simpa using h1);by_cases o3:i.op=3
 ·obtain⟨x0,x1⟩:=hg.jump n hn (by rw[kH];exact o3);rw[kH]at x0 x1;obtain⟨X,hX⟩:∃X:Nat,i.x=X:=⟨i.x.toNat,by omega⟩
  have Ag:X<C.length:=by omega
  have hc:=RN X rg Ag Wi [⟨0,true,5,[[i64 3,i64 X,i64 i.y,i64 i.n,bY b a i.node]]⟩];simp only[o3,hX,mA,reduceIte,afT];generalize ij t Bs C p (j+1) X rg ⟨st.ad.set n (p+1),false,st.rd,st.gn⟩=R at *;unfold c8 oA at hc;unfold c8 oA;refine an Try.func63 rfl Try.ntmps63 Try.results63 rfl 9 25769810175 (by simp) (by simp) ?_;simp only[zX,cQ,dx,dB,dC,dD,gl,ja,jg,jk,mA,eI,eJ,fX,reduceIte,reduceCtorEq,gj,i64,bV,iD,bD,c8,oA,bU,aP,da,bo,DK,cG,iw,gp,jv,hn,h1,afT,afN,afO,hx,hi,afV,afX,ay.cells,je,ky,ju,jD,I5,rN,af5,afQ,afS,agl,rU,fK,mQ,o3,hX];refine hc _ ?_;simp only[zX,cQ,dx,dB,dC,dD,gl,ja,jg,jk,mA,eI,eJ,fX,reduceIte,reduceCtorEq,gj,i64,bV,iD,bD,c8,oA,bU,aP,da,bo,DK,cG,iw,gp,jv,hn,h1,afT,afN,afO,hx,hi,afV,afX,ay.cells,je,ky,ju,jD,I5,rN,af5,afQ,afS,agl,rU,fK,mQ,o3,hX]
 by_cases o4:i.op=4
 ·have Ag:=hg.next n hn (by rw[kH];exact .inr (.inl o4));obtain⟨s0,s1⟩:=OC n hn (by rw[kH];exact o4);rw[kH]at s0 s1;obtain⟨N,hN⟩:∃N:Nat,i.n=N:=⟨i.n.toNat,by omega⟩
  have hw:IntKind.i64.wrap ((n:Int)+1)=((n+1:Nat):Int):=by rw[bd _ (by omega)];rfl
  have w2:IntKind.i64.wrap ((N:Int)+1)=((N+1:Nat):Int):=by rw[bd _ (by omega)];rfl
  have b0:(0:Int)<=(N:Int):=by omega
  have b1:(N:Int)<=(rg.length:Int):=by omega
  have b2:((N+1:Nat):Int)<=(rg.length:Int):=by omega
  have b3:(0:Int)<=((N+1:Nat):Int):=by omega
  have z3:List.take ((rg.length:Int)-((N+1:Nat):Int)).toNat (List.drop (N+1) (rg.map λx=>[D.sc (.int .i64 x)]))=(rg.drop (N+1)).map λx=>[D.sc (.int .i64 x)]:=by rw[<- List.map_drop,af1 (by simp;omega)]
  have z4:List.take N (rg.map λx=>[D.sc (.int .i64 x)])=(rg.take N).map λx=>[D.sc (.int .i64 x)]:=by rw[List.map_take]
  have fx:rg.set N (p:Int)=rg.take N++(p:Int)::rg.drop (N+1):=by rw[List.set_eq_take_append_cons_drop,be (by omega)]
  have Vb:(rg.drop (N+1)).length<=100000:=by simp;omega
  have PU:(rg.take N).length<=100000:=by simp;omega
  simp only[o4,hN,mA,reduceIte,afT];have hc:=RN (n+1) (rg.set N (p:Int)) Ag (by simpa using Wi);generalize ij t Bs C p (j+1) (n+1) (rg.set N (p:Int)) ⟨st.ad.set n (p+1),false,st.rd,st.gn⟩=R at *;unfold c8 oA at hc;unfold c8 oA;refine an Try.func63 rfl Try.ntmps63 Try.results63 rfl 9 25769810175 (by simp) (by simp) ?_;simp only[zX,cQ,dx,dB,dC,dD,gl,ja,jg,jk,mA,eI,eJ,fX,reduceIte,reduceCtorEq,gj,i64,bV,iD,bD,c8,oA,bU,aP,da,bo,DK,cG,iw,gp,jv,hn,h1,afT,afN,afO,hx,hi,afV,afX,ay.cells,je,ky,ju,jD,I5,rN,af5,afQ,afS,agl,rU,fK,mQ,o4,hN,al,b0,b1,agn,z4,Int.sub_zero];refine⟨rfl,λe he=>by rw[List.mem_singleton.1 he];rfl,?_⟩;split
  ·rename_i heq;cases heq
  refine⟨⟨by omega,λe he=>by obtain⟨y,_,rfl⟩:=List.mem_map.1 he;rfl⟩,?_⟩;refine ar mix [11] [(10,[10],[10])] (by rfl) ?_;simp only[zX,cQ,dx,dB,dC,dD,gl,ja,jg,jk,mA,eI,eJ,fX,reduceIte,reduceCtorEq,gj,i64,bV,iD,bD,c8,oA,bU,aP,da,bo,DK,cG,iw,gp,jv,hn,h1,afT,afN,afO,hx,hi,afV,afX,ay.cells,je,ky,ju,jD,I5,rN,af5,afQ,afS,agl,rU,fK,mQ,o4,hN,al,hw,w2,b2,b3,agn,z3,z4];refine⟨.inr (λe he=>by obtain⟨y,_,rfl⟩:=List.mem_map.1 he;rfl),rfl,VE _,⟨by simp,by omega⟩,?_⟩;refine e8 (Bu (y:=.d (al (rg.set N (p:Int)))) [10] 2 rfl ?_ (hc [⟨0,true,5,[[i64 4,i64 i.x,i64 i.y,i64 N,bY b a i.node]]⟩,⟨1,false,1,List.take ((List.take N rg).length+1) (List.map (λx=>List.map V.d x) (List.map (λx=>[D.sc (Value.int IntKind.i64 x)]) (List.take N rg))++[[V.d (D.sc (Value.int IntKind.i64 p))]])++List.map (λx=>List.map V.d x) (List.map (λx=>[D.sc (Value.int IntKind.i64 x)]) (List.drop (N+1) rg))⟩] _ ⟨rfl,rfl⟩)) ?_
  ·simp only[bE,bM,agF,agm,agf,agd,afZ,af0];rw[nM (ds:=(rg.set N (p:Int)).map λx=>[iD x]) (by rfl) ?_ ?_ (.inr rfl)]
   ·rw[agH,af1 (by simp),af1 (by simp),fx];simp [iD]
   ·simp
  ·simp only[zX,cQ,dx,dB,dC,dD,gl,ja,jg,jk,mA,eI,eJ,fX,reduceIte,reduceCtorEq,gj,i64,bV,iD,bD,c8,oA,bU,aP,da,bo,DK,cG,iw,gp,jv,hn,h1,afT,afN,afO,hx,hi,afV,afX,ay.cells,je,ky,ju,jD,I5,rN,af5,afQ,afS,agl,rU,fK,mQ,o4,hN]
 by_cases o5:i.op=5
 ·obtain⟨SU,ak,mU,Ap,su,rS⟩:=qe t root parts bg nb Bs b a C hg nr ht hn (.inr (by rw[kH];exact o5)) p hp;have Ag:=hg.next n hn (by rw[kH];exact .inr (.inr o5));have hw:IntKind.i64.wrap ((n:Int)+1)=((n+1:Nat):Int):=by rw[bd _ (by omega)];rfl
  rw[kH]at mU rS;have hc:=RN (n+1) rg Ag Wi [⟨0,true,5,[[i64 5,i64 i.x,i64 i.y,i64 i.n,.cl (.func SU) [] ak]]⟩];simp only[o5,mA,reduceIte];generalize i.pass t Bs p=y at *;cases y with
  |true =>
   simp only[reduceIte];generalize ij t Bs C p (j+1) (n+1) rg ⟨st.ad.set n (p+1),false,st.rd,st.gn⟩=R at *;unfold c8 oA at hc;unfold c8 oA;refine an Try.func63 rfl Try.ntmps63 Try.results63 rfl 9 25769810175 (by simp) (by simp) ?_;simp only[zX,cQ,dx,dB,dC,dD,gl,ja,jg,jk,mA,eI,eJ,fX,reduceIte,reduceCtorEq,gj,i64,bV,iD,bD,c8,oA,bU,aP,da,bo,DK,cG,iw,gp,jv,hn,h1,afT,afN,afO,hx,hi,afV,afX,ay.cells,je,ky,ju,jD,I5,rN,af5,afQ,afS,agl,rU,fK,mQ,o5,mU,hw];refine dN t root parts bg nb Bs rS ?_ ?_ rfl rfl rfl ?_
   ·simp [aL,i64,su]
   ·simp [ah,ah.go,i64,Ap]
   simp only[zX,cQ,dx,dB,dC,dD,gl,ja,jg,jk,mA,eI,eJ,fX,reduceIte,reduceCtorEq,gj,i64,bV,iD,bD,c8,oA,bU,aP,da,bo,DK,cG,iw,gp,jv,hn,h1,afT,afN,afO,hx,hi,afV,afX,ay.cells,je,ky,ju,jD,I5,rN,af5,afQ,afS,agl,rU,fK,mQ,o5,mU,hw];refine hc _ ?_;simp only[zX,cQ,dx,dB,dC,dD,gl,ja,jg,jk,mA,eI,eJ,fX,reduceIte,reduceCtorEq,gj,i64,bV,iD,bD,c8,oA,bU,aP,da,bo,DK,cG,iw,gp,jv,hn,h1,afT,afN,afO,hx,hi,afV,afX,ay.cells,je,ky,ju,jD,I5,rN,af5,afQ,afS,agl,rU,fK,mQ,o5,mU,hw]
  |false =>
   simp only[age,reduceIte];unfold c8 oA;refine an Try.func63 rfl Try.ntmps63 Try.results63 rfl 9 25769810175 (by simp) (by simp) ?_;simp only[zX,cQ,dx,dB,dC,dD,gl,ja,jg,jk,mA,eI,eJ,fX,reduceIte,reduceCtorEq,gj,i64,bV,iD,bD,c8,oA,bU,aP,da,bo,DK,cG,iw,gp,jv,hn,h1,afT,afN,afO,hx,hi,afV,afX,ay.cells,je,ky,ju,jD,I5,rN,af5,afQ,afS,agl,rU,fK,mQ,o5,mU];refine dN t root parts bg nb Bs rS ?_ ?_ rfl rfl rfl ?_
   ·simp [aL,i64,su]
   ·simp [ah,ah.go,i64,Ap]
   simp only[zX,cQ,dx,dB,dC,dD,gl,ja,jg,jk,mA,eI,eJ,fX,reduceIte,reduceCtorEq,gj,i64,bV,iD,bD,c8,oA,bU,aP,da,bo,DK,cG,iw,gp,jv,hn,h1,afT,afN,afO,hx,hi,afV,afX,ay.cells,je,ky,ju,jD,I5,rN,af5,afQ,afS,agl,rU,fK,mQ,o5,mU]
 by_cases o2:i.op=2
 ·obtain⟨x0,x1,y0,y1⟩:=hg.split n hn (by rw[kH];exact o2);rw[kH]at x0 x1 y0 y1;obtain⟨X,hX⟩:∃X:Nat,i.x=X:=⟨i.x.toNat,by omega⟩
  obtain⟨Y,hY⟩:∃Y:Nat,i.y=Y:=⟨i.y.toNat,by omega⟩
  have Ag:X<C.length:=by omega
  have Yh:Y<C.length:=by omega
  have hc:=RN X rg Ag Wi [⟨0,true,5,[[i64 2,i64 X,i64 Y,i64 i.n,bY b a i.node]]⟩];have hl:=hlen X;simp only[o2,hX,hY,mA,reduceIte,afT];generalize ij t Bs C p (j+1) X rg ⟨st.ad.set n (p+1),false,st.rd,st.gn⟩=R at *;obtain⟨l1,l2,l3,_⟩:=hl;simp only[agl]at l1 l2 l3;have su:=λ(K:V->List VL.Obj->Prop) hk=>Ex (IH j rfl) (n:=Y) (rg:=rg) (st:=R) Yh Wi (by omega) (by omega) (by omega) (tl:=[⟨0,true,5,[[i64 2,i64 X,i64 Y,i64 i.n,bY b a i.node]]⟩]) (K:=K) hk;generalize ij t Bs C p (j+1) Y rg R=R2 at *;unfold c8 oA at hc su;unfold c8 oA;refine an Try.func63 rfl Try.ntmps63 Try.results63 rfl 9 25769810175 (by simp) (by simp) ?_;simp only[zX,cQ,dx,dB,dC,dD,gl,ja,jg,jk,mA,eI,eJ,fX,reduceIte,reduceCtorEq,gj,i64,bV,iD,bD,c8,oA,bU,aP,da,bo,DK,cG,iw,gp,jv,hn,h1,afT,afN,afO,hx,hi,afV,afX,ay.cells,je,ky,ju,jD,I5,rN,af5,afQ,afS,agl,rU,fK,mQ,o2,hX,hY];refine hc _ ?_;simp only[zX,cQ,dx,dB,dC,dD,gl,ja,jg,jk,mA,eI,eJ,fX,reduceIte,reduceCtorEq,gj,i64,bV,iD,bD,c8,oA,bU,aP,da,bo,DK,cG,iw,gp,jv,hn,h1,afT,afN,afO,hx,hi,afV,afX,ay.cells,je,ky,ju,jD,I5,rN,af5,afQ,afS,agl,rU,fK,mQ,o2,hX,hY];refine su _ ?_;simp only[zX,cQ,dx,dB,dC,dD,gl,ja,jg,jk,mA,eI,eJ,fX,reduceIte,reduceCtorEq,gj,i64,bV,iD,bD,c8,oA,bU,aP,da,bo,DK,cG,iw,gp,jv,hn,h1,afT,afN,afO,hx,hi,afV,afX,ay.cells,je,ky,ju,jD,I5,rN,af5,afQ,afS,agl,rU,fK,mQ,o2,hX,hY]
 have J5:=hg.ops n hn;rw[kH]at J5;omega
theorem yc (hg:m8 t Bs C) (OC:E8 C c) (zF:c<=100000) (nr:nb=Bs.length) (ht:t.length<=1000000) (hp:p<=t.length):∀k,Rg t root parts bg nb Bs g b a C q p c k
 |0=>EV t root parts bg nb Bs g b a C q p c hg OC zF nr ht hp 0 (λj h=>by omega)
 |k+1=>EV t root parts bg nb Bs g b a C q p c hg OC zF nr ht hp (k+1) (λj h=>by
  have:j=k:=by omega
  subst this;exact yc hg OC zF nr ht hp j)
end
variable{j:Nat}{c:Nat}
def Wa (dP:List Int) (j:Nat):Int×Int :=
 if dP.getD (2*j) 0=-1\/dP.getD (2*j+1) 0=-1 then (-1,-1) else (dP.getD (2*j) 0,dP.getD (2*j+1) 0)
def MC (c:Nat) (dP:List Int):aK:=(List.range c).map (Wa dP)
theorem TW {l:List Int}{i:Nat} (h:i<l.length):l[i]?=some (l.getD i 0):=by rw[List.getD,afP h];rfl
def RQ (st en:Int) (v:V):VL.Obj:=⟨0,true,3,[[i64 st,i64 en,v]]⟩
def Me:VL.Obj:=⟨0,true,3,[[i64 0,i64 0,.fu []]]⟩
def I7 (c i:Nat) (dP:List Int):VL.Obj:=⟨0,true,2,(List.range i).map (λj=>[i64 (Wa dP j).1,i64 (Wa dP j).2])++List.replicate (c-i) [i64 0,i64 0]⟩
theorem SV {α:Type} (l:List α) (z:α) (hl:l.length=j) (h:j<c):(l++List.replicate (c-j) z)[j]?=some z:=by rw[af6 (by omega)];simp [List.getElem?_replicate,hl];omega
theorem V7 {α:Type} (l:List α) (z y:α) (hl:l.length=j) (h:j<c):((l++List.replicate (c-j) z).set j y)[j]?=some y :=
 agc (by simp;omega)
theorem Sq {α:Type} (l:List α) (z y:α) (hl:l.length=j) (h:j<c):(l++List.replicate (c-j) z).set j y=(l++[y])++List.replicate (c-(j+1)) z:=by
 rw[ahd _ _ (by omega)];obtain⟨m,hm⟩:∃m,c-j=m+1:=⟨c-j-1,by omega⟩
 rw[hm,hl,ahi,List.replicate_succ,agd,agu];have:c-(j+1)=m:=by omega
 rw[this];rfl
theorem MP (c:Nat) (hc:c<=1000) (st en:Int) (dP:List Int) (hr:dP.length=2*c):aO Try.prog 64 [i64 st,i64 en,.d (al dP)] (nK.mk st en (MC c dP)).v:=by
 have w0:Int.tdiv (dP.length:Int) 2=(c:Int):=by rw[hr,Int.tdiv_eq_ediv_of_nonneg (by omega)];omega
 have Wq:IntKind.i64.wrap (c:Int)=(c:Int):=bd _ (by omega);refine an Try.func64 rfl Try.ntmps64 Try.results64 rfl 0 786887 (by simp) (by simp) ?_;simp only[zX,cQ,dx,dB,dC,dD,gl,ja,jg,jk,mA,eI,eJ,fX,reduceIte,reduceCtorEq,gj,i64,bV,iD,bD,al,afN,w0,Wq];refine⟨by omega,?_⟩;refine au (λn e s=>∃j:Nat,n=c-j/\j<=c/\e 2=.d (al dP)/\e 6=.rf 0 0 0 0/\e 7=.rf 2 0 0 0/\e 18=i64 c/\e 19=i64 j/\s=[Me,I7 c j dP,RQ st en (.so 1 0 0 c)])
  ⟨_,_,_,br.refl,0,rfl,by omega,rfl,rfl,rfl,rfl,rfl,by simp [Me,I7,RQ,i64]⟩ ?_
 rintro n e s ⟨j,rfl,hj,h2,h6,h7,ku,kR,rfl⟩;rcases agi j c with az|fI
 ·have aC:(j:Int)<c:=by omega
  have w1:IntKind.i64.wrap (2*(j:Int))=((2*j:Nat):Int):=by rw[bd _ (by omega)];omega
  have w2:IntKind.i64.wrap (((2*j:Nat):Int)+1)=((2*j+1:Nat):Int):=by rw[bd _ (by omega)];omega
  have c1:((2*j+1:Nat):Int)<(dP.length:Int):=by omega
  have c2:((2*j:Nat):Int)<(dP.length:Int):=by omega
  have c3:(0:Int)<=((2*j:Nat):Int):=by omega
  have c4:(0:Int)<=((2*j+1:Nat):Int):=by omega
  have g1:=TW (l:=dP) (i:=2*j) (by omega);have g2:=TW (l:=dP) (i:=2*j+1) (by omega);have hP:Wa dP j=if dP.getD (2*j) 0=-1\/dP.getD (2*j+1) 0=-1 then (-1,-1) else (dP.getD (2*j) 0,dP.getD (2*j+1) 0):=rfl
  generalize dP.getD (2*j) 0=a at *;generalize dP.getD (2*j+1) 0=b at *;simp only[al]at h2;have GM:((List.range j).map (λj=>[V.d (.sc (.int .i64 (Wa dP j).1)),V.d (.sc (.int .i64 (Wa dP j).2))])).length=j:=by simp
  have ep:=SV _ [V.d (.sc (.int .i64 0)),V.d (.sc (.int .i64 0))] GM az;have fx:=λy=>Sq _ [V.d (.sc (.int .i64 0)),V.d (.sc (.int .i64 0))] y GM az;have Ca:=λy=>V7 _ [V.d (.sc (.int .i64 0)),V.d (.sc (.int .i64 0))] y GM az;by_cases ha:a=-1
  ·have NP:=eq_true ha;simp only[zX,cQ,dx,dB,dC,dD,gl,ja,jg,jk,mA,eI,eJ,fX,reduceIte,reduceCtorEq,gj,i64,bV,iD,bD,h2,h6,h7,ku,kR,aC,w1,w2,c1,c2,c3,c4,g1,g2,NP,Me,I7,RQ,al,ep,afX,ahh,afT,afN,ne_eq,not_true_eq_false,not_false_eq_true];refine⟨c-(j+1),_,_,by omega,br.refl,j+1,rfl,az,?_,?_,?_,?_,?_,?_⟩ <;> (try simp only[zU,gj,cQ,dx,eI,reduceIte])
   ·exact h2
   ·exact h6
   ·exact h7
   ·exact ku
   ·rw[bd _ (by omega)];rfl
   ·rw[fx];simp [hP,ha,List.range_succ]
  ·by_cases hb:b=-1
   ·have OF:=eq_true hb;simp only[zX,cQ,dx,dB,dC,dD,gl,ja,jg,jk,mA,eI,eJ,fX,reduceIte,reduceCtorEq,gj,i64,bV,iD,bD,h2,h6,h7,ku,kR,aC,w1,w2,c1,c2,c3,c4,g1,g2,ha,OF,Me,I7,RQ,al,ep,afX,ahh,afT,afN,ne_eq,not_true_eq_false,not_false_eq_true];refine⟨c-(j+1),_,_,by omega,br.refl,j+1,rfl,az,?_,?_,?_,?_,?_,?_⟩ <;> (try simp only[zU,gj,cQ,dx,eI,reduceIte])
    ·exact h2
    ·exact h6
    ·exact h7
    ·exact ku
    ·rw[bd _ (by omega)];rfl
    ·rw[fx];simp [hP,ha,hb,List.range_succ]
   ·simp only[zX,cQ,dx,dB,dC,dD,gl,ja,jg,jk,mA,eI,eJ,fX,reduceIte,reduceCtorEq,gj,i64,bV,iD,bD,h2,h6,h7,ku,kR,aC,w1,w2,c1,c2,c3,c4,g1,g2,ha,hb,Me,I7,RQ,al,ep,afX,ahh,afT,afN,ne_eq,not_true_eq_false,not_false_eq_true];refine ar mix [16] [] (by rfl) ?_;simp only[zX,cQ,dx,dB,dC,dD,gl,ja,jg,jk,mA,eI,eJ,fX,reduceIte,reduceCtorEq,gj,Ca,i64,bV,iD,bD,h2,h6,h7,ku,kR,aC,w1,w2,c1,c2,c3,c4,g1,g2,ha,hb,Me,I7,RQ,al,ep,afX,ahh,afT,afN,ne_eq,not_true_eq_false,not_false_eq_true];refine⟨c-(j+1),_,_,by omega,br.refl,j+1,rfl,az,?_,?_,?_,?_,?_,?_⟩ <;> (try simp only[zU,gj,cQ,dx,eI,reduceIte])
    ·exact h2
    ·exact h6
    ·exact h7
    ·exact ku
    ·rw[bd _ (by omega)];rfl
    ·rw[List.set_set,fx];simp [hP,ha,hb,List.range_succ]
 ·have KR:j=c:=by omega
  subst KR;have aC:¬(j:Int)<j:=by omega
  have ZC:I7 j j dP=⟨0,true,2,((MC j dP).map aV).map λx=>x.map V.d⟩:=by simp [I7,MC,aV,iD,i64]
  simp only[zX,cQ,dx,dB,dC,dD,gl,ja,jg,jk,mA,eI,eJ,fX,reduceIte,reduceCtorEq,gj,i64,bV,iD,h2,h6,h7,ku,kR,aC,Me,ZC,RQ];rw[eH 7 0 _ _ _ (by simp [MC]),be (by simp [MC])];rfl
section
variable (t:List Int) (Bs:List (List Bool)) (C:List ay)
def lH (p:Nat) (st:il) (x:kI):il:=if (eV C x.kg).op=1/\(eV C x.kg).pass t Bs p=true then ij t Bs C (p+1) (C.length+1) (x.kg+1) x.dP st else st
def kv (p:Nat) (l:List kI) (st:il):il:=l.foldl (lH t Bs C p) st
def Cv (b p c:Nat) (st:il) (iC:Option nK):Option nK:=if st.cl=true then some ⟨b,p,MC c (st.rd.getLastD ⟨0,[]⟩).dP⟩ else iC
def sN (b c:Nat):Nat->Nat->il->Nat->Option nK->Option nK×List Nat
 |0,_,st,_,iC=>(iC,st.ad)
 |k+1,p,st,gb,iC=>if st.rd=[] then (iC,st.ad) else sN b c k (p+1) (kv t Bs C p st.rd ⟨st.ad,false,[],gb⟩) st.gn (Cv b p c st iC)
def nt (c:Nat):List Int:=List.replicate (2*c) (-1)
def xU (p c:Nat):il:=ij t Bs C p (C.length+1) 0 (nt c) ⟨List.replicate C.length 0,false,[],0⟩
def iA (p c:Nat):Option nK×List Nat:=sN t Bs C p c (t.length+2-p) p (xU t Bs C p c) 0 none
def QB (r:Option nK):nK:=r.getD ⟨0,0,[]⟩
variable {t Bs C}
variable{c:Nat}{st:il}{p:Nat}
theorem Ch (p:Nat) (l:List kI) (x:kI) (st:il):kv t Bs C p (l++[x]) st=lH t Bs C p (kv t Bs C p l st) x:=by unfold kv;rw[List.foldl_append];rfl
structure vg (C:List ay) (c:Nat) (st:il):Prop where
 ad:st.ad.length=C.length
 th:∀x∈st.rd,x.ok C (2*c)
 last:st.cl=true->st.rd≠[]
def lL (C:List ay) (p:Nat) (st:il):Prop:=st.rd.length+iM p st.ad<=C.length
theorem DR (p:Nat):∀(k n:Nat) (rg:List Int) (st:il),(st.cl=true->st.rd≠[])->((ij t Bs C p k n rg st).cl=true->(ij t Bs C p k n rg st).rd≠[])
 |0,_,_,st,h=>h
 |k+1,n,rg,st,h=>by
  have ih:=DR p k;rw[ij];split
  ·exact h
  simp only;split
  ·intro _;simp
  split
  ·exact ih _ _ _ (ih _ _ _ h)
  split
  ·exact ih _ _ _ h
  split
  ·exact ih _ _ _ h
  split
  ·split
   ·exact ih _ _ _ h
   ·exact h
  ·exact h
theorem yW {k n:Nat}{rg:List Int} (h:vg C c st) (hn:lL C p st) (hr:rg.length=2*c):vg C c (ij t Bs C p k n rg st)/\lL C p (ij t Bs C p k n rg st):=by obtain⟨l1,l2,l3,l4⟩:=Bg t Bs C p (2*c) k n rg st hr h.ad;refine⟨⟨l1.trans h.ad,λx hx=>(l4 x hx).elim (h.th x) id,DR p k n rg st h.last⟩,?_⟩;unfold lL at *;omega
theorem K0{x:kI} (hx:x.ok C (2*c)) (h:vg C c st) (hn:lL C (p+1) st):vg C c (lH t Bs C p st x)/\lL C (p+1) (lH t Bs C p st x):=by
 unfold lH;split
 ·exact yW h hn hx.1
 ·exact⟨h,hn⟩
theorem qR {c p:Nat}:∀(l:List kI) (st:il),(∀x∈l,x.ok C (2*c))->vg C c st->lL C (p+1) st->vg C c (kv t Bs C p l st)/\lL C (p+1) (kv t Bs C p l st)
 |[],st,_,h,hn=>⟨h,hn⟩
 |x::l,st,hl,h,hn=>by obtain⟨k1,k2⟩:=K0 (t:=t) (Bs:=Bs) (hl x (by simp)) h hn;exact qR l _ (λy hy=>hl y (by simp [hy])) k1 k2
theorem Ge (hg:m8 t Bs C) {n:Nat} (hn:n<C.length) (ho:(eV C n).op=1) (h:(eV C n).pass t Bs p=true):p<t.length:=by obtain⟨re,k,h1,h2,_⟩:=hg.set n hn ho;unfold ay.pass at h;rw[h1]at h;simp only[h2,if_true,agb,decide_eq_true_eq]at h;omega
theorem Ng (hg:m8 t Bs C){x:kI} (hx:x.ok C (2*c)) (hp:t.length<=p):lH t Bs C p st x=st:=by unfold lH;rw[ap];rintro ⟨h1,h2⟩;have:=Ge hg hx.2.1 h1 h2;omega
theorem zf (hg:m8 t Bs C) {c p:Nat} (hp:t.length<=p):∀(l:List kI) (st:il),(∀x∈l,x.ok C (2*c))->kv t Bs C p l st=st
 |[],_,_=>rfl
 |x::l,st,hl=>by show kv t Bs C p l (lH t Bs C p st x)=st;rw[Ng hg (hl x (by simp)) hp];exact zf hg hp l st λy hy=>hl y (by simp [hy])
end
theorem Qs {P:Program}{f:FuncId}{args:List V}{s:List VL.Obj}{K:V->List VL.Obj->Prop}{o:VL.Obj}{pre post:List V} (k sz:Nat) (ho:s[k]?=some o) (fP:o.aw=[pre++.fu []::post]) (fF:pre.length+1+post.length=o.sz)
  (h:aq P f args (s.set k { o with aw:=[pre++.so s.length 0 0 0::post] }++[⟨0,true,sz,[]⟩]) K):aq P f args s K:=by
 refine⟨h.1,λσ w vals hI hl hv=>?_⟩;obtain⟨σ',h1,h2⟩:=BE hI k sz ho fP fF;exact(h.2 σ' w vals h2 hl (λi x hx=>(hv i x hx).aX h1)).mono λ_ _ ⟨u,v,Yw,s',a,b,c,d,e⟩=>⟨u,v,Yw,s',a,h1.trans b,c,d,e⟩
def OJ (b:Bool):VL.Obj:=⟨0,true,1,[[bV b]]⟩
def qJ (g N a3 a4 a5 a6:Nat):VL.Obj:=⟨0,true,1,[[.cl (.func 63) [] [.rf a3 0 0 0,.rf a4 0 0 0,.bx (.so 2 g 0 N),.rf a5 0 0 0,.rf a6 0 0 0]]]⟩
section
variable {t:List Int}{root parts:D}{bg nb:Nat}{Bs:List (List Bool)}{g b a:Nat}{C:List ay}{q p c:Nat}
theorem yD {k n:Nat}{rg:List Int}{st:il} (h:Rg t root parts bg nb Bs g b a C q p c k) (hn:n<C.length) (hc:rg.length=c) (h1:st.ad.length=C.length) (hu:iM p st.ad<=k) (hr:st.rd.length+iM p st.ad<=C.length) {s:List VL.Obj}{K:V->List VL.Obj->Prop}
  (a4 a5 a6 a7 a8:Nat) (rR:[0,1,2,3,a4,a5,a6,a7,a8].Nodup) (s0:s[0]?=some (dp t root parts bg nb)) (s1:s[1]?=some (fr bg Bs)) (s2:s[2]?=some (cG g b a C)) (s3:s[3]?=some (bo q st.ad)) (s4:s[a4]?=some (da 3 q C.length)) (s5:s[a5]?=some (OJ st.cl)) (s6:s[a6]?=some (da a7 st.gn st.rd.length)) (s7:s[a7]?=some (eM st.gn st.rd)) (s8:s[a8]?=some (qJ g C.length a5 a4 a6 a8))
  {R:il} (hR:R=ij t Bs C p (k+1) n rg st)
  (hk:K (.tu []) (((((((((s.set 0 (dp t root parts bg nb)).set 1 (fr bg Bs)).set 2 (cG g b a C)).set 3 (bo q R.ad)).set a4 (da 3 q C.length)).set a5 (OJ R.cl)).set a6 (da a7 R.gn R.rd.length)).set a7 (eM R.gn R.rd)).set a8 (qJ g C.length a5 a4 a6 a8))) :
  aq Try.prog 63 [i64 n,i64 p,.d (al rg),.rf a5 0 0 0,.rf a4 0 0 0,.bx (.so 2 g 0 C.length),.rf a6 0 0 0,.rf a8 0 0 0] s K:=by
 subst hR;have C5:∀st,(oA t root parts bg nb Bs g b a C q st).map (aT [0,1,2,3,a4,a5,a6,a7,a8])=[dp t root parts bg nb,fr bg Bs,cG g b a C,bo q st.ad,da 3 q C.length,OJ st.cl,da a7 st.gn st.rd.length,eM st.gn st.rd,qJ g C.length a5 a4 a6 a8]:=by intro st;simp only[oA,afR,afU,jY,fh,nJ,EL];simp [aT,dp,da,DK,aL,aL.go,bV,OJ,qJ]
 refine cH [0,1,2,3,a4,a5,a6,a7,a8] (h n rg st hn hc h1 hu hr) rR rfl ?_ (by simp [c8,aL,aL.go,i64]) (by rfl) (Pz t root parts bg nb Bs g b a C q st) (r':=.tu []) rfl ?_
 ·have h3:(oA t root parts bg nb Bs g b a C q st).map (λo=>some (aT [0,1,2,3,a4,a5,a6,a7,a8] o))=((oA t root parts bg nb Bs g b a C q st).map (aT [0,1,2,3,a4,a5,a6,a7,a8])).map some:=by rw[agy];rfl
  rw[h3,C5];simp only[afR,afU,s0,s1,s2,s3,s4,s5,s6,s7,s8]
 ·rw[C5];exact hk
end
end Go.Proofs.Ytfmdmlfhigocaaa
