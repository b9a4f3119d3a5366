/- A part of the proof (O32 O33 O34 O35). -/
import Derived.Test.YtfmdmlfhigocaaaOR14
import Derived.Test.YtfmdmlfhigocaaaOR15
import Derived.Test.YtfmdmlfhigocaaaOR25
import Derived.Test.YtfmdmlfhigocaaaOR30
import Derived.Test.YtfmdmlfhigocaaaOR31
import Derived.Test.YtfmdmlfhigocaaaOR41
set_option linter.unusedSimpArgs false
set_option linter.unusedVariables false
open Nat renaming reduceShiftRight → cy, reduceMod → cJ, reduceEqDiff → dV, reduceBEq → gV
open Int renaming reduceEq → jT
set_option maxRecDepth 100000
set_option maxHeartbeats 80000000
namespace Go.Proofs.Ytfmdmlfhigocaaa
open Go.VL
structure iH where
 fJ:Nat
 aL:List Int
def iH.cells (x:iH):List D:=[iD x.fJ,an x.aL]
structure eG where
 ad:List Nat
 cl:Bool
 rd:List iH
 gn:Nat
def fo (t:List Int) (Bs:List (List Bool)) (C:List au) (p:Nat):Nat->Nat->List Int->eG->eG
 |0,_,_,st=>st
 |k+1,n,rg,st =>
  if st.cl=true\/st.ad[n]?=none\/st.ad[n]?=some (p+1) then st else
  let dM:eG:=⟨st.ad.set n (p+1),st.cl,st.rd,st.gn⟩
  let i:=bz C n
  if i.op=0\/i.op=1 then ⟨dM.ad,decide (i.op=0),dM.rd++[⟨n,rg⟩],dM.gn+1⟩
  else if i.op=2 then fo t Bs C p k i.y.toNat rg (fo t Bs C p k i.x.toNat rg dM)
  else if i.op=3 then fo t Bs C p k i.x.toNat rg dM
  else if i.op=4 then fo t Bs C p k (n+1) (rg.set i.n.toNat p) dM
  else if i.op=5 then (if i.pass t Bs p=true then fo t Bs C p k (n+1) rg dM else dM)
  else dM
section
variable (t:List Int) (Bs:List (List Bool)) (C:List au) (p:Nat) (c:Nat)
def iH.ok (x:iH):Prop:=x.aL.length=c/\x.fJ<C.length/\((bz C x.fJ).op=0\/(bz C x.fJ).op=1)
def Bu (st st':eG):Prop:=st'.ad.length=st.ad.length/\fy p st'.ad<=fy p st.ad/\st'.rd.length+fy p st'.ad<=st.rd.length+fy p st.ad/\∀e∈st'.rd,e∈st.rd\/e.ok C c
variable {C p c}
theorem Bu.refl (st:eG):Bu C p c st st:=⟨rfl,ajc _,ajc _,λ_ h=>.inl h⟩
theorem Bu.trans {a b d:eG} (h:Bu C p c a b) (k:Bu C p c b d):Bu C p c a d :=
 ⟨k.1.trans h.1,aj0 k.2.1 h.2.1,aj0 k.2.2.1 h.2.2.1,λe he=>(k.2.2.2 e he).elim (λh'=>h.2.2.2 e h') .inr⟩
variable (C p c)
theorem nF:∀(k n:Nat) (rg:List Int) (st:eG),rg.length=c->st.ad.length=C.length->Bu C p c st (fo t Bs C p k n rg st)
 |0,_,_,st,_,_=>.refl st
 |k+1,n,rg,st,hr,hd=>by
  have ih:=nF k;rw[fo];split
  ·exact .refl st
  ·rename_i hk;obtain⟨x,hx⟩:∃x,st.ad[n]?=some x:=by
    cases h:st.ad[n]? with
    |none=>exact absurd (.inr (.inl h)) hk
    |some x=>exact⟨x,rfl⟩
   have x4:x≠p+1:=λh=>hk (.inr (.inr (by rw[hx,h])));have hn:=(List.getElem?_eq_some_iff.1 hx).1;have hu:=rI hx x4;have key:Bu C p c st ⟨st.ad.set n (p+1),st.cl,st.rd,st.gn⟩:=⟨aj,oG,oG,λ_ h=>.inl h⟩
   have qK:(⟨st.ad.set n (p+1),st.cl,st.rd,st.gn⟩:eG).ad.length=C.length:=by simpa using hd
   simp only;split
   ·rename_i h1;refine⟨aj,oG,by simp only[ai6,ajz];omega,λe he=>?_⟩;rcases List.mem_append.1 he with h|h
    ·exact .inl h
    ·rw[List.mem_singleton.1 h];exact .inr ⟨hr,oG,h1⟩
   split
   ·have k1:=ih (bz C n).x.toNat rg _ hr qK;exact(key.trans k1).trans (ih _ _ _ hr (k1.1.trans qK))
   split
   ·exact key.trans (ih _ _ _ hr qK)
   split
   ·exact key.trans (ih _ _ _ (by simpa using hr) qK)
   split
   ·split
    ·exact key.trans (ih _ _ _ hr qK)
    ·exact key
   ·exact key
end
def fp (q:Nat) (l:List iH):VL.Obj:=⟨q,true,2,l.map λx=>x.cells.map V.d⟩
def Gf (g N:Nat):V:=.cl (.func 63) [] [.rf 5 0 0 0,.rf 4 0 0 0,.bx (.so 2 g 0 N),.rf 6 0 0 0,.rf 8 0 0 0]
def qb (t:List Int) (root parts:D) (bg nb:Nat) (Bs:List (List Bool)) (g b a:Nat) (C:List au) (q:Nat) (st:eG):List VL.Obj :=
 [dK t root parts bg nb,fX bg Bs,cP g b a C,bw q st.ad,dB 3 q C.length,⟨0,true,1,[[bV st.cl]]⟩,dB 7 st.gn st.rd.length,fp st.gn st.rd,⟨0,true,1,[[Gf g C.length]]⟩]
def dy (g N n p:Nat) (rg:List Int):List V:=[i64 n,i64 p,.d (an rg),.rf 5 0 0 0,.rf 4 0 0 0,.bx (.so 2 g 0 N),.rf 6 0 0 0,.rf 8 0 0 0]
theorem Hk (ρ:List Nat) (q:Nat) (l:List iH):bf ρ (fp q l)=fp q l:=by unfold bf fp;simp only[ajL];congr 1
theorem N0 (ba:List Nat) (q:Nat) (l:List iH):ga ba (fp q l)=fp q l:=by unfold ga fp;simp only[ajL];congr 1
theorem vf (n q:Nat) (l:List iH):bc n (fp q l)=true:=by unfold bc fp;rw[ajo];intro e he;obtain⟨i,_,rfl⟩:=List.mem_map.1 he;rfl
section
variable (t:List Int) (root parts:D) (bg nb:Nat) (Bs:List (List Bool)) (g b a:Nat) (C:List au) (q:Nat) (p:Nat) (c:Nat)
theorem OI (st:eG):(qb t root parts bg nb Bs g b a C q st).map (bf [0,1,2,3,4,5,6,7,8])=qb t root parts bg nb Bs g b a C q st:=by simp only[qb,aiZ,ai2,kY,fN,pa,Hk];simp [bf,dK,dB,Gf,aS,aS.go,bV]
theorem SI (st:eG):(qb t root parts bg nb Bs g b a C q st).all (bc 9)=true:=by have:=ij 9 bg Bs;simp only[qb,ajS,ajV,ll 9 _ _ _ ae,oF,vf,ajk];simp [bc,dK,dB,Gf,ak,ak.go,bV,this]
def Ub (k:Nat):Prop:=∀(n:Nat) (rg:List Int) (st:eG),n<C.length->rg.length=c->st.ad.length=C.length->fy p st.ad<=k->st.rd.length+fy p st.ad<=C.length ->
 az Try.prog 63 (dy g C.length n p rg) (qb t root parts bg nb Bs g b a C q st) λv s=>v=.tu []/\s=qb t root parts bg nb Bs g b a C q (fo t Bs C p (k+1) n rg st)
def HG:Prop:=∀n,n<C.length->(bz C n).op=4->0<=(bz C n).n/\(bz C n).n<(c:Int)
variable {t root parts bg nb Bs g b a C q p c}
theorem G9 {k n:Nat}{rg:List Int}{st:eG} (h:Ub t root parts bg nb Bs g b a C q p c k) (hn:n<C.length) (hc:rg.length=c) (h1:st.ad.length=C.length) (hu:fy p st.ad<=k) (hr:st.rd.length+fy p st.ad<=C.length) {tl:List VL.Obj}{K:V->List VL.Obj->Prop}
  (hk:K (.tu []) (qb t root parts bg nb Bs g b a C q (fo t Bs C p (k+1) n rg st)++tl)) :
  az Try.prog 63 (dy g C.length n p rg) (qb t root parts bg nb Bs g b a C q st++tl) K:=by
 have Fu:=OI t root parts bg nb Bs g b a C q st;refine ew [0,1,2,3,4,5,6,7,8] (h n rg st hn hc h1 hu hr) aJ rfl ?_ aN aN (SI t root parts bg nb Bs g b a C q st) (r':=.tu []) rfl ?_
 ·have h2:(qb t root parts bg nb Bs g b a C q st).map (λo=>some (bf [0,1,2,3,4,5,6,7,8] o))=((qb t root parts bg nb Bs g b a C q st).map (bf [0,1,2,3,4,5,6,7,8])).map some:=by rw[ajL];rfl
  rw[h2,Fu];rfl
 ·rw[OI];exact hk
end
theorem YK (l:List Int):∀e∈(l.map λx=>[iD x]).map (λx=>x.map V.d),e.length=1:=λe he=>by obtain⟨x,hx,rfl⟩:=List.mem_map.1 he;obtain⟨y,_,rfl⟩:=List.mem_map.1 hx;rfl
theorem DQ {P:Program}{f:FuncId}{args:List V}{s:List VL.Obj}{K:V->List VL.Obj->Prop}{x y:V} (ids:List Nat) (j:Nat) (hj:args[j]?=some x) (hf:bm (bA s ids).length (bA s ids) x=some y) (h:az P f (args.set j y) (bA s ids) K):az P f args s K:=by
 refine⟨h.1,λσ w vals hI hl hv=>?_⟩;obtain⟨hE,ko⟩:=vm ids s hI;refine(h.2 σ w vals ko (by simpa using hl) λi z hz=>?_).mono λe w' ⟨u,v,σ',s',h1,h2,h3,h4,h5⟩=>⟨u,v,σ',s',h1,hE.trans h2,h3,h4,h5⟩
 rw[List.getElem?_set]at hz;split at hz
 ·rename_i XA;subst XA;split at hz
  ·cases hz;have:=mR ko ((hv j x hj).aZ hE) hf;rwa [ajt]at this
  ·cases hz
 ·exact(hv i z hz).aZ hE
section
variable (t:List Int) (root parts:D) (bg nb:Nat) (Bs:List (List Bool)) (g b a:Nat) (C:List au) (q:Nat) (p:Nat) (c:Nat)
theorem Hu (hg:fw t Bs C) (RN:HG C c) (BK:c<=100000) (oM:nb=Bs.length) (ht:t.length<=1000000) (hp:p<=t.length) (k:Nat) (IH:∀j,j+1=k->Ub t root parts bg nb Bs g b a C q p c j):Ub t root parts bg nb Bs g b a C q p c k:=by
 intro n rg st hn Zq h1 hu H6;have ZO:=hg.len;have js:(n:Int)<(C.length:Int):=ae;have ie:(0:Int)<=(n:Int):=ae;have kx:n<st.ad.length:=ae;have tP:IntKind.i64.wrap ((p:Int)+1)=((p+1:Nat):Int):=by rw[bF _ ae];rfl
 have gR:=ij 9 bg Bs;have kX:((dK t root parts bg nb).aw.all λe=>e.all (ak 9))=true:=rfl;have kQ:((C.map (au.cells b a)).all λe=>e.all (ak 9))=true:=ll 9 g b a ae C;have LL:∀q l,((fp q l).aw.all λe=>e.all (ak 9))=true:=λq l=>vf 9 q l;have tG:∀l:List Nat,((l.map λ(x:Nat)=>[V.d (D.sc (Value.int IntKind.i64 (x:Int)))]).all λe=>e.all (ak 9))=true:=λl=>oF 9 0 l;obtain⟨x,hx⟩:∃x,st.ad[n]?=some x:=bZ kx;obtain⟨i,hi⟩:∃i,C[n]?=some i:=bZ hn;have lP:bz C n=i:=by unfold bz;rw[aja,hi];rfl
 cases iy:st.cl with
 |true =>
  have hr:fo t Bs C p (k+1) n rg st=st:=by rw[fo,be (.inl iy)]
  rw[hr];unfold dy qb;refine bk Try.func63 Try.ntmps63 Try.results63 9 25769810175 ?_;simp only[zQ,simprocAttr,dy,qb,cf,aQ,dB,bw,Gf,cP,js,ie,kx,hn,h1,ai1,aiW,aiY,hx,hi,ai3,ai7,au.cells,jY,kX,gR,kQ,LL,tG,ajk,aiX,ai0,ajp,tP,iy]
 |false =>
 by_cases Vm:x=p+1
 ·subst Vm;have hr:fo t Bs C p (k+1) n rg st=st:=by rw[fo,be (.inr (.inr hx))]
  rw[hr];unfold dy qb;refine bk Try.func63 Try.ntmps63 Try.results63 9 25769810175 ?_;simp only[zQ,simprocAttr,dy,qb,cf,aQ,dB,bw,Gf,cP,js,ie,kx,hn,h1,ai1,aiW,aiY,hx,hi,ai3,ai7,au.cells,jY,kX,gR,kQ,LL,tG,ajk,aiX,ai0,ajp,tP,iy]
 have wW:((x:Int)=((p+1:Nat):Int))=False:=eq_false ae;have hu1:=rI hx Vm;have hup:=KC hx Vm;have KB:fo t Bs C p (k+1) n rg st=(let dM:eG:=⟨st.ad.set n (p+1),false,st.rd,st.gn⟩
  if i.op=0\/i.op=1 then ⟨dM.ad,decide (i.op=0),dM.rd++[⟨n,rg⟩],dM.gn+1⟩
  else if i.op=2 then fo t Bs C p k i.y.toNat rg (fo t Bs C p k i.x.toNat rg dM)
  else if i.op=3 then fo t Bs C p k i.x.toNat rg dM
  else if i.op=4 then fo t Bs C p k (n+1) (rg.set i.n.toNat p) dM
  else if i.op=5 then (if i.pass t Bs p=true then fo t Bs C p k (n+1) rg dM else dM)
  else dM):=by rw[fo,ap (by rw[hx,iy];rintro (h|h|h) <;> simp at h;exact Vm h),lP,iy]
 simp only at KB;rw[KB];have hT:List.take st.rd.length (st.rd.map λ(x:iH)=>x.cells.map V.d)++[[V.d (iD n),V.d (an rg)]]=(st.rd++[(⟨n,rg⟩:iH)]).map λ(x:iH)=>x.cells.map V.d:=by rw[ajb (by rw[aiW];exact ajc _)];simp [iH.cells]
 have hcN:fy p st.ad<=st.ad.length:=ajY;by_cases o0:i.op=0
 ·simp only[o0,true_or,if_true];unfold dy qb;refine bk Try.func63 Try.ntmps63 Try.results63 9 25769810175 ?_;simp only[iD,an]at hT;simp only[zQ,simprocAttr,dy,qb,cf,aQ,dB,bw,Gf,cP,js,ie,kx,hn,h1,ai1,aiW,aiY,hx,hi,ai3,ai7,au.cells,jY,kX,gR,kQ,LL,tG,ajk,aiX,ai0,ajp,tP,iy,wW,o0,fp,hT,an];refine⟨λe he=>by rw[List.mem_singleton.1 he];rfl,⟨ajc _,ae⟩,?_,?_⟩
  ·exact vf 9 0 _
  ·simp
 by_cases o1:i.op=1
 ·simp only[o1,or_true,if_true];unfold dy qb;refine bk Try.func63 Try.ntmps63 Try.results63 9 25769810175 ?_;simp only[iD,an]at hT;simp only[zQ,simprocAttr,dy,qb,cf,aQ,dB,bw,Gf,cP,js,ie,kx,hn,h1,ai1,aiW,aiY,hx,hi,ai3,ai7,au.cells,jY,kX,gR,kQ,LL,tG,ajk,aiX,ai0,ajp,tP,iy,wW,o1,fp,hT,an];refine⟨λe he=>by rw[List.mem_singleton.1 he];rfl,⟨ajc _,ae⟩,?_,?_⟩
  ·exact vf 9 0 _
  ·simp
 rw[bd];obtain⟨j,rfl⟩:∃j,k=j+1:=⟨k-1,ae⟩
 have UK:=λ(m:Nat) (r:List Int) (hm:m<C.length) (hr:r.length=c) (tl:List VL.Obj) (K:V->List VL.Obj->Prop) hk=>G9 (IH j rfl) (n:=m) (rg:=r) (st:=⟨st.ad.set n (p+1),false,st.rd,st.gn⟩) hm hr (by simpa using h1) oG oG (tl:=tl) (K:=K) hk;have hlen:=λm=>nF t Bs C p c (j+1) m rg ⟨st.ad.set n (p+1),false,st.rd,st.gn⟩ Zq (by simpa using h1);by_cases o3:i.op=3
 ·obtain⟨x0,x1⟩:=hg.jump n hn (by rw[lP];exact o3);rw[lP]at x0 x1;obtain⟨X,hX⟩:∃X:Nat,i.x=X:=⟨i.x.toNat,ae⟩
  have Cg:X<C.length:=ae;have hc:=UK X rg Cg Zq [⟨0,true,5,[[i64 3,i64 X,i64 i.y,i64 i.n,cq b a i.node]]⟩];simp only[o3,hX,jT,reduceIte,ai1];generalize fo t Bs C p (j+1) X rg ⟨st.ad.set n (p+1),false,st.rd,st.gn⟩=R at *;unfold dy qb at hc;unfold dy qb;refine bk Try.func63 Try.ntmps63 Try.results63 9 25769810175 ?_;simp only[zQ,simprocAttr,dy,qb,cf,aQ,dB,bw,Gf,cP,js,ie,kx,hn,h1,ai1,aiW,aiY,hx,hi,ai3,ai7,au.cells,jY,kX,gR,kQ,LL,tG,ajk,aiX,ai0,ajp,tP,iy,wW,o3,hX];refine hc _ ?_;simp only[zQ,simprocAttr,dy,qb,cf,aQ,dB,bw,Gf,cP,js,ie,kx,hn,h1,ai1,aiW,aiY,hx,hi,ai3,ai7,au.cells,jY,kX,gR,kQ,LL,tG,ajk,aiX,ai0,ajp,tP,iy,wW,o3,hX]
 by_cases o4:i.op=4
 ·have Cg:=hg.next n hn (by rw[lP];exact .inr (.inl o4));obtain⟨s0,s1⟩:=RN n hn (by rw[lP];exact o4);rw[lP]at s0 s1;obtain⟨N,hN⟩:∃N:Nat,i.n=N:=⟨i.n.toNat,ae⟩
  have hw:IntKind.i64.wrap ((n:Int)+1)=((n+1:Nat):Int):=by rw[bF _ ae];rfl
  have w2:IntKind.i64.wrap ((N:Int)+1)=((N+1:Nat):Int):=by rw[bF _ ae];rfl
  have b0:(0:Int)<=(N:Int):=ae;have b1:(N:Int)<=(rg.length:Int):=ae;have b2:((N+1:Nat):Int)<=(rg.length:Int):=ae;have b3:(0:Int)<=((N+1:Nat):Int):=ae;have z3:List.take ((rg.length:Int)-((N+1:Nat):Int)).toNat (List.drop (N+1) (rg.map λx=>[D.sc (.int .i64 x)]))=(rg.drop (N+1)).map λx=>[D.sc (.int .i64 x)]:=by rw[<- List.map_drop,ajb cG]
  have z4:List.take N (rg.map λx=>[D.sc (.int .i64 x)])=(rg.take N).map λx=>[D.sc (.int .i64 x)]:=by rw[List.map_take]
  have gD:rg.set N (p:Int)=rg.take N++(p:Int)::rg.drop (N+1):=by rw[List.set_eq_take_append_cons_drop,tK]
  have Yi:(rg.drop (N+1)).length<=100000:=cG;have QN:(rg.take N).length<=100000:=cG;simp only[o4,hN,jT,reduceIte,ai1];have hc:=UK (n+1) (rg.set N (p:Int)) Cg (by simpa using Zq);generalize fo t Bs C p (j+1) (n+1) (rg.set N (p:Int)) ⟨st.ad.set n (p+1),false,st.rd,st.gn⟩=R at *;unfold dy qb at hc;unfold dy qb;refine bk Try.func63 Try.ntmps63 Try.results63 9 25769810175 ?_;simp only[zQ,simprocAttr,dy,qb,cf,aQ,dB,bw,Gf,cP,js,ie,kx,hn,h1,ai1,aiW,aiY,hx,hi,ai3,ai7,au.cells,jY,kX,gR,kQ,LL,tG,ajk,aiX,ai0,ajp,tP,iy,wW,o4,hN,an,b0,b1,ajs,z4,Int.sub_zero];refine⟨rfl,λe he=>by rw[List.mem_singleton.1 he];rfl,?_⟩;split
  ·rename_i heq;cases heq
  refine⟨⟨ae,λe he=>by obtain⟨y,_,rfl⟩:=List.mem_map.1 he;rfl⟩,?_⟩;refine aA mix [11] [(10,[10],[10])] aN ?_;simp only[zQ,simprocAttr,dy,qb,cf,aQ,dB,bw,Gf,cP,js,ie,kx,hn,h1,ai1,aiW,aiY,hx,hi,ai3,ai7,au.cells,jY,kX,gR,kQ,LL,tG,ajk,aiX,ai0,ajp,tP,iy,wW,o4,hN,an,hw,w2,b2,b3,ajs,z3,z4];refine⟨.inr (λe he=>by obtain⟨y,_,rfl⟩:=List.mem_map.1 he;rfl),rfl,YK _,⟨aj,ae⟩,?_⟩;refine fG (DQ (y:=.d (an (rg.set N (p:Int)))) [10] 2 rfl ?_ (hc [⟨0,true,5,[[i64 4,i64 i.x,i64 i.y,i64 N,cq b a i.node]]⟩,⟨1,false,1,List.take ((List.take N rg).length+1) (List.map (λx=>List.map V.d x) (List.map (λx=>[D.sc (Value.int IntKind.i64 x)]) (List.take N rg))++[[V.d (D.sc (Value.int IntKind.i64 p))]])++List.map (λx=>List.map V.d x) (List.map (λx=>[D.sc (Value.int IntKind.i64 x)]) (List.drop (N+1) rg))⟩] _ ⟨rfl,rfl⟩)) ?_
  ·simp only[bA,bP,ajJ,ajv,ajw,aju,ai8,ai9];rw[rB (ds:=(rg.set N (p:Int)).map λx=>[iD x]) aN ?_ ?_ (.inr rfl)]
   ·rw[ajQ,ajb aj,ajb aj,gD];simp [iD]
   ·simp
  ·simp only[zQ,simprocAttr,dy,qb,cf,aQ,dB,bw,Gf,cP,js,ie,kx,hn,h1,ai1,aiW,aiY,hx,hi,ai3,ai7,au.cells,jY,kX,gR,kQ,LL,tG,ajk,aiX,ai0,ajp,tP,iy,wW,o4,hN]
 by_cases o5:i.op=5
 ·obtain⟨VS,ai,nY,vO,uz,tF⟩:=rE t root parts bg nb Bs b a C hg oM ht hn (.inr (by rw[lP];exact o5)) p hp;have Cg:=hg.next n hn (by rw[lP];exact .inr (.inr o5));have hw:IntKind.i64.wrap ((n:Int)+1)=((n+1:Nat):Int):=by rw[bF _ ae];rfl
  rw[lP]at nY tF;have hc:=UK (n+1) rg Cg Zq [⟨0,true,5,[[i64 5,i64 i.x,i64 i.y,i64 i.n,.cl (.func VS) [] ai]]⟩];simp only[o5,jT,reduceIte];generalize i.pass t Bs p=y at *;cases y with
  |true =>
   simp only[reduceIte];generalize fo t Bs C p (j+1) (n+1) rg ⟨st.ad.set n (p+1),false,st.rd,st.gn⟩=R at *;unfold dy qb at hc;unfold dy qb;refine bk Try.func63 Try.ntmps63 Try.results63 9 25769810175 ?_;simp only[zQ,simprocAttr,dy,qb,cf,aQ,dB,bw,Gf,cP,js,ie,kx,hn,h1,ai1,aiW,aiY,hx,hi,ai3,ai7,au.cells,jY,kX,gR,kQ,LL,tG,ajk,aiX,ai0,ajp,tP,iy,wW,o5,nY,hw];refine ez t root parts bg nb Bs tF ?_ ?_ rfl rfl rfl ?_
   ·simp [aS,i64,uz]
   ·simp [ak,ak.go,i64,vO]
   simp only[zQ,simprocAttr,dy,qb,cf,aQ,dB,bw,Gf,cP,js,ie,kx,hn,h1,ai1,aiW,aiY,hx,hi,ai3,ai7,au.cells,jY,kX,gR,kQ,LL,tG,ajk,aiX,ai0,ajp,tP,iy,wW,o5,nY,hw];refine hc _ ?_;simp only[zQ,simprocAttr,dy,qb,cf,aQ,dB,bw,Gf,cP,js,ie,kx,hn,h1,ai1,aiW,aiY,hx,hi,ai3,ai7,au.cells,jY,kX,gR,kQ,LL,tG,ajk,aiX,ai0,ajp,tP,iy,wW,o5,nY,hw]
  |false =>
   simp only[ajf,reduceIte];unfold dy qb;refine bk Try.func63 Try.ntmps63 Try.results63 9 25769810175 ?_;simp only[zQ,simprocAttr,dy,qb,cf,aQ,dB,bw,Gf,cP,js,ie,kx,hn,h1,ai1,aiW,aiY,hx,hi,ai3,ai7,au.cells,jY,kX,gR,kQ,LL,tG,ajk,aiX,ai0,ajp,tP,iy,wW,o5,nY];refine ez t root parts bg nb Bs tF ?_ ?_ rfl rfl rfl ?_
   ·simp [aS,i64,uz]
   ·simp [ak,ak.go,i64,vO]
   simp only[zQ,simprocAttr,dy,qb,cf,aQ,dB,bw,Gf,cP,js,ie,kx,hn,h1,ai1,aiW,aiY,hx,hi,ai3,ai7,au.cells,jY,kX,gR,kQ,LL,tG,ajk,aiX,ai0,ajp,tP,iy,wW,o5,nY]
 by_cases o2:i.op=2
 ·obtain⟨x0,x1,y0,y1⟩:=hg.split n hn (by rw[lP];exact o2);rw[lP]at x0 x1 y0 y1;obtain⟨X,hX⟩:∃X:Nat,i.x=X:=⟨i.x.toNat,ae⟩
  obtain⟨Y,hY⟩:∃Y:Nat,i.y=Y:=⟨i.y.toNat,ae⟩
  have Cg:X<C.length:=ae;have hYC:Y<C.length:=ae;have hc:=UK X rg Cg Zq [⟨0,true,5,[[i64 2,i64 X,i64 Y,i64 i.n,cq b a i.node]]⟩];have hl:=hlen X;simp only[o2,hX,hY,jT,reduceIte,ai1];generalize fo t Bs C p (j+1) X rg ⟨st.ad.set n (p+1),false,st.rd,st.gn⟩=R at *;obtain⟨l1,l2,l3,_⟩:=hl;simp only[ajp]at l1 l2 l3;have uz:=λ(K:V->List VL.Obj->Prop) hk=>G9 (IH j rfl) (n:=Y) (rg:=rg) (st:=R) hYC Zq ae ae ae (tl:=[⟨0,true,5,[[i64 2,i64 X,i64 Y,i64 i.n,cq b a i.node]]⟩]) (K:=K) hk;generalize fo t Bs C p (j+1) Y rg R=R2 at *;unfold dy qb at hc uz;unfold dy qb;refine bk Try.func63 Try.ntmps63 Try.results63 9 25769810175 ?_;simp only[zQ,simprocAttr,dy,qb,cf,aQ,dB,bw,Gf,cP,js,ie,kx,hn,h1,ai1,aiW,aiY,hx,hi,ai3,ai7,au.cells,jY,kX,gR,kQ,LL,tG,ajk,aiX,ai0,ajp,tP,iy,wW,o2,hX,hY];refine hc _ ?_;simp only[zQ,simprocAttr,dy,qb,cf,aQ,dB,bw,Gf,cP,js,ie,kx,hn,h1,ai1,aiW,aiY,hx,hi,ai3,ai7,au.cells,jY,kX,gR,kQ,LL,tG,ajk,aiX,ai0,ajp,tP,iy,wW,o2,hX,hY];refine uz _ ?_;simp only[zQ,simprocAttr,dy,qb,cf,aQ,dB,bw,Gf,cP,js,ie,kx,hn,h1,ai1,aiW,aiY,hx,hi,ai3,ai7,au.cells,jY,kX,gR,kQ,LL,tG,ajk,aiX,ai0,ajp,tP,iy,wW,o2,hX,hY]
 have An:=hg.ops n hn;rw[lP]at An;omega
theorem Ab (hg:fw t Bs C) (RN:HG C c) (BK:c<=100000) (oM:nb=Bs.length) (ht:t.length<=1000000) (hp:p<=t.length):∀k,Ub t root parts bg nb Bs g b a C q p c k
 |0=>Hu t root parts bg nb Bs g b a C q p c hg RN BK oM ht hp 0 (λj h=>ae)
 |k+1=>Hu t root parts bg nb Bs g b a C q p c hg RN BK oM ht hp (k+1) (λj h=>by
  have:j=k:=ae;subst this;exact Ab hg RN BK oM ht hp j)
end
variable{j:Nat}{c:Nat}
def XK (aL:List Int) (j:Nat):Int×Int :=
 if aL.getD (2*j) 0=-1\/aL.getD (2*j+1) 0=-1 then (-1,-1) else (aL.getD (2*j) 0,aL.getD (2*j+1) 0)
def Ja (c:Nat) (aL:List Int):aD:=(List.range c).map (XK aL)
theorem WV {l:List Int}{i:Nat} (h:i<l.length):l[i]?=some (l.getD i 0):=by rw[List.getD,ajg h];rfl
def UR (st en:Int) (v:V):VL.Obj:=⟨0,true,3,[[i64 st,i64 en,v]]⟩
def Pl:VL.Obj:=⟨0,true,3,[[i64 0,i64 0,.fu []]]⟩
def LN (c i:Nat) (aL:List Int):VL.Obj:=⟨0,true,2,(List.range i).map (λj=>[i64 (XK aL j).1,i64 (XK aL j).2])++List.replicate (c-i) [i64 0,i64 0]⟩
theorem VT {α:Type} (l:List α) (z:α) (hl:l.length=j) (h:j<c):(l++List.replicate (c-j) z)[j]?=some z:=by rw[ajh ae];simp [akb,hl];omega
theorem Zf {α:Type} (l:List α) (z y:α) (hl:l.length=j) (h:j<c):((l++List.replicate (c-j) z).set j y)[j]?=some y :=
 ajm cG
theorem Vt {α:Type} (l:List α) (z y:α) (hl:l.length=j) (h:j<c):(l++List.replicate (c-j) z).set j y=(l++[y])++List.replicate (c-(j+1)) z:=by
 rw[akh _ _ ae];obtain⟨m,hm⟩:∃m,c-j=m+1:=⟨c-j-1,ae⟩
 rw[hm,hl,akp,List.replicate_succ,aju,ajq];have:c-(j+1)=m:=ae;rw[this];rfl
theorem P9 (c:Nat) (hc:c<=1000) (st en:Int) (aL:List Int) (hr:aL.length=2*c):aM Try.prog 64 [i64 st,i64 en,.d (an aL)] (kA.mk st en (Ja c aL)).v:=by
 have w0:Int.tdiv (aL.length:Int) 2=(c:Int):=by rw[hr,Int.tdiv_eq_ediv_of_nonneg ae];omega
 have ZA:IntKind.i64.wrap (c:Int)=(c:Int):=bF _ ae;refine bk Try.func64 Try.ntmps64 Try.results64 0 786887 ?_;simp only[zQ,simprocAttr,an,aiW,w0,ZA];refine⟨ae,?_⟩;refine ay (λn e s=>∃j:Nat,n=c-j/\j<=c/\e 2=.d (an aL)/\e 6=.rf 0 0 0 0/\e 7=.rf 2 0 0 0/\e 18=i64 c/\e 19=i64 j/\s=[Pl,LN c j aL,UR st en (.so 1 0 0 c)])
  ⟨_,_,_,bJ.refl,0,rfl,ae,rfl,rfl,rfl,rfl,rfl,by simp [Pl,LN,UR,i64]⟩ ?_
 rintro n e s ⟨j,rfl,hj,h2,h6,h7,lB,l7,rfl⟩;rcases ajr j c with aB|iA
 ·have aH:(j:Int)<c:=by omega
  have w1:IntKind.i64.wrap (2*(j:Int))=((2*j:Nat):Int):=by rw[bF _ ae];omega
  have w2:IntKind.i64.wrap (((2*j:Nat):Int)+1)=((2*j+1:Nat):Int):=by rw[bF _ ae];omega
  have c1:((2*j+1:Nat):Int)<(aL.length:Int):=ae;have c2:((2*j:Nat):Int)<(aL.length:Int):=ae;have c3:(0:Int)<=((2*j:Nat):Int):=ae;have c4:(0:Int)<=((2*j+1:Nat):Int):=ae;have g1:=WV (l:=aL) (i:=2*j) ae;have g2:=WV (l:=aL) (i:=2*j+1) ae;have hP:XK aL j=if aL.getD (2*j) 0=-1\/aL.getD (2*j+1) 0=-1 then (-1,-1) else (aL.getD (2*j) 0,aL.getD (2*j+1) 0):=rfl
  generalize aL.getD (2*j) 0=a at *;generalize aL.getD (2*j+1) 0=b at *;simp only[an]at h2;have Ip:((List.range j).map (λj=>[V.d (.sc (.int .i64 (XK aL j).1)),V.d (.sc (.int .i64 (XK aL j).2))])).length=j:=aj;have ir:=VT _ [V.d (.sc (.int .i64 0)),V.d (.sc (.int .i64 0))] Ip aB;have gD:=λy=>Vt _ [V.d (.sc (.int .i64 0)),V.d (.sc (.int .i64 0))] y Ip aB;have Lj:=λy=>Zf _ [V.d (.sc (.int .i64 0)),V.d (.sc (.int .i64 0))] y Ip aB;by_cases ha:a=-1
  ·have Q5:=eq_true ha;simp only[zQ,simprocAttr,h2,h6,h7,lB,l7,aH,w1,w2,c1,c2,c3,c4,g1,g2,Q5,Pl,LN,UR,an,ir,ai7,aks,ai1,aiW,ne_eq,not_true_eq_false,not_false_eq_true];refine⟨c-(j+1),_,_,ae,bJ.refl,j+1,rfl,aB,?_,?_,?_,?_,?_,?_⟩ <;> (try simp only[zU,gV,cy,cJ,dV,reduceIte])
   ·exact h2
   ·exact h6
   ·exact h7
   ·exact lB
   ·rw[bF _ ae];rfl
   ·rw[gD];simp [hP,ha,List.range_succ]
  ·by_cases hb:b=-1
   ·have RP:=eq_true hb;simp only[zQ,simprocAttr,h2,h6,h7,lB,l7,aH,w1,w2,c1,c2,c3,c4,g1,g2,ha,RP,Pl,LN,UR,an,ir,ai7,aks,ai1,aiW,ne_eq,not_true_eq_false,not_false_eq_true];refine⟨c-(j+1),_,_,ae,bJ.refl,j+1,rfl,aB,?_,?_,?_,?_,?_,?_⟩ <;> (try simp only[zU,gV,cy,cJ,dV,reduceIte])
    ·exact h2
    ·exact h6
    ·exact h7
    ·exact lB
    ·rw[bF _ ae];rfl
    ·rw[gD];simp [hP,ha,hb,List.range_succ]
   ·simp only[zQ,simprocAttr,h2,h6,h7,lB,l7,aH,w1,w2,c1,c2,c3,c4,g1,g2,ha,hb,Pl,LN,UR,an,ir,ai7,aks,ai1,aiW,ne_eq,not_true_eq_false,not_false_eq_true];refine aA mix [16] [] aN ?_;simp only[zX,simprocAttr,Lj,i64,bV,iD,bD,h2,h6,h7,lB,l7,aH,w1,w2,c1,c2,c3,c4,g1,g2,ha,hb,Pl,LN,UR,an,ir,ai7,aks,ai1,aiW,ne_eq,not_true_eq_false,not_false_eq_true];refine⟨c-(j+1),_,_,ae,bJ.refl,j+1,rfl,aB,?_,?_,?_,?_,?_,?_⟩ <;> (try simp only[zU,gV,cy,cJ,dV,reduceIte])
    ·exact h2
    ·exact h6
    ·exact h7
    ·exact lB
    ·rw[bF _ ae];rfl
    ·rw[List.set_set,gD];simp [hP,ha,hb,List.range_succ]
 ·have NI:j=c:=by omega
  subst NI;have aH:¬(j:Int)<j:=ae;have acQ:LN j j aL=⟨0,true,2,((Ja j aL).map aU).map λx=>x.map V.d⟩:=by simp [LN,Ja,aU,iD,i64]
  simp only[zI,simprocAttr,bV,iD,h2,h6,h7,lB,l7,aH,Pl,acQ,UR];rw[g9 7 0 _ _ _ (by simp [Ja]),be (by simp [Ja])];rfl
section
variable (t:List Int) (Bs:List (List Bool)) (C:List au)
def fP (p:Nat) (st:eG) (x:iH):eG:=if (bz C x.fJ).op=1/\(bz C x.fJ).pass t Bs p=true then fo t Bs C (p+1) (C.length+1) (x.fJ+1) x.aL st else st
def fC (p:Nat) (l:List iH) (st:eG):eG:=l.foldl (fP t Bs C p) st
def rb (b p c:Nat) (st:eG) (fO:Option kA):Option kA:=if st.cl=true then some ⟨b,p,Ja c (st.rd.getLastD ⟨0,[]⟩).aL⟩ else fO
def nZ (b c:Nat):Nat->Nat->eG->Nat->Option kA->Option kA×List Nat
 |0,_,st,_,fO=>(fO,st.ad)
 |k+1,p,st,gb,fO=>if st.rd=[] then (fO,st.ad) else nZ b c k (p+1) (fC t Bs C p st.rd ⟨st.ad,false,[],gb⟩) st.gn (rb b p c st fO)
def gr (c:Nat):List Int:=List.replicate (2*c) (-1)
def sU (p c:Nat):eG:=fo t Bs C p (C.length+1) 0 (gr c) ⟨List.replicate C.length 0,false,[],0⟩
def gk (p c:Nat):Option kA×List Nat:=nZ t Bs C p c (t.length+2-p) p (sU t Bs C p c) 0 none
def Lx (r:Option kA):kA:=r.getD ⟨0,0,[]⟩
variable {t Bs C}
variable{c:Nat}{st:eG}{p:Nat}
theorem yc (p:Nat) (l:List iH) (x:iH) (st:eG):fC t Bs C p (l++[x]) st=fP t Bs C p (fC t Bs C p l st) x:=by unfold fC;rw[List.foldl_append];rfl
structure xm (C:List au) (c:Nat) (st:eG):Prop where
 ad:st.ad.length=C.length
 th:∀x∈st.rd,x.ok C (2*c)
 last:st.cl=true->st.rd≠[]
def mM (C:List au) (p:Nat) (st:eG):Prop:=st.rd.length+fy p st.ad<=C.length
theorem Gp (p:Nat):∀(k n:Nat) (rg:List Int) (st:eG),(st.cl=true->st.rd≠[])->((fo t Bs C p k n rg st).cl=true->(fo t Bs C p k n rg st).rd≠[])
 |0,_,_,st,h=>h
 |k+1,n,rg,st,h=>by
  have ih:=Gp p k;rw[fo];split
  ·exact h
  simp only;split
  ·intro _;simp
  split
  ·exact ih _ _ _ (ih _ _ _ h)
  split
  ·exact ih _ _ _ h
  split
  ·exact ih _ _ _ h
  split
  ·split
   ·exact ih _ _ _ h
   ·exact h
  ·exact h
theorem AT {k n:Nat}{rg:List Int} (h:xm C c st) (hn:mM C p st) (hr:rg.length=2*c):xm C c (fo t Bs C p k n rg st)/\mM C p (fo t Bs C p k n rg st):=by obtain⟨l1,l2,l3,l4⟩:=nF t Bs C p (2*c) k n rg st hr h.ad;refine⟨⟨l1.trans h.ad,λx hx=>(l4 x hx).elim (h.th x) id,Gp p k n rg st h.last⟩,?_⟩;unfold mM at *;omega
theorem NY{x:iH} (hx:x.ok C (2*c)) (h:xm C c st) (hn:mM C (p+1) st):xm C c (fP t Bs C p st x)/\mM C (p+1) (fP t Bs C p st x):=by
 unfold fP;split
 ·exact AT h hn hx.1
 ·exact⟨h,hn⟩
theorem sH {c p:Nat}:∀(l:List iH) (st:eG),(∀x∈l,x.ok C (2*c))->xm C c st->mM C (p+1) st->xm C c (fC t Bs C p l st)/\mM C (p+1) (fC t Bs C p l st)
 |[],st,_,h,hn=>⟨h,hn⟩
 |x::l,st,hl,h,hn=>by obtain⟨k1,k2⟩:=NY (t:=t) (Bs:=Bs) (hl x aj) h hn;exact sH l _ (λy hy=>hl y (by simp [hy])) k1 k2
theorem CX (hg:fw t Bs C) {n:Nat} (hn:n<C.length) (ho:(bz C n).op=1) (h:(bz C n).pass t Bs p=true):p<t.length:=by obtain⟨re,k,h1,h2,_⟩:=hg.set n hn ho;unfold au.pass at h;rw[h1]at h;simp only[h2,if_true,aji,decide_eq_true_eq]at h;omega
theorem Qy (hg:fw t Bs C){x:iH} (hx:x.ok C (2*c)) (hp:t.length<=p):fP t Bs C p st x=st:=by unfold fP;rw[ap];rintro ⟨h1,h2⟩;have:=CX hg hx.2.1 h1 h2;omega
theorem Be (hg:fw t Bs C) {c p:Nat} (hp:t.length<=p):∀(l:List iH) (st:eG),(∀x∈l,x.ok C (2*c))->fC t Bs C p l st=st
 |[],_,_=>rfl
 |x::l,st,hl=>by show fC t Bs C p l (fP t Bs C p st x)=st;rw[Qy hg (hl x aj) hp];exact Be hg hp l st λy hy=>hl y (by simp [hy])
end
theorem Tx {P:Program}{f:FuncId}{args:List V}{s:List VL.Obj}{K:V->List VL.Obj->Prop}{o:VL.Obj}{pre post:List V} (k sz:Nat) (ho:s[k]?=some o) (iG:o.aw=[pre++.fu []::post]) (fY:pre.length+1+post.length=o.sz)
  (h:az P f args (s.set k { o with aw:=[pre++.so s.length 0 0 0::post] }++[⟨0,true,sz,[]⟩]) K):az P f args s K:=by
 refine⟨h.1,λσ w vals hI hl hv=>?_⟩;obtain⟨σ',h1,h2⟩:=D4 hI k sz ho iG fY;exact(h.2 σ' w vals h2 hl (λi x hx=>(hv i x hx).aZ h1)).mono λ_ _ ⟨u,v,σ'',s',a,b,c,d,e⟩=>⟨u,v,σ'',s',a,h1.trans b,c,d,e⟩
def RU (b:Bool):VL.Obj:=⟨0,true,1,[[bV b]]⟩
def sm (g N a3 a4 a5 a6:Nat):VL.Obj:=⟨0,true,1,[[.cl (.func 63) [] [.rf a3 0 0 0,.rf a4 0 0 0,.bx (.so 2 g 0 N),.rf a5 0 0 0,.rf a6 0 0 0]]]⟩
section
variable {t:List Int}{root parts:D}{bg nb:Nat}{Bs:List (List Bool)}{g b a:Nat}{C:List au}{q p c:Nat}
theorem AA {k n:Nat}{rg:List Int}{st:eG} (h:Ub t root parts bg nb Bs g b a C q p c k) (hn:n<C.length) (hc:rg.length=c) (h1:st.ad.length=C.length) (hu:fy p st.ad<=k) (hr:st.rd.length+fy p st.ad<=C.length) {s:List VL.Obj}{K:V->List VL.Obj->Prop}
  (a4 a5 a6 a7 a8:Nat) (zF:[0,1,2,3,a4,a5,a6,a7,a8].Nodup) (s0:s[0]?=some (dK t root parts bg nb)) (s1:s[1]?=some (fX bg Bs)) (s2:s[2]?=some (cP g b a C)) (s3:s[3]?=some (bw q st.ad)) (s4:s[a4]?=some (dB 3 q C.length)) (s5:s[a5]?=some (RU st.cl)) (s6:s[a6]?=some (dB a7 st.gn st.rd.length)) (s7:s[a7]?=some (fp st.gn st.rd)) (s8:s[a8]?=some (sm g C.length a5 a4 a6 a8))
  {R:eG} (hR:R=fo t Bs C p (k+1) n rg st)
  (hk:K (.tu []) (((((((((s.set 0 (dK t root parts bg nb)).set 1 (fX bg Bs)).set 2 (cP g b a C)).set 3 (bw q R.ad)).set a4 (dB 3 q C.length)).set a5 (RU R.cl)).set a6 (dB a7 R.gn R.rd.length)).set a7 (fp R.gn R.rd)).set a8 (sm g C.length a5 a4 a6 a8))) :
  az Try.prog 63 [i64 n,i64 p,.d (an rg),.rf a5 0 0 0,.rf a4 0 0 0,.bx (.so 2 g 0 C.length),.rf a6 0 0 0,.rf a8 0 0 0] s K:=by
 subst hR;have Fu:∀st,(qb t root parts bg nb Bs g b a C q st).map (bf [0,1,2,3,a4,a5,a6,a7,a8])=[dK t root parts bg nb,fX bg Bs,cP g b a C,bw q st.ad,dB 3 q C.length,RU st.cl,dB a7 st.gn st.rd.length,fp st.gn st.rd,sm g C.length a5 a4 a6 a8]:=by intro st;simp only[qb,aiZ,ai2,kY,fN,pa,Hk];simp [bf,dK,dB,Gf,aS,aS.go,bV,RU,sm]
 refine ew [0,1,2,3,a4,a5,a6,a7,a8] (h n rg st hn hc h1 hu hr) zF rfl ?_ (by simp [dy,aS,aS.go,i64]) aN (SI t root parts bg nb Bs g b a C q st) (r':=.tu []) rfl ?_
 ·have h3:(qb t root parts bg nb Bs g b a C q st).map (λo=>some (bf [0,1,2,3,a4,a5,a6,a7,a8] o))=((qb t root parts bg nb Bs g b a C q st).map (bf [0,1,2,3,a4,a5,a6,a7,a8])).map some:=by rw[ajL];rfl
  rw[h3,Fu];simp only[aiZ,ai2,s0,s1,s2,s3,s4,s5,s6,s7,s8]
 ·rw[Fu];exact hk
end
end Go.Proofs.Ytfmdmlfhigocaaa
