/- A part of the proof (O10 O1 O2 O8). -/
import Derived.RangeFuncKeeps
import Derived.RangeFuncLeaves
import Derived.Shelf.Abstract
import Derived.WalkKit
import Derived.OwnWalkIn
import Derived.TacticsInMore
import Derived.LoopNIn
import Derived.LoopIn
import Derived.Test.YtjjfioalgbecmaaGreatProg
import Derived.Test.YtjjfioalgbecmaaGreatOQ29
set_option linter.unusedSimpArgs false
set_option linter.unusedVariables false
open Int renaming reduceEq → D6
set_option maxRecDepth 100000
set_option maxHeartbeats 80000000
namespace Go.Proofs.YtjjfioalgbecmaaGreat
open Go.VL
theorem jq (l:List Nat) (n:Nat) (x:Nat):(l.map λ(x:Nat)=>[V.d (D.sc (Value.int IntKind.i64 (x:Int)))]).set n [V.d (D.sc (Value.int IntKind.i64 (x:Int)))]=(l.set n x).map λ(x:Nat)=>[V.d (D.sc (Value.int IntKind.i64 (x:Int)))]:=by rw[akT]
section
variable (t:List Int) (root parts:D) (bg nb:Nat) (Bs:List (List Bool)) (g b a:Nat) (C:List aq) (p:Nat)
theorem Jk (hg:nj t Bs C) (nD:nb=Bs.length) (ht:t.length<=1000000) (hp:p<=t.length) (k:Nat) (IH:∀j,j+1=k->LV t root parts bg nb Bs g b a C p j):LV t root parts bg nb Bs g b a C p k:=by
 intro n st hn h1 h2 hu hrl;have XR:=hg.len;have iQ:(n:Int)<(C.length:Int):=ae;have gp:(0:Int)<=(n:Int):=ae;have kf:n<st.ad.length:=ae;have sL:IntKind.i64.wrap ((p:Int)+1)=((p+1:Nat):Int):=by rw[bG _ ae];rfl
 have iC:=gu 10 bg Bs;have kJ:((dz t root parts bg nb).au.all λe=>e.all (aj 10))=true:=rfl;have jB:((C.map (aq.cells b a)).all λe=>e.all (aj 10))=true:=kv 10 g b a ae C;have hB:∀l:List Bool,((l.map λb=>[V.d (D.sc (Value.bool b))]).all λe=>e.all (aj 10))=true:=λl=>BY 10 0 l;have sB:∀l:List Nat,((l.map λ(x:Nat)=>[V.d (D.sc (Value.int IntKind.i64 (x:Int)))]).all λe=>e.all (aj 10))=true:=λl=>nq 10 0 l;obtain⟨x,hx⟩:∃x,st.ad[n]?=some x:=cc kf;obtain⟨i,hi⟩:∃i,C[n]?=some i:=cc hn;have kS:e9 C n=i:=by unfold e9;rw[List.getD_eq_getElem?_getD,hi];rfl
 by_cases Vv:x=p+1
 ·subst Vv;have hr:kW t Bs C p (k+1) n st=st:=by rw[kW,be (.inr hx)]
  rw[hr];unfold eJ fq;refine bo Tryz.func99 Tryz.ntmps99 Tryz.results99 10 134218367 ?_;simp only[zQ,simprocAttr,eJ,fq,b6,aO,dm,dh,cq,bp,A1,cN,iQ,gp,kf,hn,h1,h2,ajP,ajM,List.getElem?_map,hx,hi,ajS,ajT,aq.cells,jq,gE,kJ,iC,jB,hB,sB,aj4,ajN,ajO,aj8,sL]
 have vF:((x:Int)=((p+1:Nat):Int))=False:=eq_false ae;have hu1:=yi hx Vv;have hup:=JT hx Vv;have zr:kW t Bs C p (k+1) n st=(let bF:Fg:=⟨st.ad.set n (p+1),st.ho,st.rd,st.gn⟩
  if i.op=0 then ⟨bF.ad,bF.ho.set p true,bF.rd,bF.gn⟩
  else if i.op=1 then (if i.pass t Bs p=true then ⟨bF.ad,bF.ho,bF.rd++[n],bF.gn+1⟩ else bF)
  else if i.op=2 then kW t Bs C p k i.y.toNat (kW t Bs C p k i.x.toNat bF)
  else if i.op=3 then kW t Bs C p k i.x.toNat bF
  else if i.op=4 then kW t Bs C p k (n+1) bF
  else if i.op=5 then (if i.pass t Bs p=true then kW t Bs C p k (n+1) bF else bF)
  else bF):=by rw[kW,ap (by rw[hx];rintro (h|h) <;> simp at h;exact Vv h),kS]
 simp only at zr;rw[zr];by_cases o0:i.op=0
 ·have hph:p<st.ho.length:=by omega
  have hpT:(p:Int)<((t.length+1:Nat):Int):=ae;have NX:(0:Int)<=(p:Int):=ae;simp only[o0,reduceIte];unfold eJ fq;refine bo Tryz.func99 Tryz.ntmps99 Tryz.results99 10 134218367 ?_;obtain⟨z,hz⟩:∃z,st.ho[p]?=some z:=cc hph;simp only[zQ,simprocAttr,eJ,fq,b6,aO,dm,dh,cq,bp,A1,cN,iQ,gp,kf,hn,h1,h2,ajP,ajM,List.getElem?_map,hx,hi,ajS,ajT,aq.cells,jq,gE,kJ,iC,jB,hB,sB,aj4,ajN,ajO,aj8,sL,vF,o0,hph,hpT,NX,h1,h2,hz]
 obtain⟨j,rfl⟩:∃j,k=j+1:=⟨k-1,ae⟩
 have US:=λ(m:Nat) (hm:m<C.length) (tl:List VL.Obj) (K:V->List VL.Obj->Prop) hk=>Ge (IH j rfl) (n:=m) (st:=⟨st.ad.set n (p+1),st.ho,st.rd,st.gn⟩) hm (by simpa using h1) h2 n6 n6 (tl:=tl) (K:=K) hk;have hlen:=λm=>BE t Bs C p (j+1) m ⟨st.ad.set n (p+1),st.ho,st.rd,st.gn⟩;by_cases o3:i.op=3
 ·obtain⟨x0,x1⟩:=hg.jump n hn (by rw[kS];exact o3);rw[kS]at x0 x1;obtain⟨X,hX⟩:∃X:Nat,i.x=X:=⟨i.x.toNat,ae⟩
  have Bg:X<C.length:=ae;have hc:=US X Bg [⟨0,true,5,[[i64 3,i64 X,i64 i.y,i64 i.n,cj b a i.node]]⟩];simp only[o3,hX,D6,reduceIte,ajP];generalize kW t Bs C p (j+1) X ⟨st.ad.set n (p+1),st.ho,st.rd,st.gn⟩=R at *;unfold eJ fq at hc;unfold eJ fq;refine bo Tryz.func99 Tryz.ntmps99 Tryz.results99 10 134218367 ?_;simp only[zQ,simprocAttr,eJ,fq,b6,aO,dm,dh,cq,bp,A1,cN,iQ,gp,kf,hn,h1,h2,ajP,ajM,List.getElem?_map,hx,hi,ajS,ajT,aq.cells,jq,gE,kJ,iC,jB,hB,sB,aj4,ajN,ajO,aj8,sL,vF,o3,hX];refine hc _ ?_;simp only[zQ,simprocAttr,eJ,fq,b6,aO,dm,dh,cq,bp,A1,cN,iQ,gp,kf,hn,h1,h2,ajP,ajM,List.getElem?_map,hx,hi,ajS,ajT,aq.cells,jq,gE,kJ,iC,jB,hB,sB,aj4,ajN,ajO,aj8,sL,vF,o3,hX]
 by_cases o4:i.op=4
 ·have Bg:=hg.next n hn (by rw[kS];exact .inr (.inl o4));have hw:IntKind.i64.wrap ((n:Int)+1)=((n+1:Nat):Int):=by rw[bG _ ae];rfl
  have hc:=US (n+1) Bg [⟨0,true,5,[[i64 4,i64 i.x,i64 i.y,i64 i.n,cj b a i.node]]⟩];simp only[o4,D6,reduceIte];generalize kW t Bs C p (j+1) (n+1) ⟨st.ad.set n (p+1),st.ho,st.rd,st.gn⟩=R at *;unfold eJ fq at hc;unfold eJ fq;refine bo Tryz.func99 Tryz.ntmps99 Tryz.results99 10 134218367 ?_;simp only[zQ,simprocAttr,eJ,fq,b6,aO,dm,dh,cq,bp,A1,cN,iQ,gp,kf,hn,h1,h2,ajP,ajM,List.getElem?_map,hx,hi,ajS,ajT,aq.cells,jq,gE,kJ,iC,jB,hB,sB,aj4,ajN,ajO,aj8,sL,vF,o4,hw];refine hc _ ?_;simp only[zQ,simprocAttr,eJ,fq,b6,aO,dm,dh,cq,bp,A1,cN,iQ,gp,kf,hn,h1,h2,ajP,ajM,List.getElem?_map,hx,hi,ajS,ajT,aq.cells,jq,gE,kJ,iC,jB,hB,sB,aj4,ajN,ajO,aj8,sL,vF,o4,hw]
 by_cases o1:i.op=1
 ·obtain⟨V9,ai,mj,wJ,nO,sI⟩:=qv t root parts bg nb Bs b a C hg nD ht hn (.inl (by rw[kS];exact o1)) p hp;rw[kS]at mj sI;simp only[o1,D6,reduceIte];generalize i.pass t Bs p=y at *;cases y with
  |true =>
   simp only[reduceIte];unfold eJ fq;refine bo Tryz.func99 Tryz.ntmps99 Tryz.results99 10 134218367 ?_;simp only[zQ,simprocAttr,eJ,fq,b6,aO,dm,dh,cq,bp,A1,cN,iQ,gp,kf,hn,h1,h2,ajP,ajM,List.getElem?_map,hx,hi,ajS,ajT,aq.cells,jq,gE,kJ,iC,jB,hB,sB,aj4,ajN,ajO,aj8,sL,vF,o1,mj];refine dU t root parts bg nb Bs sI ?_ ?_ rfl rfl rfl ?_
   ·simp [aE,i64,nO]
   ·simp [aj,aj.go,i64,wJ]
   simp only[zQ,simprocAttr,eJ,fq,b6,aO,dm,dh,cq,bp,A1,cN,iQ,gp,kf,hn,h1,h2,ajP,ajM,List.getElem?_map,hx,hi,ajS,ajT,aq.cells,jq,gE,kJ,iC,jB,hB,sB,aj4,ajN,ajO,aj8,sL,vF,o1,mj];have hT:List.take st.rd.length (st.rd.map λ(x:Nat)=>[V.d (D.sc (Value.int IntKind.i64 (x:Int)))])++[[V.d (D.sc (Value.int IntKind.i64 (n:Int)))]]=(st.rd++[n]).map λ(x:Nat)=>[V.d (D.sc (Value.int IntKind.i64 (x:Int)))]:=by rw[akb (by rw[ajM];exact ajZ _)];simp
   rw[hT];have hcN:jd p st.ad<=st.ad.length:=akP;refine⟨λe he=>by rw[List.mem_singleton.1 he];rfl,⟨ajZ _,ae⟩,sB _,?_⟩;rw[ajQ];rfl
  |false =>
   simp only[ajY,reduceIte];unfold eJ fq;refine bo Tryz.func99 Tryz.ntmps99 Tryz.results99 10 134218367 ?_;simp only[zQ,simprocAttr,eJ,fq,b6,aO,dm,dh,cq,bp,A1,cN,iQ,gp,kf,hn,h1,h2,ajP,ajM,List.getElem?_map,hx,hi,ajS,ajT,aq.cells,jq,gE,kJ,iC,jB,hB,sB,aj4,ajN,ajO,aj8,sL,vF,o1,mj];refine dU t root parts bg nb Bs sI ?_ ?_ rfl rfl rfl ?_
   ·simp [aE,i64,nO]
   ·simp [aj,aj.go,i64,wJ]
   simp only[zQ,simprocAttr,eJ,fq,b6,aO,dm,dh,cq,bp,A1,cN,iQ,gp,kf,hn,h1,h2,ajP,ajM,List.getElem?_map,hx,hi,ajS,ajT,aq.cells,jq,gE,kJ,iC,jB,hB,sB,aj4,ajN,ajO,aj8,sL,vF,o1,mj]
 by_cases o5:i.op=5
 ·obtain⟨V9,ai,mj,wJ,nO,sI⟩:=qv t root parts bg nb Bs b a C hg nD ht hn (.inr (by rw[kS];exact o5)) p hp;have Bg:=hg.next n hn (by rw[kS];exact .inr (.inr o5));have hw:IntKind.i64.wrap ((n:Int)+1)=((n+1:Nat):Int):=by rw[bG _ ae];rfl
  rw[kS]at mj sI;have hc:=US (n+1) Bg [⟨0,true,5,[[i64 5,i64 i.x,i64 i.y,i64 i.n,.cl (.func V9) [] ai]]⟩];simp only[o5,D6,reduceIte];generalize i.pass t Bs p=y at *;cases y with
  |true =>
   simp only[reduceIte];generalize kW t Bs C p (j+1) (n+1) ⟨st.ad.set n (p+1),st.ho,st.rd,st.gn⟩=R at *;unfold eJ fq at hc;unfold eJ fq;refine bo Tryz.func99 Tryz.ntmps99 Tryz.results99 10 134218367 ?_;simp only[zQ,simprocAttr,eJ,fq,b6,aO,dm,dh,cq,bp,A1,cN,iQ,gp,kf,hn,h1,h2,ajP,ajM,List.getElem?_map,hx,hi,ajS,ajT,aq.cells,jq,gE,kJ,iC,jB,hB,sB,aj4,ajN,ajO,aj8,sL,vF,o5,mj,hw];refine dU t root parts bg nb Bs sI ?_ ?_ rfl rfl rfl ?_
   ·simp [aE,i64,nO]
   ·simp [aj,aj.go,i64,wJ]
   simp only[zQ,simprocAttr,eJ,fq,b6,aO,dm,dh,cq,bp,A1,cN,iQ,gp,kf,hn,h1,h2,ajP,ajM,List.getElem?_map,hx,hi,ajS,ajT,aq.cells,jq,gE,kJ,iC,jB,hB,sB,aj4,ajN,ajO,aj8,sL,vF,o5,mj,hw];refine hc _ ?_;simp only[zQ,simprocAttr,eJ,fq,b6,aO,dm,dh,cq,bp,A1,cN,iQ,gp,kf,hn,h1,h2,ajP,ajM,List.getElem?_map,hx,hi,ajS,ajT,aq.cells,jq,gE,kJ,iC,jB,hB,sB,aj4,ajN,ajO,aj8,sL,vF,o5,mj,hw]
  |false =>
   simp only[ajY,reduceIte];unfold eJ fq;refine bo Tryz.func99 Tryz.ntmps99 Tryz.results99 10 134218367 ?_;simp only[zQ,simprocAttr,eJ,fq,b6,aO,dm,dh,cq,bp,A1,cN,iQ,gp,kf,hn,h1,h2,ajP,ajM,List.getElem?_map,hx,hi,ajS,ajT,aq.cells,jq,gE,kJ,iC,jB,hB,sB,aj4,ajN,ajO,aj8,sL,vF,o5,mj];refine dU t root parts bg nb Bs sI ?_ ?_ rfl rfl rfl ?_
   ·simp [aE,i64,nO]
   ·simp [aj,aj.go,i64,wJ]
   simp only[zQ,simprocAttr,eJ,fq,b6,aO,dm,dh,cq,bp,A1,cN,iQ,gp,kf,hn,h1,h2,ajP,ajM,List.getElem?_map,hx,hi,ajS,ajT,aq.cells,jq,gE,kJ,iC,jB,hB,sB,aj4,ajN,ajO,aj8,sL,vF,o5,mj]
 by_cases o2:i.op=2
 ·obtain⟨x0,x1,y0,y1⟩:=hg.split n hn (by rw[kS];exact o2);rw[kS]at x0 x1 y0 y1;obtain⟨X,hX⟩:∃X:Nat,i.x=X:=⟨i.x.toNat,ae⟩
  obtain⟨Y,hY⟩:∃Y:Nat,i.y=Y:=⟨i.y.toNat,ae⟩
  have Bg:X<C.length:=ae;have hYC:Y<C.length:=ae;have hc:=US X Bg [⟨0,true,5,[[i64 2,i64 X,i64 Y,i64 i.n,cj b a i.node]]⟩];have hl:=hlen X;simp only[o2,hX,hY,D6,reduceIte,ajP];generalize kW t Bs C p (j+1) X ⟨st.ad.set n (p+1),st.ho,st.rd,st.gn⟩=R at *;obtain⟨l1,l2,l3,l4,_⟩:=hl;simp only[aj8]at l1 l2 l3 l4;have nO:=λ(K:V->List VL.Obj->Prop) hk=>Ge (IH j rfl) (n:=Y) (st:=R) hYC ae ae ae ae (tl:=[⟨0,true,5,[[i64 2,i64 X,i64 Y,i64 i.n,cj b a i.node]]⟩]) (K:=K) hk;generalize kW t Bs C p (j+1) Y R=R2 at *;unfold eJ fq at hc nO;unfold eJ fq;refine bo Tryz.func99 Tryz.ntmps99 Tryz.results99 10 134218367 ?_;simp only[zQ,simprocAttr,eJ,fq,b6,aO,dm,dh,cq,bp,A1,cN,iQ,gp,kf,hn,h1,h2,ajP,ajM,List.getElem?_map,hx,hi,ajS,ajT,aq.cells,jq,gE,kJ,iC,jB,hB,sB,aj4,ajN,ajO,aj8,sL,vF,o2,hX,hY];refine hc _ ?_;simp only[zQ,simprocAttr,eJ,fq,b6,aO,dm,dh,cq,bp,A1,cN,iQ,gp,kf,hn,h1,h2,ajP,ajM,List.getElem?_map,hx,hi,ajS,ajT,aq.cells,jq,gE,kJ,iC,jB,hB,sB,aj4,ajN,ajO,aj8,sL,vF,o2,hX,hY];refine nO _ ?_;simp only[zQ,simprocAttr,eJ,fq,b6,aO,dm,dh,cq,bp,A1,cN,iQ,gp,kf,hn,h1,h2,ajP,ajM,List.getElem?_map,hx,hi,ajS,ajT,aq.cells,jq,gE,kJ,iC,jB,hB,sB,aj4,ajN,ajO,aj8,sL,vF,o2,hX,hY]
 have wH:=hg.ops n hn;rw[kS]at wH;omega
theorem It (hg:nj t Bs C) (nD:nb=Bs.length) (ht:t.length<=1000000) (hp:p<=t.length):∀k,LV t root parts bg nb Bs g b a C p k
 |0=>Jk t root parts bg nb Bs g b a C p hg nD ht hp 0 (λj h=>ae)
 |k+1=>Jk t root parts bg nb Bs g b a C p hg nD ht hp (k+1) (λj h=>by
  have:j=k:=ae;subst this;exact It hg nD ht hp j)
end
open Go.RowKit Go.Shelf Go.Proofs.Tryz
variable{e:VL.Env}
attribute [local go_sem] Oper.semAt_some
def vZ (b:Bool) (N i:Nat):Int:=if b then (N:Int)-i else i
theorem YD (F:Fence) (n:Nat) (hF:F.fn 118) (hro:F.round=none) (hn:1<=n) (l:Nat) (a1 a2:Addr) (N:Nat) (hN:N<=1000000) (b:Bool) (J:Nat->World->Prop)
  (hM:∀i W,J i W->W.cell? a1=some (.int .i64 N)/\W.cell? a2=some (.bool b))
  (hY:∀i W,J i W->i<=N->YieldAt F (n-1) Tryz.prog l #[.int .i64 (vZ b N i)] W λe W'=>e=.returned (.bool true)/\J (i+1) W')
  (W:World) (h0:J 0 W):CallsIn F n Tryz.prog 118 #[.func (.yield l) #[] #[],.pointer (some a1),.pointer (some a2)] W λe W'=>(∃v,e=.returned v)/\J (N+1) W':=by
 refine callsIn_of_wp Tryz.func118 rfl hF ?_ hro;simp only[Tryz.ntmps118,List.size_toArray,ajW,ajX,Nat.reduceAdd,Nat.reduceSub,Array.replicate_succ,Array.replicate_zero,List.push_toArray,List.append_toArray,ajO,ajN]
 gi_wp2
 gi_loopw [4] (λp wr=>∃i:Nat,p=.int .i64 i/\i<=N+1/\J i wr) (λp _=>match p with|.int _ i=>(N+1-i).toNat|_=>0)
 case atStart=>exact⟨0,rfl,ae,h0⟩
 case round =>
  obtain⟨i,rfl,hi,hJ⟩:=hrel;obtain⟨m1,m2⟩:=hM i _ hJ;by_cases az:(i:Int)<=(N:Int)
  ·obtain⟨fn,tmps,assign,body,hy,hR⟩:=hY i _ hJ ae;have w1:IntKind.i64.wrap ((N:Int)-(i:Int))=(N:Int)-i:=bG _ ae;have w2:IntKind.i64.wrap ((i:Int)+1)=(i:Int)+1:=bG _ ae;cases b with
   |true =>
    simp only[vZ,if_true]at hy
    gi_wp2
    refine hR.mono ?_;rintro e W3 ⟨rfl,hJ3⟩
    gi_wp2
    go_roundw
    case rel=>exact⟨i+1,by push_cast;rfl,ae,hJ3⟩
    case measure=>simp;omega
   |false =>
    simp only[vZ,ajY,if_false]at hy
    gi_wp2
    refine hR.mono ?_;rintro e W3 ⟨rfl,hJ3⟩
    gi_wp2
    go_roundw
    case rel=>exact⟨i+1,by push_cast;rfl,ae,hJ3⟩
    case measure=>simp;omega
  ·gi_wp2
   go_end0
   exact⟨⟨_,rfl⟩,by rw[show N+1=i by omega];exact hJ⟩
def Ra (N:Nat) (b:Bool):List D:=[.el [iD N],.el [bD b]]
theorem I7 (N:Nat) (hN:N<=1000000) (b:Bool):Ii Tryz.prog 118 (Ra N b) (N+1) (vZ b N):=by
 refine⟨enters_of Tryz.func118 (by kernel_rfl) rfl,?_⟩;intro lb l J PN hM hY W h0;obtain⟨lb⟩:=lb
 match lb,PN with
 |[x1,x2],_ =>
  have cell:∀{W:World}{x:Value}{c:D}{u:Value},cU (λ_=>False) W (.el [c]) x->c=.sc u->∃ad,x=.pointer (some ad)/\W.cell? ⟨ad.block,ad.off,none⟩=some u/\ad.spot=none:=by
   intro W x c u h hc;cases h with|el cs ad f h1 h2 h3=>?_
   refine⟨ad,rfl,?_,h1⟩;have:=(h2 0 c rfl).1;have hv:=h3 0 c rfl;subst hc;cases hv;simpa using this
  have hp:=hM 0 W h0;obtain⟨d1,rfl,_,s1⟩:=cell (hp 0 _ rfl) rfl;obtain⟨d2,rfl,_,s2⟩:=cell (hp 1 _ rfl) rfl;have qh:d1=⟨d1.block,d1.off,none⟩:=by cases d1;simp only at s1;subst s1;rfl
  have hd2:d2=⟨d2.block,d2.off,none⟩:=by cases d2;simp only at s2;subst s2;rfl
  have:=YD (FW none) 1 trivial rfl (ajZ _) l d1 d2 N hN b J (λi W hJ=>by
   obtain⟨e1,h1,h2,_⟩:=cell (hM i W hJ 0 _ rfl) rfl;obtain⟨e2,h3,h4,_⟩:=cell (hM i W hJ 1 _ rfl) rfl;cases h1;cases h3;rw[qh,hd2];exact⟨h2,h4⟩) (λi W hJ hi=>hY i W hJ ae) W h0
  exact⟨trivial,λcs _=>this.2 cs (Tu _ _)⟩
theorem yQ (N:Nat) (b:Bool):aM Tryz.prog 98 [i64 N,bV b] (.d (.cl (.func 118) [] (Ra N b))):=by refine bo Tryz.func98 Tryz.ntmps98 Tryz.results98 0 31 ?_;simp only[zQ,simprocAttr];rfl
theorem Gp {aZ kI:List Nat} (h0:∀t,kI.contains t=false->e t=.any) (h:∀t∈kI,cJ aZ (e t)=e t):Na aZ kI e=e:=by
 funext t;rw[xQ];split
 ·rename_i ht;exact h t (by simpa using ht)
 ·rename_i ht;exact(h0 t (by simpa using ht)).symm
theorem bA.LY {L:Nat}{s:List VL.Obj} (aZ kI:List Nat) (h:An L aZ s.length=true) (he:Na aZ kI e=e):bA L e s e (kx aZ s):=by have:=bA.Dv (L:=L) (e:=e) (s:=s) aZ kI h;rwa [he]at this
theorem mg (aZ:List Nat) (q:Nat) (l:List Bool):di aZ (cq q l)=cq q l:=by unfold di cq;simp only[akq];congr 1
theorem ju (aZ:List Nat) (bg:Nat) (Bs:List (List Bool)):di aZ (fx bg Bs)=fx bg Bs:=by unfold di fx;simp only[akq];congr 1
theorem MK (aZ:List Nat) (h:aZ.idxOf? 0=some 0) (b a:Nat) (x:Option (Re×Nat)):cJ aZ (cj b a x)=cj b a x:=by
 cases x with
 |none=>rfl
 |some x =>
  obtain⟨re,k⟩:=x;unfold cj;simp only;split
  ·simp [cJ,cJ.go,mB,nB,h]
  ·split <;> simp [cJ,cJ.go,mB,nB,h]
theorem lU (aZ:List Nat) (h:aZ.idxOf? 0=some 0) (g b a:Nat) (C:List aq):di aZ (cN g b a C)=cN g b a C:=by unfold di cN;simp only[akq];congr 1;apply akz;intro i _;simp [aq.cells,MK aZ h,cJ,cJ.go,i64]
section
variable (t:List Int) (Bs:List (List Bool)) (C:List aq)
def dT (p:Nat) (Lt:List Bool) (n:Nat):P9:=(List.range n).foldl (λst n=>(bC t Bs C p Lt (C.length+1) n st).2) ⟨List.replicate C.length false,List.replicate C.length false⟩
def fT:Nat->List Bool
 |0=>List.replicate C.length false
 |i+1=>(dT t Bs C (t.length-i) (fT i) C.length).nw
def fQ (i:Nat):List Bool:=(List.range (t.length+1)).map λp=>decide (t.length<p+i)&&(fT t Bs C (t.length-p+1)).getD 0 false
def iE:List Bool:=(List.range (t.length+1)).map λp=>(fT t Bs C (t.length-p+1)).getD 0 false
theorem vL (p:Nat) (Lt:List Bool) (n:Nat):dT t Bs C p Lt (n+1)=(bC t Bs C p Lt (C.length+1) n (dT t Bs C p Lt n)).2:=by unfold dT;rw[alb,ak7];rfl
theorem qU (p:Nat) (Lt:List Bool):∀n,(dT t Bs C p Lt n).kn.length=C.length/\(dT t Bs C p Lt n).nw.length=C.length
 |0=>by simp [dT]
 |n+1=>by have h:=qU p Lt n;have h2:=mO t Bs C p Lt (C.length+1) n (dT t Bs C p Lt n);rw[vL];exact⟨h2.1.trans h.1,h2.2.1.trans h.2⟩
theorem HB:∀i,(fT t Bs C i).length=C.length
 |0=>by simp [fT]
 |i+1=>(qU t Bs C _ _ _).2
theorem Co:fQ t Bs C 0=List.replicate (t.length+1) false:=by
 apply List.ext_getElem?;intro j;unfold fQ;rw[List.getElem?_map,List.getElem?_replicate];by_cases hj:j<t.length+1
 ·rw[List.getElem?_range hj,be hj];simp only[ajS];rw[ce ae];rfl
 ·rw[List.getElem?_eq_none (by simpa using hj),ap hj];rfl
theorem qa (i:Nat):(fQ t Bs C i).length=t.length+1:=by simp [fQ]
theorem DO (i:Nat) (hi:i<=t.length):(fQ t Bs C i).set (t.length-i) ((fT t Bs C (i+1)).getD 0 false)=fQ t Bs C (i+1):=by
 apply List.ext_getElem?;intro j;rw[List.getElem?_set,qa];unfold fQ;rw[List.getElem?_map,List.getElem?_map];by_cases hj:j<t.length+1
 ·rw[List.getElem?_range hj];simp only[ajS];by_cases h:t.length-i=j
  ·rw[be h,sP];rw[bi ae,ak5,show t.length-j+1=i+1 by omega]
  ·rw[ap h];congr 2;exact decide_eq_decide.2 ae
 ·rw[List.getElem?_eq_none (by simpa using hj),bd];rfl
theorem Fo:fQ t Bs C (t.length+1)=iE t Bs C:=by unfold fQ iE;apply akz;intro p hp;rw[bi ae,ak5]
end
section
variable (t:List Int) (root parts:D) (bg nb:Nat) (Bs:List (List Bool)) (g b a:Nat) (C:List aq)
def QC (T:Nat):VL.Obj:=⟨0,true,1,[[.so 11 0 0 T]]⟩
def WG (p:Nat) (Lt:List Bool) (st:P9) (H:List Bool):List VL.Obj:=kY t root parts bg nb Bs g b a C p Lt st++[cq 0 H,QC (t.length+1)]
theorem KJ (hg:nj t Bs C) (nD:nb=Bs.length) (ht:t.length<=1000000) (hC:0<C.length) :
  ar Tryz.prog 61 [.rf 0 0 0 0,.so 2 g 0 C.length] [dz t root parts bg nb,fx bg Bs,cN g b a C] λv s=>v=.so 3 0 0 (t.length+1)/\s=[dz t root parts bg nb,fx bg Bs,cN g b a C,cq 0 (iE t Bs C)]:=by
 have lX:=yQ t.length true;have hlen:=hg.len;have w1:IntKind.i64.wrap ((t.length:Int)+1)=((t.length+1:Nat):Int):=by rw[bG _ ae];rfl
 simp only[i64,bV]at lX;refine NY Tryz.func61 rfl Tryz.ntmps61 Tryz.results61 rfl 3 3882650439675 ak ak ?_;simp only[zX,simprocAttr,jk,qn,i64,bV,iD,bD,dz,ao,b6,aO,ajM,w1];refine⟨⟨ae,ae,ae⟩,?_⟩;refine aX (bW.Vn 3 3 rfl rfl rfl rfl) ?_;refine aX bW.bn ?_;refine aX bW.bn ?_;refine aX bW.bn ?_;refine aX bW.bn ?_;refine cu mix [] [(2,[6],[6]),(5,[7],[7]),(6,[8],[8]),(7,[9],[9]),(8,[8],[8]),(9,[9],[9])] ?_;simp only[zX,simprocAttr,jk,qn,mE,ve,i64,bV,iD,bD,dz,ao,b6,aO,ajM,w1,hole,QQ,ck];have hcg:(cN g b a C).g=g:=rfl;have Ia:(C.length:Int)<=C.length/\((1:Nat):Int)*C.length<=140737488355328/\(C.length:Int)<=9223372036854775807:=⟨ae,ae,ae⟩
 refine⟨Ia,Ia,Ia,?_⟩;refine dY lX ?_;simp only[zX,simprocAttr,jk,qn,mE,ve,i64,bV,iD,bD];refine rX.of 34 35 _ (Ra t.length true) (t.length+1) (vZ true t.length) (λi s=>∃(kn nw:List Bool) (p:Nat),kn.length=C.length/\nw.length=C.length/\s=WG t root parts bg nb Bs g b a C p (fT t Bs C i) ⟨kn,nw⟩ (fQ t Bs C i))
  (λe=>e 0=.any/\e 3=.bx (.so 2 g 0 C.length)/\e 5=.rf 12 0 0 0/\e 6=.rf 9 1 0 0/\e 7=.rf 6 1 0 0/\e 8=.rf 4 0 0 0/\e 9=.rf 7 0 0 0/\e 10=.rf 10 0 0 0/\e 34=.d (.cl (.func 118) [] (Ra t.length true))/\∀t,[3,5,6,7,8,9,10,34].contains t=false->e t=.any)
  rfl rfl aU (I7 t.length ht true) ⟨_,_,bA.Dv [0,1,2,10,11,7,9,12,6,8,13,4,5] [3,5,6,7,8,9,10,34] cB,rfl,⟨rfl,rfl,rfl,rfl,rfl,rfl,rfl,rfl,rfl,λt ht=>ap (by rw[ht];exact Bool.false_ne_true)⟩,?_⟩ ?_ ?_
 ·refine⟨List.replicate C.length false,List.replicate C.length false,0,ak,ak,?_⟩;rw[Co];have hr:∀n q,(⟨q,true,1,List.replicate n [V.d (D.sc (Value.bool false))]⟩:VL.Obj)=cq q (List.replicate n false):=λn q=>by simp [cq,bV,bD]
  have Gd:([V.d (D.sc (Value.bool false))]::List.replicate t.length [V.d (D.sc (Value.bool false))])=List.replicate (t.length+1) [V.d (D.sc (Value.bool false))]:=rfl;rw[Gd];simp only[hr];simp only[kx,ajR,ajV,akM,akN,ju,mg,lU _ (rfl:List.idxOf? 0 [0,1,2,10,11,7,9,12,6,8,13,4,5]=some 0)];rfl
 ·rintro e ⟨f0,f3,f5,f6,f7,f8,f9,f10,f34,fa⟩ i s hi ⟨kn,nw,p,h1,h2,rfl⟩;have hi':i<=t.length:=ae;have hpo:vZ true t.length i=((t.length-i:Nat):Int):=by simp only[vZ,if_true];omega
  rw[hpo];have ia:∀l:List Bool,l.length=C.length->iG (l.map λb=>[V.d (D.sc (Value.bool b))]) 0 (List.replicate C.length [V.d (D.sc (Value.bool false))])=(List.replicate C.length false).map λb=>[V.d (D.sc (Value.bool b))]:=λl hl=>by simp [iG,hl]
  have vd:=ia kn h1;have FX:=ia nw h2;simp only[zQ,simprocAttr,WG,kY,f0,f3,f5,f6,f7,f8,f9,f10,dm,cq,b6,aO,ajM,h1,h2,nr,ajT,ajZ,vd,FX];clear vd FX;have Z2:=HB t Bs C i;have hRs:fT t Bs C (i+1)=(dT t Bs C (t.length-i) (fT t Bs C i) C.length).nw:=rfl;have hHs:=DO t Bs C i hi';have hHl:=qa t Bs C i;have aiz:=qa t Bs C (i+1);rw[hRs]at hHs ⊢;generalize fT t Bs C i=Lt at *;generalize fQ t Bs C i=H at *;generalize fQ t Bs C (i+1)=H2 at *;generalize UQ:t.length-i=p' at *;refine aw (λn e' s=>∃m:Nat,n=C.length-m/\m<=C.length/\e' 0=.any/\e' 5=.rf 12 0 0 0/\e' 6=.rf 9 1 0 0/\e' 7=.rf 6 1 0 0/\e' 9=.rf 7 0 0 0/\e' 10=.rf 10 0 0 0/\e' 39=i64 C.length/\e' 40=i64 m/\s=WG t root parts bg nb Bs g b a C p' Lt (dT t Bs C p' Lt m) H)
   ⟨_,_,_,bA.refl,0,rfl,ae,f0,f5,f6,f7,f9,f10,rfl,rfl,by simp only[WG,kY,dT,List.range_zero,List.foldl_nil,dm,cq,i64,bV,bD,ajN,ajO]⟩ ?_
  rintro n e' s ⟨m,rfl,hm,q0,q5,q6,q7,q9,jc,q39,q40,rfl⟩;have Qw:=qU t Bs C p' Lt m;rcases akd m C.length with az|gx
  ·have aA:(m:Int)<(C.length:Int):=by omega
   have hc:=λK hk=>mu (GJ t root parts bg nb Bs g b a C p' Lt hg nD ht ae Z2 C.length) (n:=m) (st:=dT t Bs C p' Lt m) az Qw.1 Qw.2 (by unfold Ql;rw[<- Qw.1];exact List.count_le_length) (tl:=[cq 0 H,QC (t.length+1)]) (K:=K) hk;rw[<- vL]at hc;generalize bV (bC t Bs C p' Lt (C.length+1) m (dT t Bs C p' Lt m)).1=rv at *;have Mq:WG t root parts bg nb Bs g b a C p' Lt (dT t Bs C p' Lt (m+1)) H=kY t root parts bg nb Bs g b a C p' Lt (dT t Bs C p' Lt (m+1))++[cq 0 H,QC (t.length+1)]:=rfl;generalize Cf:dT t Bs C p' Lt (m+1)=E2 at *;unfold dv kY at hc;simp only[zQ,simprocAttr,WG,kY,q0,q5,q6,q7,q9,jc,q39,q40,dm,cq,xP,b6,aO,aA,ajN,ajO];refine hc _ ?_;simp only[zQ,simprocAttr,q0,q5,q6,q7,q9,jc,q39,q40,b6,aO,aA,ajN,ajO];refine⟨C.length-(m+1),_,_,ae,bA.refl,m+1,rfl,az,?_,?_,?_,?_,?_,?_,?_,?_,by rw[Cf];rfl⟩ <;> (try simp only[zU,Nat.reduceBEq,Nat.reduceShiftRight,Nat.reduceMod,Nat.reduceEqDiff,reduceIte])
   ·exact q0
   ·exact q5
   ·exact q6
   ·exact q7
   ·exact q9
   ·exact jc
   ·exact q39
   ·rw[bG _ ae];rfl
  ·have TF:m=C.length:=by omega
   subst TF;generalize dT t Bs C p' Lt C.length=E2 at *;obtain⟨kn2,nw2⟩:=E2;simp only at Qw hHs ⊢;have WE:(0:Int)<(C.length:Int):=ae;obtain⟨y,hy⟩:∃y,nw2[0]?=some y:=⟨_,List.getElem?_eq_getElem (by rw[Qw.2];exact hC)⟩
   have hy2:nw2.getD 0 false=y:=by rw[List.getD_eq_getElem?_getD,hy];rfl
   rw[hy2]at hHs;have oM:(0:Int)<=(p':Int):=ae;have Fh:(p':Int)<((t.length+1:Nat):Int):=ae;have hp3:p'<H.length:=ae;obtain⟨z,hz⟩:∃z,H[p']?=some z:=cc hp3;simp only[zQ,simprocAttr,WG,kY,q0,q5,q6,q7,q9,jc,q39,q40,dm,cq,QC,b6,aO,aku,ajN,ajO];refine cu mix [6] [] ?_;simp only[zQ,simprocAttr,WG,kY,q0,q5,q6,q7,q9,jc,q39,q40,dm,cq,QC,b6,aO,ajN,ajO,WE,hC,oM,Fh,hp3,hHl,hz,hy,Qw.2,ajS,ajM,List.getElem?_map,ajP,ajT,gE,hHs];have Gb:Na [0,1,2,3,4,8,6,7,5,9,10,11,12] [3,5,6,7,8,9,10,34] e=e:=by
    refine Gp fa ?_;intro x hx;simp only[akD,List.not_mem_nil,or_false]at hx;rcases hx with rfl|rfl|rfl|rfl|rfl|rfl|rfl|rfl
    ·rw[f3];rfl
    ·rw[f5];rfl
    ·rw[f6];rfl
    ·rw[f7];rfl
    ·rw[f8];rfl
    ·rw[f9];rfl
    ·rw[f10];rfl
    ·rw[f34];rfl
   refine⟨_,bA.LY _ _ cB Gb,kn2,Lt,p',Qw.1,Z2,?_⟩;have hbd:∀q (l:List Bool),di [0,1,2,3,4,8,6,7,5,9,10,11,12] ⟨q,true,1,l.map λb=>[V.d (D.sc (Value.bool b))]⟩=⟨q,true,1,l.map λb=>[V.d (D.sc (Value.bool b))]⟩:=λq l=>mg _ q l;simp only[kx,ajR,ajV,akM,akN,ju,hbd,lU _ (rfl:List.idxOf? 0 [0,1,2,3,4,8,6,7,5,9,10,11,12]=some 0)];rfl
 ·rintro e ⟨f0,f3,f5,f6,f7,f8,f9,f10,f34,fa⟩ s ⟨kn,nw,p,h1,h2,rfl⟩;rw[Fo];simp only[zX,simprocAttr,WG,kY,f0,f3,f5,QC,Cl,v7];refine⟨[0,1,2,11],rfl,?_⟩;simp only[kx,ajR,ajV,akM,akN,ju,mg,lU _ (rfl:List.idxOf? 0 [0,1,2,11]=some 0)];exact⟨rfl,rfl⟩
end
end Go.Proofs.YtjjfioalgbecmaaGreat
