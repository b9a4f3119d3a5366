/- A part of the proof. -/
import Derived.RangeFuncKeeps
import Derived.RangeFuncLeaves
import Derived.Shelf.Abstract
import Derived.WalkKit
import Derived.OwnWalkIn
import Derived.TacticsInMore
import Derived.LoopNIn
import Derived.LoopIn
import Derived.Test.YtjjfioalgbecmaaGreatProg
import Derived.Test.YtjjfioalgbecmaaGreatOA17
set_option linter.unusedSimpArgs false
set_option linter.unusedVariables false
open Nat renaming reduceShiftRight → qa, reduceMod → qe, reduceEqDiff → Fp, reduceAdd → Fq, reduceBEq → Ft
open Int renaming reduceEq → FD
set_option maxRecDepth 100000
set_option maxHeartbeats 80000000
namespace Go.Proofs.YtjjfioalgbecmaaGreat
open Go.VL Go.Proofs.Tryz
theorem jO (l:List Nat) (n:Nat) (x:Nat):(l.map λ(x:Nat)=>[V.d (D.sc (Value.int IntKind.i64 (x:Int)))]).set n [V.d (D.sc (Value.int IntKind.i64 (x:Int)))]=(l.set n x).map λ(x:Nat)=>[V.d (D.sc (Value.int IntKind.i64 (x:Int)))]:=by rw[ams]
section
variable (t:List Int) (root parts:D) (bg nb:Nat) (Bs:List (List Bool)) (g b a:Nat) (C:List aw) (p:Nat)
theorem Km (hg:fz t Bs C) (oK:nb=Bs.length) (ht:t.length<=1000000) (hp:p<=t.length) (k:Nat) (IH:∀j,j+1=k->MW t root parts bg nb Bs g b a C p j):MW t root parts bg nb Bs g b a C p k:=by
 intro n st hn h1 h2 hu II;have hCl:=hg.len;have jj:(n:Int)<(C.length:Int):=ae;have fS:(0:Int)<=(n:Int):=ae;have ka:n<st.ad.length:=ae;have uo:IntKind.i64.wrap ((p:Int)+1)=((p+1:Nat):Int):=by rw[bK _ ae];rfl
 have gY:=hU 10 bg Bs;have ll:((dV t root parts bg nb).aA.all λe=>e.all (ak 10))=true:=rfl;have kG:((C.map (aw.cells b a)).all λe=>e.all (ak 10))=true:=kR 10 g b a ae C;have hB:∀l:List Bool,((l.map λb=>[V.d (D.sc (Value.bool b))]).all λe=>e.all (ak 10))=true:=λl=>Dg 10 0 l;have tW:∀l:List Nat,((l.map λ(x:Nat)=>[V.d (D.sc (Value.int IntKind.i64 (x:Int)))]).all λe=>e.all (ak 10))=true:=λl=>oD 10 0 l;obtain⟨x,hx⟩:∃x,st.ad[n]?=some x:=cb ka;obtain⟨i,hi⟩:∃i,C[n]?=some i:=cb hn;have lD:bH C n=i:=by unfold bH;rw[List.getD_eq_getElem?_getD,hi];rfl
 by_cases Wx:x=p+1
 ·subst Wx;have hr:gH t Bs C p (k+1) n st=st:=by rw[gH,be (.inr hx)]
  rw[hr];unfold ff fP;refine br Tryz.func99 Tryz.ntmps99 Tryz.results99 10 134218367 ?_;simp only[zQ,simprocAttr,ff,fP,cA,aV,dK,dG,cF,bG,Cb,db,jj,fS,ka,hn,h1,h2,ak7,ak4,List.getElem?_map,hx,hi,ala,alc,aw.cells,jO,ie,ll,gY,kG,hB,tW,alp,ak5,ak6,alu,uo]
 have wZ:((x:Int)=((p+1:Nat):Int))=False:=eq_false ae;have hu1:=rO hx Wx;have hup:=KZ hx Wx;have KY:gH t Bs C p (k+1) n st=(let dI:sR:=⟨st.ad.set n (p+1),st.ho,st.rd,st.gn⟩
  if i.op=0 then ⟨dI.ad,dI.ho.set p true,dI.rd,dI.gn⟩
  else if i.op=1 then (if i.pass t Bs p=true then ⟨dI.ad,dI.ho,dI.rd++[n],dI.gn+1⟩ else dI)
  else if i.op=2 then gH t Bs C p k i.y.toNat (gH t Bs C p k i.x.toNat dI)
  else if i.op=3 then gH t Bs C p k i.x.toNat dI
  else if i.op=4 then gH t Bs C p k (n+1) dI
  else if i.op=5 then (if i.pass t Bs p=true then gH t Bs C p k (n+1) dI else dI)
  else dI):=by rw[gH,ap (by rw[hx];rintro (h|h) <;> simp at h;exact Wx h),lD]
 simp only at KY;rw[KY];by_cases o0:i.op=0
 ·have hph:p<st.ho.length:=by omega
  have hpT:(p:Int)<((t.length+1:Nat):Int):=ae;have hp0:(0:Int)<=(p:Int):=ae;simp only[o0,reduceIte];unfold ff fP;refine br Tryz.func99 Tryz.ntmps99 Tryz.results99 10 134218367 ?_;obtain⟨z,hz⟩:∃z,st.ho[p]?=some z:=cb hph;simp only[zQ,simprocAttr,ff,fP,cA,aV,dK,dG,cF,bG,Cb,db,jj,fS,ka,hn,h1,h2,ak7,ak4,List.getElem?_map,hx,hi,ala,alc,aw.cells,jO,ie,ll,gY,kG,hB,tW,alp,ak5,ak6,alu,uo,wZ,o0,hph,hpT,hp0,h1,h2,hz]
 obtain⟨j,rfl⟩:∃j,k=j+1:=⟨k-1,ae⟩
 have VY:=λ(m:Nat) (hm:m<C.length) (tl:List VL.Obj) (K:V->List VL.Obj->Prop) hk=>Ho (IH j rfl) (n:=m) (st:=⟨st.ad.set n (p+1),st.ho,st.rd,st.gn⟩) hm (by simpa using h1) h2 oE oE (tl:=tl) (K:=K) hk;have hlen:=λm=>CM t Bs C p (j+1) m ⟨st.ad.set n (p+1),st.ho,st.rd,st.gn⟩;by_cases o3:i.op=3
 ·obtain⟨x0,x1⟩:=hg.jump n hn (by rw[lD];exact o3);rw[lD]at x0 x1;obtain⟨X,hX⟩:∃X:Nat,i.x=X:=⟨i.x.toNat,ae⟩
  have Co:X<C.length:=ae;have hc:=VY X Co [⟨0,true,5,[[i64 3,i64 X,i64 i.y,i64 i.n,cB b a i.node]]⟩];simp only[o3,hX,FD,reduceIte,ak7];generalize gH t Bs C p (j+1) X ⟨st.ad.set n (p+1),st.ho,st.rd,st.gn⟩=R at *;unfold ff fP at hc;unfold ff fP;refine br Tryz.func99 Tryz.ntmps99 Tryz.results99 10 134218367 ?_;simp only[zQ,simprocAttr,ff,fP,cA,aV,dK,dG,cF,bG,Cb,db,jj,fS,ka,hn,h1,h2,ak7,ak4,List.getElem?_map,hx,hi,ala,alc,aw.cells,jO,ie,ll,gY,kG,hB,tW,alp,ak5,ak6,alu,uo,wZ,o3,hX];refine hc _ ?_;simp only[zQ,simprocAttr,ff,fP,cA,aV,dK,dG,cF,bG,Cb,db,jj,fS,ka,hn,h1,h2,ak7,ak4,List.getElem?_map,hx,hi,ala,alc,aw.cells,jO,ie,ll,gY,kG,hB,tW,alp,ak5,ak6,alu,uo,wZ,o3,hX]
 by_cases o4:i.op=4
 ·have Co:=hg.next n hn (by rw[lD];exact .inr (.inl o4));have hw:IntKind.i64.wrap ((n:Int)+1)=((n+1:Nat):Int):=by rw[bK _ ae];rfl
  have hc:=VY (n+1) Co [⟨0,true,5,[[i64 4,i64 i.x,i64 i.y,i64 i.n,cB b a i.node]]⟩];simp only[o4,FD,reduceIte];generalize gH t Bs C p (j+1) (n+1) ⟨st.ad.set n (p+1),st.ho,st.rd,st.gn⟩=R at *;unfold ff fP at hc;unfold ff fP;refine br Tryz.func99 Tryz.ntmps99 Tryz.results99 10 134218367 ?_;simp only[zQ,simprocAttr,ff,fP,cA,aV,dK,dG,cF,bG,Cb,db,jj,fS,ka,hn,h1,h2,ak7,ak4,List.getElem?_map,hx,hi,ala,alc,aw.cells,jO,ie,ll,gY,kG,hB,tW,alp,ak5,ak6,alu,uo,wZ,o4,hw];refine hc _ ?_;simp only[zQ,simprocAttr,ff,fP,cA,aV,dK,dG,cF,bG,Cb,db,jj,fS,ka,hn,h1,h2,ak7,ak4,List.getElem?_map,hx,hi,ala,alc,aw.cells,jO,ie,ll,gY,kG,hB,tW,alp,ak5,ak6,alu,uo,wZ,o4,hw]
 by_cases o1:i.op=1
 ·obtain⟨Xc,aj,n8,CA,ud,tP⟩:=rK t root parts bg nb Bs b a C hg oK ht hn (.inl (by rw[lD];exact o1)) p hp;rw[lD]at n8 tP;simp only[o1,FD,reduceIte];generalize i.pass t Bs p=y at *;cases y with
  |true =>
   simp only[reduceIte];unfold ff fP;refine br Tryz.func99 Tryz.ntmps99 Tryz.results99 10 134218367 ?_;simp only[zQ,simprocAttr,ff,fP,cA,aV,dK,dG,cF,bG,Cb,db,jj,fS,ka,hn,h1,h2,ak7,ak4,List.getElem?_map,hx,hi,ala,alc,aw.cells,jO,ie,ll,gY,kG,hB,tW,alp,ak5,ak6,alu,uo,wZ,o1,n8];refine eD t root parts bg nb Bs tP ?_ ?_ rfl rfl rfl ?_
   ·simp [aI,i64,ud]
   ·simp [ak,ak.go,i64,CA]
   simp only[zQ,simprocAttr,ff,fP,cA,aV,dK,dG,cF,bG,Cb,db,jj,fS,ka,hn,h1,h2,ak7,ak4,List.getElem?_map,hx,hi,ala,alc,aw.cells,jO,ie,ll,gY,kG,hB,tW,alp,ak5,ak6,alu,uo,wZ,o1,n8];have hT:List.take st.rd.length (st.rd.map λ(x:Nat)=>[V.d (D.sc (Value.int IntKind.i64 (x:Int)))])++[[V.d (D.sc (Value.int IntKind.i64 (n:Int)))]]=(st.rd++[n]).map λ(x:Nat)=>[V.d (D.sc (Value.int IntKind.i64 (x:Int)))]:=by rw[aln (by rw[ak4];exact ale _)];simp
   rw[hT];have hcN:fC p st.ad<=st.ad.length:=al4;refine⟨λe he=>by rw[List.mem_singleton.1 he];rfl,⟨ale _,ae⟩,tW _,?_⟩;rw[ald];rfl
  |false =>
   simp only[alk,reduceIte];unfold ff fP;refine br Tryz.func99 Tryz.ntmps99 Tryz.results99 10 134218367 ?_;simp only[zQ,simprocAttr,ff,fP,cA,aV,dK,dG,cF,bG,Cb,db,jj,fS,ka,hn,h1,h2,ak7,ak4,List.getElem?_map,hx,hi,ala,alc,aw.cells,jO,ie,ll,gY,kG,hB,tW,alp,ak5,ak6,alu,uo,wZ,o1,n8];refine eD t root parts bg nb Bs tP ?_ ?_ rfl rfl rfl ?_
   ·simp [aI,i64,ud]
   ·simp [ak,ak.go,i64,CA]
   simp only[zQ,simprocAttr,ff,fP,cA,aV,dK,dG,cF,bG,Cb,db,jj,fS,ka,hn,h1,h2,ak7,ak4,List.getElem?_map,hx,hi,ala,alc,aw.cells,jO,ie,ll,gY,kG,hB,tW,alp,ak5,ak6,alu,uo,wZ,o1,n8]
 by_cases o5:i.op=5
 ·obtain⟨Xc,aj,n8,CA,ud,tP⟩:=rK t root parts bg nb Bs b a C hg oK ht hn (.inr (by rw[lD];exact o5)) p hp;have Co:=hg.next n hn (by rw[lD];exact .inr (.inr o5));have hw:IntKind.i64.wrap ((n:Int)+1)=((n+1:Nat):Int):=by rw[bK _ ae];rfl
  rw[lD]at n8 tP;have hc:=VY (n+1) Co [⟨0,true,5,[[i64 5,i64 i.x,i64 i.y,i64 i.n,.cl (.func Xc) [] aj]]⟩];simp only[o5,FD,reduceIte];generalize i.pass t Bs p=y at *;cases y with
  |true =>
   simp only[reduceIte];generalize gH t Bs C p (j+1) (n+1) ⟨st.ad.set n (p+1),st.ho,st.rd,st.gn⟩=R at *;unfold ff fP at hc;unfold ff fP;refine br Tryz.func99 Tryz.ntmps99 Tryz.results99 10 134218367 ?_;simp only[zQ,simprocAttr,ff,fP,cA,aV,dK,dG,cF,bG,Cb,db,jj,fS,ka,hn,h1,h2,ak7,ak4,List.getElem?_map,hx,hi,ala,alc,aw.cells,jO,ie,ll,gY,kG,hB,tW,alp,ak5,ak6,alu,uo,wZ,o5,n8,hw];refine eD t root parts bg nb Bs tP ?_ ?_ rfl rfl rfl ?_
   ·simp [aI,i64,ud]
   ·simp [ak,ak.go,i64,CA]
   simp only[zQ,simprocAttr,ff,fP,cA,aV,dK,dG,cF,bG,Cb,db,jj,fS,ka,hn,h1,h2,ak7,ak4,List.getElem?_map,hx,hi,ala,alc,aw.cells,jO,ie,ll,gY,kG,hB,tW,alp,ak5,ak6,alu,uo,wZ,o5,n8,hw];refine hc _ ?_;simp only[zQ,simprocAttr,ff,fP,cA,aV,dK,dG,cF,bG,Cb,db,jj,fS,ka,hn,h1,h2,ak7,ak4,List.getElem?_map,hx,hi,ala,alc,aw.cells,jO,ie,ll,gY,kG,hB,tW,alp,ak5,ak6,alu,uo,wZ,o5,n8,hw]
  |false =>
   simp only[alk,reduceIte];unfold ff fP;refine br Tryz.func99 Tryz.ntmps99 Tryz.results99 10 134218367 ?_;simp only[zQ,simprocAttr,ff,fP,cA,aV,dK,dG,cF,bG,Cb,db,jj,fS,ka,hn,h1,h2,ak7,ak4,List.getElem?_map,hx,hi,ala,alc,aw.cells,jO,ie,ll,gY,kG,hB,tW,alp,ak5,ak6,alu,uo,wZ,o5,n8];refine eD t root parts bg nb Bs tP ?_ ?_ rfl rfl rfl ?_
   ·simp [aI,i64,ud]
   ·simp [ak,ak.go,i64,CA]
   simp only[zQ,simprocAttr,ff,fP,cA,aV,dK,dG,cF,bG,Cb,db,jj,fS,ka,hn,h1,h2,ak7,ak4,List.getElem?_map,hx,hi,ala,alc,aw.cells,jO,ie,ll,gY,kG,hB,tW,alp,ak5,ak6,alu,uo,wZ,o5,n8]
 by_cases o2:i.op=2
 ·obtain⟨x0,x1,y0,y1⟩:=hg.split n hn (by rw[lD];exact o2);rw[lD]at x0 x1 y0 y1;obtain⟨X,hX⟩:∃X:Nat,i.x=X:=⟨i.x.toNat,ae⟩
  obtain⟨Y,hY⟩:∃Y:Nat,i.y=Y:=⟨i.y.toNat,ae⟩
  have Co:X<C.length:=ae;have hYC:Y<C.length:=ae;have hc:=VY X Co [⟨0,true,5,[[i64 2,i64 X,i64 Y,i64 i.n,cB b a i.node]]⟩];have hl:=hlen X;simp only[o2,hX,hY,FD,reduceIte,ak7];generalize gH t Bs C p (j+1) X ⟨st.ad.set n (p+1),st.ho,st.rd,st.gn⟩=R at *;obtain⟨l1,l2,l3,l4,_⟩:=hl;simp only[alu]at l1 l2 l3 l4;have ud:=λ(K:V->List VL.Obj->Prop) hk=>Ho (IH j rfl) (n:=Y) (st:=R) hYC ae ae ae ae (tl:=[⟨0,true,5,[[i64 2,i64 X,i64 Y,i64 i.n,cB b a i.node]]⟩]) (K:=K) hk;generalize gH t Bs C p (j+1) Y R=R2 at *;unfold ff fP at hc ud;unfold ff fP;refine br Tryz.func99 Tryz.ntmps99 Tryz.results99 10 134218367 ?_;simp only[zQ,simprocAttr,ff,fP,cA,aV,dK,dG,cF,bG,Cb,db,jj,fS,ka,hn,h1,h2,ak7,ak4,List.getElem?_map,hx,hi,ala,alc,aw.cells,jO,ie,ll,gY,kG,hB,tW,alp,ak5,ak6,alu,uo,wZ,o2,hX,hY];refine hc _ ?_;simp only[zQ,simprocAttr,ff,fP,cA,aV,dK,dG,cF,bG,Cb,db,jj,fS,ka,hn,h1,h2,ak7,ak4,List.getElem?_map,hx,hi,ala,alc,aw.cells,jO,ie,ll,gY,kG,hB,tW,alp,ak5,ak6,alu,uo,wZ,o2,hX,hY];refine ud _ ?_;simp only[zQ,simprocAttr,ff,fP,cA,aV,dK,dG,cF,bG,Cb,db,jj,fS,ka,hn,h1,h2,ak7,ak4,List.getElem?_map,hx,hi,ala,alc,aw.cells,jO,ie,ll,gY,kG,hB,tW,alp,ak5,ak6,alu,uo,wZ,o2,hX,hY]
 exact Zdn
theorem JC (hg:fz t Bs C) (oK:nb=Bs.length) (ht:t.length<=1000000) (hp:p<=t.length):∀k,MW t root parts bg nb Bs g b a C p k
 |0=>Km t root parts bg nb Bs g b a C p hg oK ht hp 0 (λj h=>ae)
 |k+1=>Km t root parts bg nb Bs g b a C p hg oK ht hp (k+1) (λj h=>by
  have:j=k:=ae;subst this;exact JC hg oK ht hp j)
end
open Go.RowKit Go.Shelf Go.Proofs.Tryz
variable{e:VL.Env}
attribute [local go_sem] Oper.semAt_some
def xE (b:Bool) (N i:Nat):Int:=if b then (N:Int)-i else i
theorem Z2 (F:Fence) (n:Nat) (hF:F.fn 118) (UY:F.round=none) (hn:1<=n) (l:Nat) (a1 a2:Addr) (N:Nat) (hN:N<=1000000) (b:Bool) (J:Nat->World->Prop)
  (hM:∀i W,J i W->W.cell? a1=some (.int .i64 N)/\W.cell? a2=some (.bool b))
  (hY:∀i W,J i W->i<=N->YieldAt F (n-1) Tryz.prog l #[.int .i64 (xE b N i)] W λe W'=>e=.returned (.bool true)/\J (i+1) W')
  (W:World) (h0:J 0 W):CallsIn F n Tryz.prog 118 #[.func (.yield l) #[] #[],.pointer (some a1),.pointer (some a2)] W λe W'=>(∃v,e=.returned v)/\J (N+1) W':=by
 refine callsIn_of_wp Tryz.func118 rfl hF ?_ UY;simp only[Tryz.ntmps118,List.size_toArray,alg,alf,Fq,Nat.reduceSub,Array.replicate_succ,Array.replicate_zero,List.push_toArray,List.append_toArray,ak6,ak5]
 gi_wp2
 gi_loopw [4] (λp wr=>∃i:Nat,p=.int .i64 i/\i<=N+1/\J i wr) (λp _=>match p with|.int _ i=>(N+1-i).toNat|_=>0)
 case atStart=>exact⟨0,rfl,ae,h0⟩
 case round =>
  obtain⟨i,rfl,hi,hJ⟩:=hrel;obtain⟨m1,m2⟩:=hM i _ hJ;by_cases aE:(i:Int)<=(N:Int)
  ·obtain⟨fn,tmps,assign,body,hy,hR⟩:=hY i _ hJ ae;have w1:IntKind.i64.wrap ((N:Int)-(i:Int))=(N:Int)-i:=bK _ ae;have w2:IntKind.i64.wrap ((i:Int)+1)=(i:Int)+1:=bK _ ae;cases b with
   |true =>
    simp only[xE,if_true]at hy
    gi_wp2
    exact ZbQ
   |false =>
    simp only[xE,alk,if_false]at hy
    gi_wp2
    exact ZbQ
  ·gi_wp2
   go_end0
   exact⟨⟨_,rfl⟩,by rw[show N+1=i by omega];exact hJ⟩
def Si (N:Nat) (b:Bool):List D:=[.el [iD N],.el [bD b]]
theorem J8 (N:Nat) (hN:N<=1000000) (b:Bool):Js Tryz.prog 118 (Si N b) (N+1) (xE b N):=by
 refine⟨enters_of Tryz.func118 (by kernel_rfl) rfl,?_⟩;intro lb l J JO hM hY W h0;obtain⟨lb⟩:=lb
 match lb,JO with
 |[x1,x2],_ =>
  have cell:∀{W:World}{x:Value}{c:D}{u:Value},di (λ_=>False) W (.el [c]) x->c=.sc u->∃ad,x=.pointer (some ad)/\W.cell? ⟨ad.block,ad.off,none⟩=some u/\ad.spot=none:=by
   intro W x c u h hc;cases h with|el cs ad f h1 h2 h3=>?_
   refine⟨ad,rfl,?_,h1⟩;have:=(h2 0 c rfl).1;have hv:=h3 0 c rfl;subst hc;cases hv;simpa using this
  have hp:=hM 0 W h0;obtain⟨d1,rfl,_,s1⟩:=cell (hp 0 _ rfl) rfl;obtain⟨d2,rfl,_,s2⟩:=cell (hp 1 _ rfl) rfl;have qg:d1=⟨d1.block,d1.off,none⟩:=by cases d1;simp only at s1;subst s1;rfl
  have hd2:d2=⟨d2.block,d2.off,none⟩:=by cases d2;simp only at s2;subst s2;rfl
  have:=Z2 (G7 none) 1 trivial rfl (ale _) l d1 d2 N hN b J (λi W hJ=>by
   obtain⟨e1,h1,h2,_⟩:=cell (hM i W hJ 0 _ rfl) rfl;obtain⟨e2,h3,h4,_⟩:=cell (hM i W hJ 1 _ rfl) rfl;cases h1;cases h3;rw[qg,hd2];exact⟨h2,h4⟩) (λi W hJ hi=>hY i W hJ ae) W h0
  exact⟨trivial,λcs _=>this.2 cs (UN _ _)⟩
theorem Ao (N:Nat) (b:Bool):aS Tryz.prog 98 [i64 N,bV b] (.d (.cl (.func 118) [] (Si N b))):=by refine br Tryz.func98 Tryz.ntmps98 Tryz.results98 0 31 ?_;simp only[zQ,simprocAttr];rfl
theorem Hx {bp lj:List Nat} (h0:∀t,lj.contains t=false->e t=.any) (h:∀t∈lj,fe bp (e t)=e t):Og bp lj e=e:=by
 funext t;rw[DK];split
 ·rename_i ht;exact h t (by simpa using ht)
 ·rename_i ht;exact(h0 t (by simpa using ht)).symm
theorem bO.MY {L:Nat}{s:List VL.Obj} (bp lj:List Nat) (h:Bv L bp s.length=true) (he:Og bp lj e=e):bO L e s e (mH bp s):=by have:=bO.FL (L:=L) (e:=e) (s:=s) bp lj h;rwa [he]at this
theorem m7 (bp:List Nat) (q:Nat) (l:List Bool):fZ bp (cF q l)=cF q l:=by unfold fZ cF;simp only[alH];congr 1
theorem jQ (bp:List Nat) (bg:Nat) (Bs:List (List Bool)):fZ bp (fW bg Bs)=fW bg Bs:=by unfold fZ fW;simp only[alH];congr 1
theorem NP (bp:List Nat) (h:bp.idxOf? 0=some 0) (b a:Nat) (x:Option (Re×Nat)):fe bp (cB b a x)=cB b a x:=by
 cases x with
 |none=>rfl
 |some x =>
  obtain⟨re,k⟩:=x;unfold cB;simp only;split
  ·simp [fe,fe.go,mB,nB,h]
  ·split <;> simp [fe,fe.go,mB,nB,h]
theorem mD (bp:List Nat) (h:bp.idxOf? 0=some 0) (g b a:Nat) (C:List aw):fZ bp (db g b a C)=db g b a C:=by unfold fZ db;simp only[alH];congr 1;apply alK;intro i _;simp [aw.cells,NP bp h,fe,fe.go,i64]
section
variable (t:List Int) (Bs:List (List Bool)) (C:List aw)
def dg (p:Nat) (Lt:List Bool) (n:Nat):Jc:=(List.range n).foldl (λst n=>(bF t Bs C p Lt (C.length+1) n st).2) ⟨List.replicate C.length false,List.replicate C.length false⟩
def fj:Nat->List Bool
 |0=>List.replicate C.length false
 |i+1=>(dg t Bs C (t.length-i) (fj i) C.length).nw
def gL (i:Nat):List Bool:=(List.range (t.length+1)).map λp=>decide (t.length<p+i)&&(fj t Bs C (t.length-p+1)).getD 0 false
def iv:List Bool:=(List.range (t.length+1)).map λp=>(fj t Bs C (t.length-p+1)).getD 0 false
theorem kD (p:Nat) (Lt:List Bool) (n:Nat):dg t Bs C p Lt (n+1)=(bF t Bs C p Lt (C.length+1) n (dg t Bs C p Lt n)).2:=by unfold dg;rw[List.range_succ,List.foldl_append];rfl
theorem oA (p:Nat) (Lt:List Bool):∀n,(dg t Bs C p Lt n).kn.length=C.length/\(dg t Bs C p Lt n).nw.length=C.length
 |0=>by simp [dg]
 |n+1=>by have h:=oA p Lt n;have h2:=ir t Bs C p Lt (C.length+1) n (dg t Bs C p Lt n);rw[kD];exact⟨h2.1.trans h.1,h2.2.1.trans h.2⟩
theorem IP:∀i,(fj t Bs C i).length=C.length
 |0=>by simp [fj]
 |i+1=>(oA t Bs C _ _ _).2
theorem DE:gL t Bs C 0=List.replicate (t.length+1) false:=by
 apply List.ext_getElem?;intro j;unfold gL;rw[List.getElem?_map,List.getElem?_replicate];by_cases hj:j<t.length+1
 ·rw[List.getElem?_range hj,be hj];simp only[ala];rw[ce ae];rfl
 ·rw[List.getElem?_eq_none (by simpa using hj),ap hj];rfl
theorem qX (i:Nat):(gL t Bs C i).length=t.length+1:=by simp [gL]
theorem Fe (i:Nat) (hi:i<=t.length):(gL t Bs C i).set (t.length-i) ((fj t Bs C (i+1)).getD 0 false)=gL t Bs C (i+1):=by
 apply List.ext_getElem?;intro j;rw[List.getElem?_set,qX];unfold gL;rw[List.getElem?_map,List.getElem?_map];by_cases hj:j<t.length+1
 ·rw[List.getElem?_range hj];simp only[ala];by_cases h:t.length-i=j
  ·rw[be h,rY];rw[bi ae,al6,show t.length-j+1=i+1 by omega]
  ·rw[ap h];congr 2;exact decide_eq_decide.2 ae
 ·rw[List.getElem?_eq_none (by simpa using hj),bm];rfl
theorem Gv:gL t Bs C (t.length+1)=iv t Bs C:=by unfold gL iv;apply alK;intro p hp;rw[bi ae,al6]
end
section
variable (t:List Int) (root parts:D) (bg nb:Nat) (Bs:List (List Bool)) (g b a:Nat) (C:List aw)
def RP (T:Nat):VL.Obj:=⟨0,true,1,[[.so 11 0 0 T]]⟩
def XM (p:Nat) (Lt:List Bool) (st:Jc) (H:List Bool):List VL.Obj:=lM t root parts bg nb Bs g b a C p Lt st++[cF 0 H,RP (t.length+1)]
theorem LJ (hg:fz t Bs C) (oK:nb=Bs.length) (ht:t.length<=1000000) (hC:0<C.length) :
  av Tryz.prog 61 [.rf 0 0 0 0,.so 2 g 0 C.length] [dV t root parts bg nb,fW bg Bs,db g b a C] λv s=>v=.so 3 0 0 (t.length+1)/\s=[dV t root parts bg nb,fW bg Bs,db g b a C,cF 0 (iv t Bs C)]:=by
 have mb:=Ao t.length true;have hlen:=hg.len;have w1:IntKind.i64.wrap ((t.length:Int)+1)=((t.length+1:Nat):Int):=by rw[bK _ ae];rfl
 simp only[i64,bV]at mb;refine OY Tryz.func61 rfl Tryz.ntmps61 Tryz.results61 rfl 3 3882650439675 aq aq ?_;simp only[zX,simprocAttr,jK,rA,i64,bV,iD,bD,dV,ar,cA,aV,ak4,w1];refine⟨⟨ae,ae,ae⟩,?_⟩;refine aW (cr.Wr 3 3 rfl rfl rfl rfl) ?_;refine aW cr.bu ?_;refine aW cr.bu ?_;refine aW cr.bu ?_;refine aW cr.bu ?_;refine cP mix [] [(2,[6],[6]),(5,[7],[7]),(6,[8],[8]),(7,[9],[9]),(8,[8],[8]),(9,[9],[9])] ?_;simp only[zX,simprocAttr,jK,rA,nz,wo,i64,bV,iD,bD,dV,ar,cA,aV,ak4,w1,hole,XD,bU];have hcg:(db g b a C).g=g:=rfl;have hmk:(C.length:Int)<=C.length/\((1:Nat):Int)*C.length<=140737488355328/\(C.length:Int)<=9223372036854775807:=⟨ae,ae,ae⟩
 refine⟨hmk,hmk,hmk,?_⟩;refine dk mb ?_;simp only[zX,simprocAttr,jK,rA,nz,wo,i64,bV,iD,bD];refine tC.of 34 35 _ (Si t.length true) (t.length+1) (xE true t.length) (λi s=>∃(kn nw:List Bool) (p:Nat),kn.length=C.length/\nw.length=C.length/\s=XM t root parts bg nb Bs g b a C p (fj t Bs C i) ⟨kn,nw⟩ (gL t Bs C i))
  (λe=>e 0=.any/\e 3=.bx (.so 2 g 0 C.length)/\e 5=.rf 12 0 0 0/\e 6=.rf 9 1 0 0/\e 7=.rf 6 1 0 0/\e 8=.rf 4 0 0 0/\e 9=.rf 7 0 0 0/\e 10=.rf 10 0 0 0/\e 34=.d (.cl (.func 118) [] (Si t.length true))/\∀t,[3,5,6,7,8,9,10,34].contains t=false->e t=.any)
  rfl rfl aF (J8 t.length ht true) ⟨_,_,bO.FL [0,1,2,10,11,7,9,12,6,8,13,4,5] [3,5,6,7,8,9,10,34] eh,rfl,⟨rfl,rfl,rfl,rfl,rfl,rfl,rfl,rfl,rfl,λt ht=>ap (by rw[ht];exact alJ)⟩,?_⟩ ?_ ?_
 ·refine⟨List.replicate C.length false,List.replicate C.length false,0,aq,aq,?_⟩;rw[DE];have hr:∀n q,(⟨q,true,1,List.replicate n [V.d (D.sc (Value.bool false))]⟩:VL.Obj)=cF q (List.replicate n false):=λn q=>by simp [cF,bV,bD]
  have FB:([V.d (D.sc (Value.bool false))]::List.replicate t.length [V.d (D.sc (Value.bool false))])=List.replicate (t.length+1) [V.d (D.sc (Value.bool false))]:=rfl;rw[FB];simp only[hr];simp only[mH,ak8,ak9,ama,alY,jQ,m7,mD _ (rfl:List.idxOf? 0 [0,1,2,10,11,7,9,12,6,8,13,4,5]=some 0)];rfl
 ·rintro e ⟨f0,f3,f5,f6,f7,f8,f9,f10,f34,fa⟩ i s hi ⟨kn,nw,p,h1,h2,rfl⟩;have hi':i<=t.length:=ae;have TW:xE true t.length i=((t.length-i:Nat):Int):=by simp only[xE,if_true];omega
  rw[TW];have cQ:∀l:List Bool,l.length=C.length->ib (l.map λb=>[V.d (D.sc (Value.bool b))]) 0 (List.replicate C.length [V.d (D.sc (Value.bool false))])=(List.replicate C.length false).map λb=>[V.d (D.sc (Value.bool b))]:=λl hl=>by simp [ib,hl]
  have sY:=cQ kn h1;have DH:=cQ nw h2;simp only[zQ,simprocAttr,XM,lM,f0,f3,f5,f6,f7,f8,f9,f10,dK,cF,cA,aV,ak4,h1,h2,lW,alc,ale,sY,DH];clear sY DH;have hRl:=IP t Bs C i;have hRs:fj t Bs C (i+1)=(dg t Bs C (t.length-i) (fj t Bs C i) C.length).nw:=rfl;have hHs:=Fe t Bs C i hi';have hHl:=qX t Bs C i;have ajT:=qX t Bs C (i+1);rw[hRs]at hHs ⊢;generalize fj t Bs C i=Lt at *;generalize gL t Bs C i=H at *;generalize gL t Bs C (i+1)=H2 at *;generalize Lz:t.length-i=p' at *;refine ay (λn e' s=>∃m:Nat,n=C.length-m/\m<=C.length/\e' 0=.any/\e' 5=.rf 12 0 0 0/\e' 6=.rf 9 1 0 0/\e' 7=.rf 6 1 0 0/\e' 9=.rf 7 0 0 0/\e' 10=.rf 10 0 0 0/\e' 39=i64 C.length/\e' 40=i64 m/\s=XM t root parts bg nb Bs g b a C p' Lt (dg t Bs C p' Lt m) H)
   ⟨_,_,_,bO.refl,0,rfl,ae,f0,f5,f6,f7,f9,f10,rfl,rfl,by simp only[XM,lM,dg,List.range_zero,List.foldl_nil,dK,cF,i64,bV,bD,ak5,ak6]⟩ ?_
  rintro n e' s ⟨m,rfl,hm,q0,q5,q6,q7,q9,jd,q39,q40,rfl⟩;have V1:=oA t Bs C p' Lt m;rcases alw m C.length with aE|gE
  ·have aH:(m:Int)<(C.length:Int):=by omega
   have hc:=λK hk=>nj (HN t root parts bg nb Bs g b a C p' Lt hg oK ht ae hRl C.length) (n:=m) (st:=dg t Bs C p' Lt m) aE V1.1 V1.2 (by unfold JS;rw[<- V1.1];exact List.count_le_length) (tl:=[cF 0 H,RP (t.length+1)]) (K:=K) hk;rw[<- kD]at hc;generalize bV (bF t Bs C p' Lt (C.length+1) m (dg t Bs C p' Lt m)).1=rv at *;have G5:XM t root parts bg nb Bs g b a C p' Lt (dg t Bs C p' Lt (m+1)) H=lM t root parts bg nb Bs g b a C p' Lt (dg t Bs C p' Lt (m+1))++[cF 0 H,RP (t.length+1)]:=rfl;generalize Dt:dg t Bs C p' Lt (m+1)=E2 at *;unfold dP lM at hc;simp only[zQ,simprocAttr,XM,lM,q0,q5,q6,q7,q9,jd,q39,q40,dK,cF,y8,cA,aV,aH,ak5,ak6];refine hc _ ?_;simp only[zQ,simprocAttr,q0,q5,q6,q7,q9,jd,q39,q40,cA,aV,aH,ak5,ak6];refine⟨C.length-(m+1),_,_,ae,bO.refl,m+1,rfl,aE,?_,?_,?_,?_,?_,?_,?_,?_,by rw[Dt];rfl⟩ <;> (try simp only[zU,Ft,qa,qe,Fp,reduceIte])
   ·exact q0
   ·exact q5
   ·exact q6
   ·exact q7
   ·exact q9
   ·exact jd
   ·exact q39
   ·rw[bK _ ae];rfl
  ·have UX:m=C.length:=by omega
   subst UX;generalize dg t Bs C p' Lt C.length=E2 at *;obtain⟨kn2,nw2⟩:=E2;simp only at V1 hHs ⊢;have XK:(0:Int)<(C.length:Int):=ae;obtain⟨y,hy⟩:∃y,nw2[0]?=some y:=⟨_,List.getElem?_eq_getElem (by rw[V1.2];exact hC)⟩
   have hy2:nw2.getD 0 false=y:=by rw[List.getD_eq_getElem?_getD,hy];rfl
   rw[hy2]at hHs;have zK:(0:Int)<=(p':Int):=ae;have B0:(p':Int)<((t.length+1:Nat):Int):=ae;have hp3:p'<H.length:=ae;obtain⟨z,hz⟩:∃z,H[p']?=some z:=cb hp3;simp only[zQ,simprocAttr,XM,lM,q0,q5,q6,q7,q9,jd,q39,q40,dK,cF,RP,cA,aV,alZ,ak5,ak6];refine cP mix [6] [] ?_;simp only[zQ,simprocAttr,XM,lM,q0,q5,q6,q7,q9,jd,q39,q40,dK,cF,RP,cA,aV,ak5,ak6,XK,hC,zK,B0,hp3,hHl,hz,hy,V1.2,ala,ak4,List.getElem?_map,ak7,alc,ie,hHs];have Hl:Og [0,1,2,3,4,8,6,7,5,9,10,11,12] [3,5,6,7,8,9,10,34] e=e:=by
    refine Hx fa ?_;intro x hx;simp only[alT,amc,or_false]at hx;rcases hx with rfl|rfl|rfl|rfl|rfl|rfl|rfl|rfl
    ·rw[f3];rfl
    ·rw[f5];rfl
    ·rw[f6];rfl
    ·rw[f7];rfl
    ·rw[f8];rfl
    ·rw[f9];rfl
    ·rw[f10];rfl
    ·rw[f34];rfl
   refine⟨_,bO.MY _ _ eh Hl,kn2,Lt,p',V1.1,hRl,?_⟩;have hbd:∀q (l:List Bool),fZ [0,1,2,3,4,8,6,7,5,9,10,11,12] ⟨q,true,1,l.map λb=>[V.d (D.sc (Value.bool b))]⟩=⟨q,true,1,l.map λb=>[V.d (D.sc (Value.bool b))]⟩:=λq l=>m7 _ q l;simp only[mH,ak8,ak9,ama,alY,jQ,hbd,mD _ (rfl:List.idxOf? 0 [0,1,2,3,4,8,6,7,5,9,10,11,12]=some 0)];rfl
 ·rintro e ⟨f0,f3,f5,f6,f7,f8,f9,f10,f34,fa⟩ s ⟨kn,nw,p,h1,h2,rfl⟩;rw[Gv];simp only[zX,simprocAttr,XM,lM,f0,f3,f5,RP,tV,xF];refine⟨[0,1,2,11],rfl,?_⟩;simp only[mH,ak8,ak9,ama,alY,jQ,m7,mD _ (rfl:List.idxOf? 0 [0,1,2,11]=some 0)];exact⟨rfl,rfl⟩
end
theorem rB (bp:List Nat) (q:Nat) (l:List Nat):fZ bp (bG q l)=bG q l:=by unfold fZ bG;simp only[alH];congr 1
theorem P7 (k g:Nat) (v:V) (bg:Nat) (Bs:List (List Bool)):(⟨(fW bg Bs).g,(fW bg Bs).live,(fW bg Bs).sz,(fW bg Bs).aA.map λc=>c.map (pk k g v)⟩:VL.Obj)=fW bg Bs:=by unfold fW;simp only[alH];congr 1
theorem SG (k g:Nat) (v:V) (cg b a:Nat) (C:List aw):(⟨(db cg b a C).g,(db cg b a C).live,(db cg b a C).sz,(db cg b a C).aA.map λc=>c.map (pk k g v)⟩:VL.Obj)=db cg b a C:=by
 have hp:∀x,pk k g v (cB b a x)=cB b a x:=by
  intro x;exact Zei
 unfold db;simp only[alH];congr 1;apply alK;intro i _;simp [aw.cells,hp,pk,i64]
theorem aaq {L:Nat}{e:VL.Env}{s:List VL.Obj}{gb:Nat}{B:List Nat} (k:Nat) (ho:s[k]?=some (bG gb B)):bO L e s e (s.set k (bG gb [])):=by
 cases B with
 |nil =>
  have:s.set k (bG gb [])=s:=by
   exact Zec
  rw[this];exact bO.refl
 |cons x B =>
  refine bO.X5 (o:=bG gb (x::B)) k 0 ho (λes h=>?_);have h1:(bG gb (x::B)).aA[0]?=some [i64 (x:Int)]:=rfl;rw[h,fX,List.getElem?_map]at h1;obtain⟨y,_,h2⟩:=Option.map_eq_some_iff.1 h1;have h3:=congrArg List.length h2;simp at h3
section
variable (t:List Int) (Bs:List (List Bool)) (C:List aw)
def cZ (p:Nat) (l:List Nat) (st:sR):sR:=l.foldl (λst n=>gH t Bs C p (C.length+1) (n+1) st) st
def de:Nat->sR×Nat
 |0=>(⟨List.replicate C.length 0,List.replicate (t.length+1) false,[],0⟩,0)
 |p+1=>(gH t Bs C p (C.length+1) 0 (cZ t Bs C p (de p).1.rd ⟨(de p).1.ad,(de p).1.ho,[],(de p).2⟩),(de p).1.gn)
def rC:List Bool:=(de t Bs C (t.length+1)).1.ho
theorem qQ (p:Nat):∀(l:List Nat) (st:sR),tE C p st (cZ t Bs C p l st)
 |[],st=>.refl st
 |n::l,st=>by have h1:=CM t Bs C p (C.length+1) (n+1) st;exact h1.trans (qQ p l _)
theorem IZ (p:Nat) (l:List Nat) (n:Nat) (st:sR):cZ t Bs C p (l++[n]) st=gH t Bs C p (C.length+1) (n+1) (cZ t Bs C p l st):=by unfold cZ;rw[List.foldl_append];rfl
theorem yu:∀p,(de t Bs C p).1.ad.length=C.length/\(de t Bs C p).1.ho.length=t.length+1/\(de t Bs C p).1.rd.length<=C.length/\∀e∈(de t Bs C p).1.rd,(bH C e).op=1
 |0=>by simp [de]
 |p+1=>by obtain⟨h1,h2,_,_⟩:=yu p;have k1:=qQ t Bs C p (de t Bs C p).1.rd ⟨(de t Bs C p).1.ad,(de t Bs C p).1.ho,[],(de t Bs C p).2⟩;have k2:=CM t Bs C p (C.length+1) 0 (cZ t Bs C p (de t Bs C p).1.rd ⟨(de t Bs C p).1.ad,(de t Bs C p).1.ho,[],(de t Bs C p).2⟩);obtain⟨a1,a2,a3,a4,a5⟩:=k1.trans k2;simp only[alf]at a1 a2 a3 a4;have hc:fC p (de t Bs C p).1.ad<=(de t Bs C p).1.ad.length:=al4;simp only[de];refine⟨a1.trans h1,a2.trans h2,ae,λe he=>(a5 e he).resolve_left aq⟩
end
section
variable (t:List Int) (root parts:D) (bg nb:Nat) (Bs:List (List Bool)) (g b a:Nat) (C:List aw)
def bSO (st:sR) (gb:Nat) (B:List Nat):List VL.Obj:=fP t root parts bg nb Bs g b a C st++[bG gb B,dG 10 gb B.length]
def Zi (st:sR) (gq:Nat) (rq:List Nat):List VL.Obj :=
 [dV t root parts bg nb,fW bg Bs,db g b a C,bG 0 st.ad,dK 0 3 C.length,cF 0 st.ho,dK 0 5 (t.length+1),bG gq rq,dG 10 st.gn st.rd.length,⟨0,true,1,[[Cb g C.length]]⟩,bG st.gn st.rd,dG 7 gq rq.length]
theorem Hv {p k n gq:Nat}{rq:List Nat}{st:sR} (h:MW t root parts bg nb Bs g b a C p k) (hn:n<C.length) (h1:st.ad.length=C.length) (h2:st.ho.length=t.length+1) (hu:fC p st.ad<=k) (hr:st.rd.length+fC p st.ad<=C.length) {K:V->List VL.Obj->Prop}
  (hk:K (.tu []) (Zi t root parts bg nb Bs g b a C (gH t Bs C p (k+1) n st) gq rq)) :
  av Tryz.prog 99 (ff g C.length n p) (Zi t root parts bg nb Bs g b a C st gq rq) K:=by
 have CX:∀st,(fP t root parts bg nb Bs g b a C st).map (ba [0,1,2,3,4,5,6,10,8,9])=[dV t root parts bg nb,fW bg Bs,db g b a C,bG 0 st.ad,dK 0 3 C.length,cF 0 st.ho,dK 0 5 (t.length+1),bG st.gn st.rd,dG 10 st.gn st.rd.length,⟨0,true,1,[[Cb g C.length]]⟩]:=by intro st;simp only[fP,ak8,ak9,kL,zV,fQ,oY];simp [ba,dV,dK,dG,Cb,aI,aI.go,i64]
 refine dD [0,1,2,3,4,5,6,10,8,9] (h n st hn h1 h2 hu hr) aF rfl ?_ eh eh (Pq t root parts bg nb Bs g b a C st) (r':=.tu []) rfl ?_
 ·have h3:(fP t root parts bg nb Bs g b a C st).map (λo=>some (ba [0,1,2,3,4,5,6,10,8,9] o))=((fP t root parts bg nb Bs g b a C st).map (ba [0,1,2,3,4,5,6,10,8,9])).map some:=by rw[alH];rfl
  rw[h3,CX];rfl
 ·rw[CX];exact hk
theorem Il (hg:fz t Bs C) (oK:nb=Bs.length) (ht:t.length<=1000000) (hC:0<C.length) :
  av Tryz.prog 62 [.rf 0 0 0 0,.so 2 g 0 C.length] [dV t root parts bg nb,fW bg Bs,db g b a C] λv s=>v=.so 3 0 0 (t.length+1)/\s=[dV t root parts bg nb,fW bg Bs,db g b a C,cF 0 (rC t Bs C)]:=by
 have mb:=Ao t.length false;have hlen:=hg.len;have w1:IntKind.i64.wrap ((t.length:Int)+1)=((t.length+1:Nat):Int):=by rw[bK _ ae];rfl
 simp only[i64,bV]at mb;refine OY Tryz.func62 rfl Tryz.ntmps62 Tryz.results62 rfl 3 258771785723 aq aq ?_;simp only[zX,simprocAttr,jK,rA,nz,wo,i64,bV,iD,bD,dV,ar,cA,aV,ak4,w1];have hcg:(db g b a C).g=g:=rfl;refine⟨⟨ae,ae,ae⟩,⟨ae,ae,ae⟩,?_⟩;refine dk mb ?_;simp only[zX,simprocAttr,jK,rA,nz,wo,i64,bV,iD,bD];refine tC.of 29 30 _ (Si t.length false) (t.length+1) (xE false t.length) (λi s=>∃B:List Nat,s=bSO t root parts bg nb Bs g b a C (de t Bs C i).1 (de t Bs C i).2 B)
  (λe=>e 0=.any/\e 5=.rf 6 0 0 0/\e 7=.rf 8 0 0 0/\e 8=.rf 11 0 0 0/\e 9=.rf 9 0 0 0/\e 29=.d (.cl (.func 118) [] (Si t.length false))/\∀t,[5,7,8,9,29].contains t=false->e t=.any)
  rfl rfl aF (J8 t.length ht false) ⟨_,_,(bO.On ((cr.bx 3 rfl rfl rfl).trans ((nY (pre:=[]) (post:=[]) 8 1 rfl rfl rfl).trans (nY (pre:=[]) (post:=[]) 9 1 rfl rfl rfl)))).trans (bO.FL [0,1,2,6,7,4,5,11,8,10,12,9] [5,7,8,9,29] eh),rfl,⟨rfl,rfl,rfl,rfl,rfl,rfl,λt ht=>ap (by rw[ht];exact alJ)⟩,?_⟩ ?_ ?_
 ·refine⟨[],?_⟩;have hr:∀n q,(⟨q,true,1,List.replicate n [V.d (D.sc (Value.bool false))]⟩:VL.Obj)=cF q (List.replicate n false):=λn q=>by simp [cF,bV,bD]
  have FB:([V.d (D.sc (Value.bool false))]::List.replicate t.length [V.d (D.sc (Value.bool false))])=List.replicate (t.length+1) [V.d (D.sc (Value.bool false))]:=rfl;have CX:∀n q,(⟨q,true,1,List.replicate n [V.d (D.sc (Value.int IntKind.i64 0))]⟩:VL.Obj)=bG q (List.replicate n 0):=λn q=>by simp [bG,i64]
  rw[FB];simp only[Ok,bU,List.getElem?_cons_succ,List.getElem?_cons_zero,alD,alA,ak8,ak9,P7,SG,List.map_replicate,pk,pk.go,ak5,ak6,alg,alf,
   mH,ama,alY,jQ,m7,rB,mD _ (rfl:List.idxOf? 0 [0,1,2,6,7,4,5,11,8,10,12,9]=some 0)]
  simp only[hr,CX,m7,rB,Fp,false_and,true_and,and_self,if_true,if_false,reduceIte];rfl
 ·rintro e ⟨f0,f5,f7,f8,f9,f29,fa⟩ i s hi ⟨B,rfl⟩;have hi':i<=t.length:=ae;have TW:xE false t.length i=(i:Int):=by simp only[xE,alk,if_false]
  rw[TW];obtain⟨tc,BT,Xs,hl4⟩:=yu t Bs C i;have G5:de t Bs C (i+1)=(gH t Bs C i (C.length+1) 0 (cZ t Bs C i (de t Bs C i).1.rd ⟨(de t Bs C i).1.ad,(de t Bs C i).1.ho,[],(de t Bs C i).2⟩),(de t Bs C i).1.gn):=rfl;rw[G5];generalize de t Bs C i=ST at *;obtain⟨⟨ad,ho,rd,gn⟩,gb⟩:=ST;simp only at tc BT Xs hl4 ⊢;simp only[zQ,simprocAttr,bSO,fP,f0,f5,f7,f8,f9,dK,dG,cA,aV];refine cP mix [3,4] [] ?_;have e1:∀q l,(bG q l).g=q:=λ_ _=>rfl;have e2:∀q l,(bG q l).sz=1:=λ_ _=>rfl;have e3:∀q l,(bG q l).aA.length=l.length:=λ_ _=>by simp [bG]
  simp only[zQ,simprocAttr,f0,f5,f7,f8,f9,cA,aV,ak4,alc,e1,e2,e3,ale,and_self,true_and];have hfl:=qQ t Bs C i;have YB:∀e∈rd,e+1<C.length:=λe he=>by
   have h1:=hl4 e he;refine hg.next e ?_ (.inl h1);refine Decidable.byContradiction λgE=>?_;have:bH C e=⟨0,0,0,0,none⟩:=by unfold bH;rw[List.getD_eq_getElem?_getD,List.getElem?_eq_none ae];rfl
   rw[this]at h1;cases h1
  refine ay (λn e' s=>∃m:Nat,n=rd.length-m/\m<=rd.length/\e' 0=.any/\e' 9=.rf 9 0 0 0/\e' 10=i64 i/\e' 34=.so 7 gn 0 rd.length/\e' 35=i64 rd.length/\e' 36=i64 m/\s=Zi t root parts bg nb Bs g b a C (cZ t Bs C i (rd.take m) ⟨ad,ho,[],gb⟩) gn rd)
   ⟨_,_,_,aaq 10 rfl,0,rfl,ae,f0,f9,rfl,rfl,rfl,rfl,eh⟩ ?_
  rintro n e' s ⟨m,rfl,hm,q0,q9,jd,q34,q35,q36,rfl⟩;have hfl:=qQ t Bs C i (rd.take m) ⟨ad,ho,[],gb⟩;have hcN:fC i ad<=ad.length:=al4;obtain⟨a1,a2,a3,a4,_⟩:=hfl;simp only[alf]at a1 a2 a3 a4;rcases alw m rd.length with aE|gE
  ·have aH:(m:Int)<(rd.length:Int):=by omega
   obtain⟨x,hx⟩:∃x,rd[m]?=some x:=cb aE;have hxC:=YB x (List.mem_of_getElem? hx);have hw:IntKind.i64.wrap ((x:Int)+1)=((x+1:Nat):Int):=by rw[bK _ ae];rfl
   have Dm:(0:Int)<=(m:Int):=ae;have hc:=λK hk=>Hv t root parts bg nb Bs g b a C (JC t root parts bg nb Bs g b a C i hg oK ht ae C.length) (n:=x+1) (st:=cZ t Bs C i (rd.take m) ⟨ad,ho,[],gb⟩) hxC ae ae ae ae (gq:=gn) (rq:=rd) (K:=K) hk;rw[<- IZ,<- bn hx]at hc;generalize Dt:cZ t Bs C i (rd.take (m+1)) ⟨ad,ho,[],gb⟩=E2 at *;unfold ff Zi at hc;have hxm:(bG gn rd).aA[m]?=some [i64 (x:Int)]:=by simp [bG,hx]
   simp only[i64]at hxm;simp only[zQ,simprocAttr,Zi,dK,dG,q0,q9,jd,q34,q35,q36,Cb,cA,aV,aH,aE,Dm,e1,e2,e3,ak7,alc,hxm,hw,ak5,ak6];refine hc _ ?_;simp only[zQ,simprocAttr,q0,q9,jd,q34,q35,q36,cA,aV,ak5,ak6];refine⟨rd.length-(m+1),_,_,ae,bO.refl,m+1,rfl,aE,?_,?_,?_,?_,?_,?_,by rw[Dt];rfl⟩ <;> (try simp only[zU,Ft,qa,qe,Fp,reduceIte])
   ·exact q0
   ·exact q9
   ·exact jd
   ·exact q34
   ·exact q35
   ·rw[bK _ ae];rfl
  ·have UX:m=rd.length:=by omega
   subst UX;rw[alr]at *;have hc:=λK hk=>Hv t root parts bg nb Bs g b a C (JC t root parts bg nb Bs g b a C i hg oK ht ae C.length) (n:=0) (st:=cZ t Bs C i rd ⟨ad,ho,[],gb⟩) hC ae ae ae ae (gq:=gn) (rq:=rd) (K:=K) hk;generalize gH t Bs C i (C.length+1) 0 (cZ t Bs C i rd ⟨ad,ho,[],gb⟩)=E2 at *;unfold ff Zi at hc;simp only[zQ,simprocAttr,Zi,dK,dG,q0,q9,jd,q34,q35,q36,Cb,cA,aV,alZ,ak5,ak6];refine hc _ ?_;simp only[zQ,simprocAttr,q0,q9,jd,q34,q35,q36,cA,aV,ak5,ak6];have Hl:Og [0,1,2,3,4,5,6,10,8,9,7,11] [5,7,8,9,29] e=e:=by
    refine Hx fa ?_;intro x hx;simp only[alT,amc,or_false]at hx;rcases hx with rfl|rfl|rfl|rfl|rfl
    ·rw[f5];rfl
    ·rw[f7];rfl
    ·rw[f8];rfl
    ·rw[f9];rfl
    ·rw[f29];rfl
   refine⟨_,bO.MY [0,1,2,3,4,5,6,10,8,9,7,11] _ eh Hl,rd,?_⟩;simp only[mH,ak8,ak9,ama,alY,jQ,m7,rB,mD _ (rfl:List.idxOf? 0 [0,1,2,3,4,5,6,10,8,9,7,11]=some 0)];rfl
 ·rintro e ⟨f0,f5,f7,f8,f9,f29,fa⟩ s ⟨B,rfl⟩;simp only[zX,simprocAttr,bSO,fP,dK,f0,f5,tV,xF];refine⟨[0,1,2,5],rfl,?_⟩;simp only[mH,ak8,ak9,ama,alY,jQ,m7,mD _ (rfl:List.idxOf? 0 [0,1,2,5]=some 0)];exact⟨rfl,rfl⟩
end
section
variable (t:List Int) (root parts:D) (bg nb:Nat) (Bs:List (List Bool)) (b a:Nat)
def wO (C:List aw):List VL.Obj:=[dV t root parts bg nb,fW bg Bs,pR 5 C.length,
 ⟨0,true,1,[[.cl (.func 63) [] [.rf 2 0 0 0]]]⟩,
 ⟨0,true,1,[[.cl (.func 64) [] [.rf 3 0 0 0,mB b a,.rf 4 0 0 0,.rf 2 0 0 0]]]⟩,db C.length b a C]
omit t root parts bg nb Bs in
def dR (re:Re) (k:Nat):List V:=[.d (re.bA k),.rf 3 0 0 0,mB b a,.rf 4 0 0 0,.rf 2 0 0 0]
omit t root parts bg nb Bs b a in
def OR (re:Re):Bool:=decide ((re.op=4\/re.op=5->re.kids.length=1)/\(re.op=3->1<=re.kids.length)/\re.kids.length<=1000000/\0<=re.mn/\re.mn<=1000000/\-1<=re.mx/\re.mx<=1000000/\0<=re.n/\re.n<=1000000)
omit t root parts bg nb Bs b a in
theorem ta {re:Re}:OR re=true ↔ (re.op=4\/re.op=5->re.kids.length=1)/\(re.op=3->1<=re.kids.length)/\re.kids.length<=1000000/\0<=re.mn/\re.mn<=1000000/\-1<=re.mx/\re.mx<=1000000/\0<=re.n/\re.n<=1000000:=by unfold OR;rw[decide_eq_true_eq]
def zP (re:Re):Prop:=∀(k:Nat) (C:List aw),C.length+re.dp<=1000000000000 ->
 av Tryz.prog 64 (dR b a re k) (wO t root parts bg nb Bs b a C) λv s=>v=.tu []/\s=wO t root parts bg nb Bs b a (re.emit k C)
theorem Np (C:List aw):(wO t root parts bg nb Bs b a C).map (ba [0,1,2,3,4,5])=wO t root parts bg nb Bs b a C:=by simp only[wO,ak8,ak9,kL,fQ];simp [ba,dV,pR,mB,aI,aI.go]
theorem y4 (C:List aw):(wO t root parts bg nb Bs b a C).all (aY 6)=true:=by have:=hU 6 bg Bs;simp only[wO,alR,alW,kR 6 _ _ _ ae,alp];simp [aY,dV,pR,mB,ak,ak.go,this]
variable {t root parts bg nb Bs b a}
variable{K:V->List VL.Obj->Prop}{C:List aw}{tl:List VL.Obj}
theorem XA {f:FuncId}{args:List V}{r:V}{C':List aw} (h:av Tryz.prog f args (wO t root parts bg nb Bs b a C) λv s=>v=r/\s=wO t root parts bg nb Bs b a C') (ha:args=args.map (aI [0,1,2,3,4,5])) (xj:ak.go 6 args=true) (hr:aI [0,1,2,3,4,5] r=r)
  (hk:K r (wO t root parts bg nb Bs b a C'++tl)):av Tryz.prog f args (wO t root parts bg nb Bs b a C++tl) K:=by
 have CX:=Np t root parts bg nb Bs b a C';refine dD [0,1,2,3,4,5] h aF rfl ?_ ha xj (y4 t root parts bg nb Bs b a C) (r':=r) hr ?_
 ·have:=Np t root parts bg nb Bs b a C;have h2:(wO t root parts bg nb Bs b a C).map (λo=>some (ba [0,1,2,3,4,5] o))=((wO t root parts bg nb Bs b a C).map (ba [0,1,2,3,4,5])).map some:=by rw[alH];rfl
  rw[h2,this];rfl
 ·rw[CX];exact hk
theorem Bo (hC:C.length<=1000000000000) (x:aw) (hk:K (i64 C.length) (wO t root parts bg nb Bs b a (C++[x])++tl)):av Tryz.prog 63 [tS b a x,.rf 2 0 0 0] (wO t root parts bg nb Bs b a C++tl) K:=by
 have e0:∀n,ba [0,1,2,5] (pR 3 n)=pR 5 n:=λn=>by simp [ba,pR,aI,aI.go]
 have e1:ba [0,1,2,5] (dV t root parts bg nb)=dV t root parts bg nb:=rfl;have hb:=hU 4 bg Bs;refine dD [0,1,2,5] (V9 t root parts bg nb Bs b a C hC x) aq eh ?_ ?_ ?_ ?_ (r':=i64 C.length) rfl ?_
 ·simp only[ak8,ak9,e0,e1,kL,fQ];rfl
 ·simp [tS,aw.cells,Hj,aI,aI.go,i64]
 ·simp [tS,aw.cells,LB 4 b a ae,ak,ak.go,i64]
 ·simp only[alR,alW,alg,alf,alc,Fq,kR 4 _ _ _ ae,alp];simp [aY,pR,dV,ak,hb]
 ·simp only[ak8,ak9,e0,e1,kL,fQ,aT,wO,ak5,ak6,alA,alD];simpa [wO]using hk
theorem kQ (hC:C.length<=1000000000000) (op x y n:Int) (hk:K (i64 C.length) (wO t root parts bg nb Bs b a (C++[⟨op,x,y,n,none⟩])++tl)):av Tryz.prog 63 [.ag [i64 op,i64 x,i64 y,i64 n,.d (.sc .nilFunc)],.rf 2 0 0 0] (wO t root parts bg nb Bs b a C++tl) K :=
 Bo hC ⟨op,x,y,n,none⟩ hk
theorem adG (C:List aw) (v:V) (tl:List VL.Obj):Ok 6 0 v (wO t root parts bg nb Bs b a C++(⟨0,true,1,[[v]]⟩:VL.Obj)::tl)=wO t root parts bg nb Bs b a C++(⟨0,false,1,[[pk 6 0 v v]]⟩:VL.Obj)::(tl.map λo=>{ o with aA:=o.aA.map λc=>c.map (pk 6 0 v) }):=by have e1:=P7 6 0 v bg Bs;have e2:=SG 6 0 v C.length b a C;simp only[wO,Ok,bU,ak5,ak6,List.getElem?_cons_succ,List.getElem?_cons_zero,alD,alA,ak8,ak9,e1,e2];rfl
theorem wG (hC:C.length<=1000000000000) (x:aw) (d:D) (arg:V) (AF:pk 6 0 (.d d) arg=tS b a x) (hk:K (i64 C.length) (wO t root parts bg nb Bs b a (C++[x])++[⟨0,false,1,[[.d d]]⟩])) :
  av Tryz.prog 63 [arg,.rf 2 0 0 0] (wO t root parts bg nb Bs b a C++[⟨0,true,1,[[.d d]]⟩]) K:=by
 refine PI (o:=⟨0,true,1,[[.d d]]⟩) (v:=.d d) 6 rfl rfl rfl ?_;have h1:([arg,.rf 2 0 0 0].map (pk 6 (⟨0,true,1,[[.d d]]⟩:VL.Obj).g (.d d)))=[tS b a x,.rf 2 0 0 0]:=by show [pk 6 0 (.d d) arg,_]=_;rw[AF];rfl
 rw[h1];have h2:=adG (t:=t) (root:=root) (parts:=parts) (bg:=bg) (nb:=nb) (Bs:=Bs) (b:=b) (a:=a) C (.d d) [];rw[show (⟨0,true,1,[[.d d]]⟩:VL.Obj).g=0 from rfl,h2];exact Bo hC x hk
end
structure kz where
 op:Int
 x:Int
 y:Int
 n:Int
 set:List (Int×Int)
def kz.cells (i:kz):List D:=[iD i.op,iD i.x,iD i.y,iD i.n,.sl (i.set.map aU)]
structure Nj where
 ins:List kz
 aj:Int
 aM:Bool
def Nj.cells (g:Nj):List D:=[.sl (g.ins.map kz.cells),iD g.aj,bD g.aM]
def OJ (g:Nj):V:=.ag (g.cells.map .d)
theorem Qc (g:Nj):OJ g=.ag [.d (.sl (g.ins.map kz.cells)),.d (iD g.aj),.d (bD g.aM)]:=rfl
mutual
def Re.comp:Re->List Int->Bool
 |.mk op _ kids _ _ mode n _,a =>
  if op=4/\(mode=2\/Re.qb kids=true) then false
  else if op=5/\n∈a then false
  else if 5<op/\op≠11 then false
  else Re.Lq kids (if op=5 then a++[n] else a)
def Re.Lq:List Re->List Int->Bool
 |[],_=>true
 |k::l,a=>k.comp a&&Re.Lq l a
end
theorem Re.Ih:∀(l:List Re) (a:List Int),Re.Lq l a=l.all λk=>k.comp a
 |[],_=>by simp [Re.Lq]
 |k::l,a=>by simp [Re.Lq,Re.Ih l a]
theorem Re.wu (re:Re) (a:List Int):re.comp a=if re.op=4/\(re.mode=2\/Re.qb re.kids=true) then false
  else if re.op=5/\re.n∈a then false
  else if 5<re.op/\re.op≠11 then false
  else re.kids.all λk=>k.comp (if re.op=5 then a++[re.n] else a):=by
 cases re;simp only[Re.comp,Re.Ih,Re.op,Re.kids,Re.mode,Re.n];rfl
def JK (op mn mx:Int) (k n:Int):Int :=
 min (if op=1\/op=11 then 1 else if op=3 then n+2*k-2 else if op=5 then n+2 else if op=4 then (if mx=-1 then (mn+1)*n+2 else mx*n+mx-mn) else n) 10000
mutual
def Re.kx:Re->Int
 |.mk op _ kids mn mx _ _ _=>JK op mn mx kids.length (Re.gy kids)
def Re.gy:List Re->Int
 |[]=>0
 |k::l=>k.kx+Re.gy l
end
theorem Re.I1 (re:Re):re.kx=JK re.op re.mn re.mx re.kids.length (Re.gy re.kids):=by
 cases re;simp only[Re.kx,Re.op,Re.kids,Re.mn,Re.mx]
theorem Re.Bw:∀(l:List Re) (k:Re),Re.gy (l++[k])=Re.gy l+k.kx
 |[],k=>by simp [Re.gy]
 |x::l,k=>by simp only[ak5,Re.gy,Re.Bw l k];omega
def LV (x:Int):kz:=⟨3,x,0,0,[]⟩
def Ix (n:Int):kz:=⟨4,0,0,n,[]⟩
def zx (mode a b:Int):kz:=if mode=1 then ⟨2,b,a,0,[]⟩ else ⟨2,a,b,0,[]⟩
def gD (c:Int->List kz):Nat->Int->List kz
 |0,_=>[]
 |k+1,f=>gD c k f++c (f+(gD c k f).length)
def gv (c:Int->List kz) (mode:Int) (fin:Int):Nat->Int->List kz
 |0,_=>[]
 |k+1,f=>gv c mode fin k f++zx mode (f+(gv c mode fin k f).length+1) fin::c (f+(gv c mode fin k f).length+1)
def Sd (c:Int->List kz) (mn mx mode sz:Int) (f:Int):List kz :=
 let pre:=gD c mn.toNat f
 if mx=-1 then
  let aJ:=c (f+pre.length+1)
  pre++zx mode (f+pre.length+1) (f+pre.length+aJ.length+2)::(aJ++[LV (f+pre.length)])
 else pre++gv c mode (f+sz) (mx-mn).toNat (f+pre.length)
mutual
def Re.code:Re->Int->List kz
 |.mk op set kids mn mx mode n _,f =>
  if op=1 then [⟨1,0,0,0,set⟩] else if op=11 then [⟨5,0,0,n,[]⟩] else if op=2 then Re.ez kids f
  else if op=3 then Re.fg kids f
  else if op=5 then Ix (2*n-2)::(Re.Ej kids (f+1)++[Ix (2*n-1)])
  else if op=4 then Sd (λi=>Re.Ej kids i) mn mx mode (JK op mn mx kids.length (Re.gy kids)) f
  else []
def Re.ez:List Re->Int->List kz
 |[],_=>[]
 |k::l,f=>k.code f++Re.ez l (f+(k.code f).length)
def Re.fg:List Re->Int->List kz
 |[],_=>[]
 |k::l,f=>match l with
  |[]=>k.code f
  |_::_=>zx 0 (f+1) (f+(k.code (f+1)).length+2)::(k.code (f+1)++LV (f+(k.code (f+1)).length+2+(Re.fg l (f+(k.code (f+1)).length+2)).length)::Re.fg l (f+(k.code (f+1)).length+2))
def Re.Ej:List Re->Int->List kz
 |[],_=>[]
 |k::_,f=>k.code f
end
theorem Re.oz (re:Re) (f:Int):re.code f=if re.op=1 then [⟨1,0,0,0,re.set⟩] else if re.op=11 then [⟨5,0,0,re.n,[]⟩] else if re.op=2 then Re.ez re.kids f
  else if re.op=3 then Re.fg re.kids f
  else if re.op=5 then Ix (2*re.n-2)::(Re.Ej re.kids (f+1)++[Ix (2*re.n-1)])
  else if re.op=4 then Sd (λi=>Re.Ej re.kids i) re.mn re.mx re.mode re.kx f
  else []:=by
 cases re;rw[Re.code,Re.kx];rfl
theorem Re.zZ:∀(l:List Re) (k:Re) (f:Int),Re.ez (l++[k]) f=Re.ez l f++k.code (f+(Re.ez l f).length)
 |[],k,f=>by simp [Re.ez]
 |x::l,k,f=>by simp only[ak5,Re.ez,Re.zZ l k,alx,ald];congr 3;omega
theorem UU (l:List Int) (x:Int) (hl:l.length<=1000000000):aS prog 76 [.d (ar l),i64 x] (bV (decide (x∈l))):=by
 refine br func76 ntmps76 results76 0 51 ?_;simp only[zX,simprocAttr,i64];refine ay (λn e s=>∃i:Nat,n=l.length-i/\i<=l.length/\e 0=.d (ar l)/\e 1=i64 x/\e 5=i64 i/\s=[]/\x ∉ l.take i)
  ⟨_,_,_,bO.refl,0,rfl,ae,rfl,rfl,rfl,rfl,aq⟩ ?_
 rintro n e s ⟨i,rfl,hi,h0,h1,h5,rfl,iL⟩;rcases alw i l.length with aE|gE
 ·obtain⟨y,hy⟩:∃y,l[i]?=some y:=cb aE;by_cases So:y=x
  ·simp only[zI,simprocAttr,ar,iD,h0,h1,h5,aE,hy,So];rw[bi (by rw[<- So];exact List.mem_of_getElem? hy)];all_goals exact dX
  ·simp only[zI,simprocAttr,ar,iD,h0,h1,h5,aE,hy,So];refine⟨l.length-(i+1),_,_,ae,bO.refl,i+1,rfl,aE,?_,?_,?_,rfl,by rw[bn hy];simp [iL,Ne.symm So]⟩ <;> (try simp only[zU,Ft,qa,qe,Fp,reduceIte])
   ·exact h0
   ·exact h1
   ·rw[bK _ ae];rfl
 ·have eg:i=l.length:=by omega
  subst eg;rw[alr]at iL;simp only[zI,simprocAttr,ar,iD,h0,h1,h5,al5];rw[ce iL];all_goals exact dX
end Go.Proofs.YtjjfioalgbecmaaGreat
