/- A part of the proof (O10 O1 O2 O8). -/
import Derived.RangeFuncKeeps
import Derived.RangeFuncLeaves
import Derived.Shelf.Abstract
import Derived.WalkKit
import Derived.OwnWalkIn
import Derived.TacticsInMore
import Derived.LoopNIn
import Derived.LoopIn
import Derived.Test.YtfmdmlfhigocaaaProg
import Derived.Test.YtfmdmlfhigocaaaOR13
import Derived.Test.YtfmdmlfhigocaaaOR26
import Derived.Test.YtfmdmlfhigocaaaOR29
set_option linter.unusedSimpArgs false
set_option linter.unusedVariables false
open Int renaming reduceEq → jT
set_option maxRecDepth 100000
set_option maxHeartbeats 80000000
namespace Go.Proofs.Ytfmdmlfhigocaaa
open Go.VL
theorem jY (l:List Nat) (n:Nat) (x:Nat):(l.map λ(x:Nat)=>[V.d (D.sc (Value.int IntKind.i64 (x:Int)))]).set n [V.d (D.sc (Value.int IntKind.i64 (x:Int)))]=(l.set n x).map λ(x:Nat)=>[V.d (D.sc (Value.int IntKind.i64 (x:Int)))]:=by rw[akv]
section
variable (t:List Int) (root parts:D) (bg nb:Nat) (Bs:List (List Bool)) (g b a:Nat) (C:List au) (p:Nat)
theorem JV (hg:fw t Bs C) (oM:nb=Bs.length) (ht:t.length<=1000000) (hp:p<=t.length) (k:Nat) (IH:∀j,j+1=k->Mx t root parts bg nb Bs g b a C p j):Mx t root parts bg nb Bs g b a C p k:=by
 intro n st hn h1 h2 hu H6;have ZO:=hg.len;have js:(n:Int)<(C.length:Int):=ae;have ie:(0:Int)<=(n:Int):=ae;have kx:n<st.ad.length:=ae;have tP:IntKind.i64.wrap ((p:Int)+1)=((p+1:Nat):Int):=by rw[bF _ ae];rfl
 have gR:=ij 10 bg Bs;have kX:((dK t root parts bg nb).aw.all λe=>e.all (ak 10))=true:=rfl;have kQ:((C.map (au.cells b a)).all λe=>e.all (ak 10))=true:=ll 10 g b a ae C;have hB:∀l:List Bool,((l.map λb=>[V.d (D.sc (Value.bool b))]).all λe=>e.all (ak 10))=true:=λl=>Dd 10 0 l;have tG:∀l:List Nat,((l.map λ(x:Nat)=>[V.d (D.sc (Value.int IntKind.i64 (x:Int)))]).all λe=>e.all (ak 10))=true:=λl=>oF 10 0 l;obtain⟨x,hx⟩:∃x,st.ad[n]?=some x:=bZ kx;obtain⟨i,hi⟩:∃i,C[n]?=some i:=bZ hn;have lP:bz C n=i:=by unfold bz;rw[aja,hi];rfl
 by_cases Vm:x=p+1
 ·subst Vm;have hr:gJ t Bs C p (k+1) n st=st:=by rw[gJ,be (.inr hx)]
  rw[hr];unfold eW fM;refine bk Try.func85 Try.ntmps85 Try.results85 10 134218367 ?_;simp only[zQ,simprocAttr,eW,fM,cf,aQ,dF,dB,cx,bw,B4,cP,js,ie,kx,hn,h1,h2,ai1,aiW,aiY,hx,hi,ai3,ai7,au.cells,jY,iq,kX,gR,kQ,hB,tG,ajk,aiX,ai0,ajp,tP]
 have wW:((x:Int)=((p+1:Nat):Int))=False:=eq_false ae;have hu1:=rI hx Vm;have hup:=KC hx Vm;have KB:gJ t Bs C p (k+1) n st=(let dM:sC:=⟨st.ad.set n (p+1),st.ho,st.rd,st.gn⟩
  if i.op=0 then ⟨dM.ad,dM.ho.set p true,dM.rd,dM.gn⟩
  else if i.op=1 then (if i.pass t Bs p=true then ⟨dM.ad,dM.ho,dM.rd++[n],dM.gn+1⟩ else dM)
  else if i.op=2 then gJ t Bs C p k i.y.toNat (gJ t Bs C p k i.x.toNat dM)
  else if i.op=3 then gJ t Bs C p k i.x.toNat dM
  else if i.op=4 then gJ t Bs C p k (n+1) dM
  else if i.op=5 then (if i.pass t Bs p=true then gJ t Bs C p k (n+1) dM else dM)
  else dM):=by rw[gJ,ap (by rw[hx];rintro (h|h) <;> simp at h;exact Vm h),lP]
 simp only at KB;rw[KB];by_cases o0:i.op=0
 ·have hph:p<st.ho.length:=by omega
  have hpT:(p:Int)<((t.length+1:Nat):Int):=ae;have Qj:(0:Int)<=(p:Int):=ae;simp only[o0,reduceIte];unfold eW fM;refine bk Try.func85 Try.ntmps85 Try.results85 10 134218367 ?_;obtain⟨z,hz⟩:∃z,st.ho[p]?=some z:=bZ hph;simp only[zQ,simprocAttr,eW,fM,cf,aQ,dF,dB,cx,bw,B4,cP,js,ie,kx,hn,h1,h2,ai1,aiW,aiY,hx,hi,ai3,ai7,au.cells,jY,iq,kX,gR,kQ,hB,tG,ajk,aiX,ai0,ajp,tP,wW,o0,hph,hpT,Qj,h1,h2,hz]
 obtain⟨j,rfl⟩:∃j,k=j+1:=⟨k-1,ae⟩
 have UK:=λ(m:Nat) (hm:m<C.length) (tl:List VL.Obj) (K:V->List VL.Obj->Prop) hk=>GU (IH j rfl) (n:=m) (st:=⟨st.ad.set n (p+1),st.ho,st.rd,st.gn⟩) hm (by simpa using h1) h2 oG oG (tl:=tl) (K:=K) hk;have hlen:=λm=>CD t Bs C p (j+1) m ⟨st.ad.set n (p+1),st.ho,st.rd,st.gn⟩;by_cases o3:i.op=3
 ·obtain⟨x0,x1⟩:=hg.jump n hn (by rw[lP];exact o3);rw[lP]at x0 x1;obtain⟨X,hX⟩:∃X:Nat,i.x=X:=⟨i.x.toNat,ae⟩
  have Cg:X<C.length:=ae;have hc:=UK X Cg [⟨0,true,5,[[i64 3,i64 X,i64 i.y,i64 i.n,cq b a i.node]]⟩];simp only[o3,hX,jT,reduceIte,ai1];generalize gJ t Bs C p (j+1) X ⟨st.ad.set n (p+1),st.ho,st.rd,st.gn⟩=R at *;unfold eW fM at hc;unfold eW fM;refine bk Try.func85 Try.ntmps85 Try.results85 10 134218367 ?_;simp only[zQ,simprocAttr,eW,fM,cf,aQ,dF,dB,cx,bw,B4,cP,js,ie,kx,hn,h1,h2,ai1,aiW,aiY,hx,hi,ai3,ai7,au.cells,jY,iq,kX,gR,kQ,hB,tG,ajk,aiX,ai0,ajp,tP,wW,o3,hX];refine hc _ ?_;simp only[zQ,simprocAttr,eW,fM,cf,aQ,dF,dB,cx,bw,B4,cP,js,ie,kx,hn,h1,h2,ai1,aiW,aiY,hx,hi,ai3,ai7,au.cells,jY,iq,kX,gR,kQ,hB,tG,ajk,aiX,ai0,ajp,tP,wW,o3,hX]
 by_cases o4:i.op=4
 ·have Cg:=hg.next n hn (by rw[lP];exact .inr (.inl o4));have hw:IntKind.i64.wrap ((n:Int)+1)=((n+1:Nat):Int):=by rw[bF _ ae];rfl
  have hc:=UK (n+1) Cg [⟨0,true,5,[[i64 4,i64 i.x,i64 i.y,i64 i.n,cq b a i.node]]⟩];simp only[o4,jT,reduceIte];generalize gJ t Bs C p (j+1) (n+1) ⟨st.ad.set n (p+1),st.ho,st.rd,st.gn⟩=R at *;unfold eW fM at hc;unfold eW fM;refine bk Try.func85 Try.ntmps85 Try.results85 10 134218367 ?_;simp only[zQ,simprocAttr,eW,fM,cf,aQ,dF,dB,cx,bw,B4,cP,js,ie,kx,hn,h1,h2,ai1,aiW,aiY,hx,hi,ai3,ai7,au.cells,jY,iq,kX,gR,kQ,hB,tG,ajk,aiX,ai0,ajp,tP,wW,o4,hw];refine hc _ ?_;simp only[zQ,simprocAttr,eW,fM,cf,aQ,dF,dB,cx,bw,B4,cP,js,ie,kx,hn,h1,h2,ai1,aiW,aiY,hx,hi,ai3,ai7,au.cells,jY,iq,kX,gR,kQ,hB,tG,ajk,aiX,ai0,ajp,tP,wW,o4,hw]
 by_cases o1:i.op=1
 ·obtain⟨VS,ai,nY,vO,uz,tF⟩:=rE t root parts bg nb Bs b a C hg oM ht hn (.inl (by rw[lP];exact o1)) p hp;rw[lP]at nY tF;simp only[o1,jT,reduceIte];generalize i.pass t Bs p=y at *;cases y with
  |true =>
   simp only[reduceIte];unfold eW fM;refine bk Try.func85 Try.ntmps85 Try.results85 10 134218367 ?_;simp only[zQ,simprocAttr,eW,fM,cf,aQ,dF,dB,cx,bw,B4,cP,js,ie,kx,hn,h1,h2,ai1,aiW,aiY,hx,hi,ai3,ai7,au.cells,jY,iq,kX,gR,kQ,hB,tG,ajk,aiX,ai0,ajp,tP,wW,o1,nY];refine ez t root parts bg nb Bs tF ?_ ?_ rfl rfl rfl ?_
   ·simp [aS,i64,uz]
   ·simp [ak,ak.go,i64,vO]
   simp only[zQ,simprocAttr,eW,fM,cf,aQ,dF,dB,cx,bw,B4,cP,js,ie,kx,hn,h1,h2,ai1,aiW,aiY,hx,hi,ai3,ai7,au.cells,jY,iq,kX,gR,kQ,hB,tG,ajk,aiX,ai0,ajp,tP,wW,o1,nY];have hT:List.take st.rd.length (st.rd.map λ(x:Nat)=>[V.d (D.sc (Value.int IntKind.i64 (x:Int)))])++[[V.d (D.sc (Value.int IntKind.i64 (n:Int)))]]=(st.rd++[n]).map λ(x:Nat)=>[V.d (D.sc (Value.int IntKind.i64 (x:Int)))]:=by rw[ajb (by rw[aiW];exact ajc _)];simp
   rw[hT];have hcN:fy p st.ad<=st.ad.length:=ajY;refine⟨λe he=>by rw[List.mem_singleton.1 he];rfl,⟨ajc _,ae⟩,tG _,?_⟩;rw[ai6];rfl
  |false =>
   simp only[ajf,reduceIte];unfold eW fM;refine bk Try.func85 Try.ntmps85 Try.results85 10 134218367 ?_;simp only[zQ,simprocAttr,eW,fM,cf,aQ,dF,dB,cx,bw,B4,cP,js,ie,kx,hn,h1,h2,ai1,aiW,aiY,hx,hi,ai3,ai7,au.cells,jY,iq,kX,gR,kQ,hB,tG,ajk,aiX,ai0,ajp,tP,wW,o1,nY];refine ez t root parts bg nb Bs tF ?_ ?_ rfl rfl rfl ?_
   ·simp [aS,i64,uz]
   ·simp [ak,ak.go,i64,vO]
   simp only[zQ,simprocAttr,eW,fM,cf,aQ,dF,dB,cx,bw,B4,cP,js,ie,kx,hn,h1,h2,ai1,aiW,aiY,hx,hi,ai3,ai7,au.cells,jY,iq,kX,gR,kQ,hB,tG,ajk,aiX,ai0,ajp,tP,wW,o1,nY]
 by_cases o5:i.op=5
 ·obtain⟨VS,ai,nY,vO,uz,tF⟩:=rE t root parts bg nb Bs b a C hg oM ht hn (.inr (by rw[lP];exact o5)) p hp;have Cg:=hg.next n hn (by rw[lP];exact .inr (.inr o5));have hw:IntKind.i64.wrap ((n:Int)+1)=((n+1:Nat):Int):=by rw[bF _ ae];rfl
  rw[lP]at nY tF;have hc:=UK (n+1) Cg [⟨0,true,5,[[i64 5,i64 i.x,i64 i.y,i64 i.n,.cl (.func VS) [] ai]]⟩];simp only[o5,jT,reduceIte];generalize i.pass t Bs p=y at *;cases y with
  |true =>
   simp only[reduceIte];generalize gJ t Bs C p (j+1) (n+1) ⟨st.ad.set n (p+1),st.ho,st.rd,st.gn⟩=R at *;unfold eW fM at hc;unfold eW fM;refine bk Try.func85 Try.ntmps85 Try.results85 10 134218367 ?_;simp only[zQ,simprocAttr,eW,fM,cf,aQ,dF,dB,cx,bw,B4,cP,js,ie,kx,hn,h1,h2,ai1,aiW,aiY,hx,hi,ai3,ai7,au.cells,jY,iq,kX,gR,kQ,hB,tG,ajk,aiX,ai0,ajp,tP,wW,o5,nY,hw];refine ez t root parts bg nb Bs tF ?_ ?_ rfl rfl rfl ?_
   ·simp [aS,i64,uz]
   ·simp [ak,ak.go,i64,vO]
   simp only[zQ,simprocAttr,eW,fM,cf,aQ,dF,dB,cx,bw,B4,cP,js,ie,kx,hn,h1,h2,ai1,aiW,aiY,hx,hi,ai3,ai7,au.cells,jY,iq,kX,gR,kQ,hB,tG,ajk,aiX,ai0,ajp,tP,wW,o5,nY,hw];refine hc _ ?_;simp only[zQ,simprocAttr,eW,fM,cf,aQ,dF,dB,cx,bw,B4,cP,js,ie,kx,hn,h1,h2,ai1,aiW,aiY,hx,hi,ai3,ai7,au.cells,jY,iq,kX,gR,kQ,hB,tG,ajk,aiX,ai0,ajp,tP,wW,o5,nY,hw]
  |false =>
   simp only[ajf,reduceIte];unfold eW fM;refine bk Try.func85 Try.ntmps85 Try.results85 10 134218367 ?_;simp only[zQ,simprocAttr,eW,fM,cf,aQ,dF,dB,cx,bw,B4,cP,js,ie,kx,hn,h1,h2,ai1,aiW,aiY,hx,hi,ai3,ai7,au.cells,jY,iq,kX,gR,kQ,hB,tG,ajk,aiX,ai0,ajp,tP,wW,o5,nY];refine ez t root parts bg nb Bs tF ?_ ?_ rfl rfl rfl ?_
   ·simp [aS,i64,uz]
   ·simp [ak,ak.go,i64,vO]
   simp only[zQ,simprocAttr,eW,fM,cf,aQ,dF,dB,cx,bw,B4,cP,js,ie,kx,hn,h1,h2,ai1,aiW,aiY,hx,hi,ai3,ai7,au.cells,jY,iq,kX,gR,kQ,hB,tG,ajk,aiX,ai0,ajp,tP,wW,o5,nY]
 by_cases o2:i.op=2
 ·obtain⟨x0,x1,y0,y1⟩:=hg.split n hn (by rw[lP];exact o2);rw[lP]at x0 x1 y0 y1;obtain⟨X,hX⟩:∃X:Nat,i.x=X:=⟨i.x.toNat,ae⟩
  obtain⟨Y,hY⟩:∃Y:Nat,i.y=Y:=⟨i.y.toNat,ae⟩
  have Cg:X<C.length:=ae;have hYC:Y<C.length:=ae;have hc:=UK X Cg [⟨0,true,5,[[i64 2,i64 X,i64 Y,i64 i.n,cq b a i.node]]⟩];have hl:=hlen X;simp only[o2,hX,hY,jT,reduceIte,ai1];generalize gJ t Bs C p (j+1) X ⟨st.ad.set n (p+1),st.ho,st.rd,st.gn⟩=R at *;obtain⟨l1,l2,l3,l4,_⟩:=hl;simp only[ajp]at l1 l2 l3 l4;have uz:=λ(K:V->List VL.Obj->Prop) hk=>GU (IH j rfl) (n:=Y) (st:=R) hYC ae ae ae ae (tl:=[⟨0,true,5,[[i64 2,i64 X,i64 Y,i64 i.n,cq b a i.node]]⟩]) (K:=K) hk;generalize gJ t Bs C p (j+1) Y R=R2 at *;unfold eW fM at hc uz;unfold eW fM;refine bk Try.func85 Try.ntmps85 Try.results85 10 134218367 ?_;simp only[zQ,simprocAttr,eW,fM,cf,aQ,dF,dB,cx,bw,B4,cP,js,ie,kx,hn,h1,h2,ai1,aiW,aiY,hx,hi,ai3,ai7,au.cells,jY,iq,kX,gR,kQ,hB,tG,ajk,aiX,ai0,ajp,tP,wW,o2,hX,hY];refine hc _ ?_;simp only[zQ,simprocAttr,eW,fM,cf,aQ,dF,dB,cx,bw,B4,cP,js,ie,kx,hn,h1,h2,ai1,aiW,aiY,hx,hi,ai3,ai7,au.cells,jY,iq,kX,gR,kQ,hB,tG,ajk,aiX,ai0,ajp,tP,wW,o2,hX,hY];refine uz _ ?_;simp only[zQ,simprocAttr,eW,fM,cf,aQ,dF,dB,cx,bw,B4,cP,js,ie,kx,hn,h1,h2,ai1,aiW,aiY,hx,hi,ai3,ai7,au.cells,jY,iq,kX,gR,kQ,hB,tG,ajk,aiX,ai0,ajp,tP,wW,o2,hX,hY]
 have An:=hg.ops n hn;rw[lP]at An;omega
theorem I9 (hg:fw t Bs C) (oM:nb=Bs.length) (ht:t.length<=1000000) (hp:p<=t.length):∀k,Mx t root parts bg nb Bs g b a C p k
 |0=>JV t root parts bg nb Bs g b a C p hg oM ht hp 0 (λj h=>ae)
 |k+1=>JV t root parts bg nb Bs g b a C p hg oM ht hp (k+1) (λj h=>by
  have:j=k:=ae;subst this;exact I9 hg oM ht hp j)
end
open Go.RowKit Go.Shelf Go.Proofs.Try
variable{e:VL.Env}
attribute [local go_sem] Oper.semAt_some
def xB (b:Bool) (N i:Nat):Int:=if b then (N:Int)-i else i
theorem Yg (F:Fence) (n:Nat) (hF:F.fn 106) (hro:F.round=none) (hn:1<=n) (l:Nat) (a1 a2:Addr) (N:Nat) (hN:N<=1000000) (b:Bool) (J:Nat->World->Prop)
  (hM:∀i W,J i W->W.cell? a1=some (.int .i64 N)/\W.cell? a2=some (.bool b))
  (hY:∀i W,J i W->i<=N->YieldAt F (n-1) Try.prog l #[.int .i64 (xB b N i)] W λe W'=>e=.returned (.bool true)/\J (i+1) W')
  (W:World) (h0:J 0 W):CallsIn F n Try.prog 106 #[.func (.yield l) #[] #[],.pointer (some a1),.pointer (some a2)] W λe W'=>(∃v,e=.returned v)/\J (N+1) W':=by
 refine callsIn_of_wp Try.func106 rfl hF ?_ hro;simp only[Try.ntmps106,List.size_toArray,ai8,ai9,Nat.reduceAdd,Nat.reduceSub,Array.replicate_succ,Array.replicate_zero,List.push_toArray,List.append_toArray,ai0,aiX]
 gi_wp2
 gi_loopw [4] (λp wr=>∃i:Nat,p=.int .i64 i/\i<=N+1/\J i wr) (λp _=>match p with|.int _ i=>(N+1-i).toNat|_=>0)
 case atStart=>exact⟨0,rfl,ae,h0⟩
 case round =>
  obtain⟨i,rfl,hi,hJ⟩:=hrel;obtain⟨m1,m2⟩:=hM i _ hJ;by_cases aB:(i:Int)<=(N:Int)
  ·obtain⟨fn,tmps,assign,body,hy,hR⟩:=hY i _ hJ ae;have w1:IntKind.i64.wrap ((N:Int)-(i:Int))=(N:Int)-i:=bF _ ae;have w2:IntKind.i64.wrap ((i:Int)+1)=(i:Int)+1:=bF _ ae;cases b with
   |true =>
    simp only[xB,if_true]at hy
    gi_wp2
    refine hR.mono ?_;rintro e W3 ⟨rfl,hJ3⟩
    gi_wp2
    go_roundw
    case rel=>exact⟨i+1,by push_cast;rfl,ae,hJ3⟩
    case measure=>simp;omega
   |false =>
    simp only[xB,ajf,if_false]at hy
    gi_wp2
    refine hR.mono ?_;rintro e W3 ⟨rfl,hJ3⟩
    gi_wp2
    go_roundw
    case rel=>exact⟨i+1,by push_cast;rfl,ae,hJ3⟩
    case measure=>simp;omega
  ·gi_wp2
   go_end0
   exact⟨⟨_,rfl⟩,by rw[show N+1=i by omega];exact hJ⟩
def RD (N:Nat) (b:Bool):List D:=[.el [iD N],.el [bD b]]
theorem JJ (N:Nat) (hN:N<=1000000) (b:Bool):I0 Try.prog 106 (RD N b) (N+1) (xB b N):=by
 refine⟨enters_of Try.func106 (by kernel_rfl) rfl,?_⟩;intro lb l J Qx hM hY W h0;obtain⟨lb⟩:=lb
 match lb,Qx with
 |[x1,x2],_ =>
  have cell:∀{W:World}{x:Value}{c:D}{u:Value},cY (λ_=>False) W (.el [c]) x->c=.sc u->∃ad,x=.pointer (some ad)/\W.cell? ⟨ad.block,ad.off,none⟩=some u/\ad.spot=none:=by
   intro W x c u h hc;cases h with|el cs ad f h1 h2 h3=>?_
   refine⟨ad,rfl,?_,h1⟩;have:=(h2 0 c rfl).1;have hv:=h3 0 c rfl;subst hc;cases hv;simpa using this
  have hp:=hM 0 W h0;obtain⟨d1,rfl,_,s1⟩:=cell (hp 0 _ rfl) rfl;obtain⟨d2,rfl,_,s2⟩:=cell (hp 1 _ rfl) rfl;have qK:d1=⟨d1.block,d1.off,none⟩:=by cases d1;simp only at s1;subst s1;rfl
  have hd2:d2=⟨d2.block,d2.off,none⟩:=by cases d2;simp only at s2;subst s2;rfl
  have:=Yg (GD none) 1 trivial rfl (ajc _) l d1 d2 N hN b J (λi W hJ=>by
   obtain⟨e1,h1,h2,_⟩:=cell (hM i W hJ 0 _ rfl) rfl;obtain⟨e2,h3,h4,_⟩:=cell (hM i W hJ 1 _ rfl) rfl;cases h1;cases h3;rw[qK,hd2];exact⟨h2,h4⟩) (λi W hJ hi=>hY i W hJ ae) W h0
  exact⟨trivial,λcs _=>this.2 cs (TF _ _)⟩
theorem Ai (N:Nat) (b:Bool):aM Try.prog 84 [i64 N,bV b] (.d (.cl (.func 106) [] (RD N b))):=by refine bk Try.func84 Try.ntmps84 Try.results84 0 31 ?_;simp only[zQ,simprocAttr];rfl
theorem G3 {ba lC:List Nat} (h0:∀t,lC.contains t=false->e t=.any) (h:∀t∈lC,eV ba (e t)=e t):NZ ba lC e=e:=by
 funext t;rw[DM];split
 ·rename_i ht;exact h t (by simpa using ht)
 ·rename_i ht;exact(h0 t (by simpa using ht)).symm
theorem bJ.My {L:Nat}{s:List VL.Obj} (ba lC:List Nat) (h:Bn L ba s.length=true) (he:NZ ba lC e=e):bJ L e s e (mF ba s):=by have:=bJ.Fv (L:=L) (e:=e) (s:=s) ba lC h;rwa [he]at this
theorem mT (ba:List Nat) (q:Nat) (l:List Bool):ga ba (cx q l)=cx q l:=by unfold ga cx;simp only[ajL];congr 1
theorem ka (ba:List Nat) (bg:Nat) (Bs:List (List Bool)):ga ba (fX bg Bs)=fX bg Bs:=by unfold ga fX;simp only[ajL];congr 1
theorem Nu (ba:List Nat) (h:ba.idxOf? 0=some 0) (b a:Nat) (x:Option (Re×Nat)):eV ba (cq b a x)=cq b a x:=by
 cases x with
 |none=>rfl
 |some x =>
  obtain⟨re,k⟩:=x;unfold cq;simp only;split
  ·simp [eV,eV.go,mB,nB,h]
  ·split <;> simp [eV,eV.go,mB,nB,h]
theorem mC (ba:List Nat) (h:ba.idxOf? 0=some 0) (g b a:Nat) (C:List au):ga ba (cP g b a C)=cP g b a C:=by unfold ga cP;simp only[ajL];congr 1;apply ajK;intro i _;simp [au.cells,Nu ba h,eV,eV.go,i64]
section
variable (t:List Int) (Bs:List (List Bool)) (C:List au)
def cS (p:Nat) (Lt:List Bool) (n:Nat):IE:=(List.range n).foldl (λst n=>(bu t Bs C p Lt (C.length+1) n st).2) ⟨List.replicate C.length false,List.replicate C.length false⟩
def fe:Nat->List Bool
 |0=>List.replicate C.length false
 |i+1=>(cS t Bs C (t.length-i) (fe i) C.length).nw
def gL (i:Nat):List Bool:=(List.range (t.length+1)).map λp=>decide (t.length<p+i)&&(fe t Bs C (t.length-p+1)).getD 0 false
def iF:List Bool:=(List.range (t.length+1)).map λp=>(fe t Bs C (t.length-p+1)).getD 0 false
theorem kO (p:Nat) (Lt:List Bool) (n:Nat):cS t Bs C p Lt (n+1)=(bu t Bs C p Lt (C.length+1) n (cS t Bs C p Lt n)).2:=by unfold cS;rw[List.range_succ,List.foldl_append];rfl
theorem oA (p:Nat) (Lt:List Bool):∀n,(cS t Bs C p Lt n).kn.length=C.length/\(cS t Bs C p Lt n).nw.length=C.length
 |0=>by simp [cS]
 |n+1=>by have h:=oA p Lt n;have h2:=iC t Bs C p Lt (C.length+1) n (cS t Bs C p Lt n);rw[kO];exact⟨h2.1.trans h.1,h2.2.1.trans h.2⟩
theorem Ic:∀i,(fe t Bs C i).length=C.length
 |0=>by simp [fe]
 |i+1=>(oA t Bs C _ _ _).2
theorem DI:gL t Bs C 0=List.replicate (t.length+1) false:=by
 apply ajX;intro j;unfold gL;rw[aiY,akb];by_cases hj:j<t.length+1
 ·rw[List.getElem?_range hj,be hj];simp only[ai3];rw[ce ae];rfl
 ·rw[ajH (by simpa using hj),ap hj];rfl
theorem qX (i:Nat):(gL t Bs C i).length=t.length+1:=by simp [gL]
theorem Fg (i:Nat) (hi:i<=t.length):(gL t Bs C i).set (t.length-i) ((fe t Bs C (i+1)).getD 0 false)=gL t Bs C (i+1):=by
 apply ajX;intro j;rw[List.getElem?_set,qX];unfold gL;rw[aiY,aiY];by_cases hj:j<t.length+1
 ·rw[List.getElem?_range hj];simp only[ai3];by_cases h:t.length-i=j
  ·rw[be h,tK];rw[bi ae,ake,show t.length-j+1=i+1 by omega]
  ·rw[ap h];congr 2;exact decide_eq_decide.2 ae
 ·rw[ajH (by simpa using hj),bd];rfl
theorem F4:gL t Bs C (t.length+1)=iF t Bs C:=by unfold gL iF;apply ajK;intro p hp;rw[bi ae,ake]
end
section
variable (t:List Int) (root parts:D) (bg nb:Nat) (Bs:List (List Bool)) (g b a:Nat) (C:List au)
def Rg (T:Nat):VL.Obj:=⟨0,true,1,[[.so 11 0 0 T]]⟩
def Wk (p:Nat) (Lt:List Bool) (st:IE) (H:List Bool):List VL.Obj:=lW t root parts bg nb Bs g b a C p Lt st++[cx 0 H,Rg (t.length+1)]
theorem Lk (hg:fw t Bs C) (oM:nb=Bs.length) (ht:t.length<=1000000) (hC:0<C.length) :
  az Try.prog 53 [.rf 0 0 0 0,.so 2 g 0 C.length] [dK t root parts bg nb,fX bg Bs,cP g b a C] λv s=>v=.so 3 0 0 (t.length+1)/\s=[dK t root parts bg nb,fX bg Bs,cP g b a C,cx 0 (iF t Bs C)]:=by
 have lQ:=Ai t.length true;have hlen:=hg.len;have w1:IntKind.i64.wrap ((t.length:Int)+1)=((t.length+1:Nat):Int):=by rw[bF _ ae];rfl
 simp only[i64,bV]at lQ;refine OM Try.func53 rfl Try.ntmps53 Try.results53 rfl 3 3882650439675 aj aj ?_;simp only[zX,simprocAttr,jP,rr,i64,bV,iD,bD,dK,an,cf,aQ,aiW,w1];refine⟨⟨ae,ae,ae⟩,?_⟩;refine aX (ct.Vf 3 3 rfl rfl rfl rfl) ?_;refine aX ct.bt ?_;refine aX ct.bt ?_;refine aX ct.bt ?_;refine aX ct.bt ?_;refine aA mix [] [(2,[6],[6]),(5,[7],[7]),(6,[8],[8]),(7,[9],[9]),(8,[8],[8]),(9,[9],[9])] aN ?_;simp only[zX,simprocAttr,jP,rr,nj,wm,i64,bV,iD,bD,dK,an,cf,aQ,aiW,w1,hole,Wg,bP];have hcg:(cP g b a C).g=g:=rfl;have hmk:(C.length:Int)<=C.length/\((1:Nat):Int)*C.length<=140737488355328/\(C.length:Int)<=9223372036854775807:=⟨ae,ae,ae⟩
 refine⟨hmk,hmk,hmk,?_⟩;refine bO lQ ?_;simp only[zX,simprocAttr,jP,rr,nj,wm,i64,bV,iD,bD];refine sZ.of 34 35 _ (RD t.length true) (t.length+1) (xB true t.length) (λi s=>∃(kn nw:List Bool) (p:Nat),kn.length=C.length/\nw.length=C.length/\s=Wk t root parts bg nb Bs g b a C p (fe t Bs C i) ⟨kn,nw⟩ (gL t Bs C i))
  (λe=>e 0=.any/\e 3=.bx (.so 2 g 0 C.length)/\e 5=.rf 12 0 0 0/\e 6=.rf 9 1 0 0/\e 7=.rf 6 1 0 0/\e 8=.rf 4 0 0 0/\e 9=.rf 7 0 0 0/\e 10=.rf 10 0 0 0/\e 34=.d (.cl (.func 106) [] (RD t.length true))/\∀t,[3,5,6,7,8,9,10,34].contains t=false->e t=.any)
  rfl rfl aJ (JJ t.length ht true) ⟨_,_,bJ.Fv [0,1,2,10,11,7,9,12,6,8,13,4,5] [3,5,6,7,8,9,10,34] aN,rfl,⟨rfl,rfl,rfl,rfl,rfl,rfl,rfl,rfl,rfl,λt ht=>ap (by rw[ht];exact Bool.false_ne_true)⟩,?_⟩ ?_ ?_
 ·refine⟨List.replicate C.length false,List.replicate C.length false,0,aj,aj,?_⟩;rw[DI];have hr:∀n q,(⟨q,true,1,List.replicate n [V.d (D.sc (Value.bool false))]⟩:VL.Obj)=cx q (List.replicate n false):=λn q=>by simp [cx,bV,bD]
  have Jq:([V.d (D.sc (Value.bool false))]::List.replicate t.length [V.d (D.sc (Value.bool false))])=List.replicate (t.length+1) [V.d (D.sc (Value.bool false))]:=rfl;rw[Jq];simp only[hr];simp only[mF,aiZ,ai2,aj2,ajW,ka,mT,mC _ (rfl:List.idxOf? 0 [0,1,2,10,11,7,9,12,6,8,13,4,5]=some 0)];rfl
 ·rintro e ⟨f0,f3,f5,f6,f7,f8,f9,f10,f34,fa⟩ i s hi ⟨kn,nw,p,h1,h2,rfl⟩;have hi':i<=t.length:=ae;have S4:xB true t.length i=((t.length-i:Nat):Int):=by simp only[xB,if_true];omega
  rw[S4];have iy:∀l:List Bool,l.length=C.length->jU (l.map λb=>[V.d (D.sc (Value.bool b))]) 0 (List.replicate C.length [V.d (D.sc (Value.bool false))])=(List.replicate C.length false).map λb=>[V.d (D.sc (Value.bool b))]:=λl hl=>by simp [jU,hl]
  have AX:=iy kn h1;have Am:=iy nw h2;simp only[zQ,simprocAttr,Wk,lW,f0,f3,f5,f6,f7,f8,f9,f10,dF,cx,cf,aQ,aiW,h1,h2,qk,ai7,ajc,AX,Am];clear AX Am;have ZR:=Ic t Bs C i;have hRs:fe t Bs C (i+1)=(cS t Bs C (t.length-i) (fe t Bs C i) C.length).nw:=rfl;have hHs:=Fg t Bs C i hi';have hHl:=qX t Bs C i;have ahp:=qX t Bs C (i+1);rw[hRs]at hHs ⊢;generalize fe t Bs C i=Lt at *;generalize gL t Bs C i=H at *;generalize gL t Bs C (i+1)=H2 at *;generalize UH:t.length-i=p' at *;refine ay (λn e' s=>∃m:Nat,n=C.length-m/\m<=C.length/\e' 0=.any/\e' 5=.rf 12 0 0 0/\e' 6=.rf 9 1 0 0/\e' 7=.rf 6 1 0 0/\e' 9=.rf 7 0 0 0/\e' 10=.rf 10 0 0 0/\e' 39=i64 C.length/\e' 40=i64 m/\s=Wk t root parts bg nb Bs g b a C p' Lt (cS t Bs C p' Lt m) H)
   ⟨_,_,_,bJ.refl,0,rfl,ae,f0,f5,f6,f7,f9,f10,rfl,rfl,by simp only[Wk,lW,cS,List.range_zero,List.foldl_nil,dF,cx,i64,bV,bD,aiX,ai0]⟩ ?_
  rintro n e' s ⟨m,rfl,hm,q0,q5,q6,q7,q9,ji,q39,q40,rfl⟩;have UO:=oA t Bs C p' Lt m;rcases ajr m C.length with aB|iA
  ·have aH:(m:Int)<(C.length:Int):=by omega
   have hc:=λK hk=>mZ (Hi t root parts bg nb Bs g b a C p' Lt hg oM ht ae ZR C.length) (n:=m) (st:=cS t Bs C p' Lt m) aB UO.1 UO.2 (by unfold Js;rw[<- UO.1];exact List.count_le_length) (tl:=[cx 0 H,Rg (t.length+1)]) (K:=K) hk;rw[<- kO]at hc;generalize bV (bu t Bs C p' Lt (C.length+1) m (cS t Bs C p' Lt m)).1=rv at *;have GB:Wk t root parts bg nb Bs g b a C p' Lt (cS t Bs C p' Lt (m+1)) H=lW t root parts bg nb Bs g b a C p' Lt (cS t Bs C p' Lt (m+1))++[cx 0 H,Rg (t.length+1)]:=rfl;generalize Du:cS t Bs C p' Lt (m+1)=E2 at *;unfold dH lW at hc;simp only[zQ,simprocAttr,Wk,lW,q0,q5,q6,q7,q9,ji,q39,q40,dF,cx,yV,cf,aQ,aH,aiX,ai0];refine hc _ ?_;simp only[zQ,simprocAttr,q0,q5,q6,q7,q9,ji,q39,q40,cf,aQ,aH,aiX,ai0];refine⟨C.length-(m+1),_,_,ae,bJ.refl,m+1,rfl,aB,?_,?_,?_,?_,?_,?_,?_,?_,by rw[Du];rfl⟩ <;> (try simp only[zU,Nat.reduceBEq,Nat.reduceShiftRight,Nat.reduceMod,Nat.reduceEqDiff,reduceIte])
   ·exact q0
   ·exact q5
   ·exact q6
   ·exact q7
   ·exact q9
   ·exact ji
   ·exact q39
   ·rw[bF _ ae];rfl
  ·have TO:m=C.length:=by omega
   subst TO;generalize cS t Bs C p' Lt C.length=E2 at *;obtain⟨kn2,nw2⟩:=E2;simp only at UO hHs ⊢;have Wj:(0:Int)<(C.length:Int):=ae;obtain⟨y,hy⟩:∃y,nw2[0]?=some y:=⟨_,ajg (by rw[UO.2];exact hC)⟩
   have hy2:nw2.getD 0 false=y:=by rw[aja,hy];rfl
   rw[hy2]at hHs;have Ap:(0:Int)<=(p':Int):=ae;have CV:(p':Int)<((t.length+1:Nat):Int):=ae;have hp3:p'<H.length:=ae;obtain⟨z,hz⟩:∃z,H[p']?=some z:=bZ hp3;simp only[zQ,simprocAttr,Wk,lW,q0,q5,q6,q7,q9,ji,q39,q40,dF,cx,Rg,cf,aQ,ajZ,aiX,ai0];refine aA mix [6] [] aN ?_;simp only[zQ,simprocAttr,Wk,lW,q0,q5,q6,q7,q9,ji,q39,q40,dF,cx,Rg,cf,aQ,aiX,ai0,Wj,hC,Ap,CV,hp3,hHl,hz,hy,UO.2,ai3,aiW,aiY,ai1,ai7,iq,hHs];have GQ:NZ [0,1,2,3,4,8,6,7,5,9,10,11,12] [3,5,6,7,8,9,10,34] e=e:=by
    refine G3 fa ?_;intro x hx;simp only[ajF,ajP,or_false]at hx;rcases hx with rfl|rfl|rfl|rfl|rfl|rfl|rfl|rfl
    ·rw[f3];rfl
    ·rw[f5];rfl
    ·rw[f6];rfl
    ·rw[f7];rfl
    ·rw[f8];rfl
    ·rw[f9];rfl
    ·rw[f10];rfl
    ·rw[f34];rfl
   refine⟨_,bJ.My _ _ aN GQ,kn2,Lt,p',UO.1,ZR,?_⟩;have hbd:∀q (l:List Bool),ga [0,1,2,3,4,8,6,7,5,9,10,11,12] ⟨q,true,1,l.map λb=>[V.d (D.sc (Value.bool b))]⟩=⟨q,true,1,l.map λb=>[V.d (D.sc (Value.bool b))]⟩:=λq l=>mT _ q l;simp only[mF,aiZ,ai2,aj2,ajW,ka,hbd,mC _ (rfl:List.idxOf? 0 [0,1,2,3,4,8,6,7,5,9,10,11,12]=some 0)];rfl
 ·rintro e ⟨f0,f3,f5,f6,f7,f8,f9,f10,f34,fa⟩ s ⟨kn,nw,p,h1,h2,rfl⟩;rw[F4];simp only[zX,simprocAttr,Wk,lW,f0,f3,f5,Rg,tY,zG];refine⟨[0,1,2,11],rfl,?_⟩;simp only[mF,aiZ,ai2,aj2,ajW,ka,mT,mC _ (rfl:List.idxOf? 0 [0,1,2,11]=some 0)];exact⟨rfl,rfl⟩
end
end Go.Proofs.Ytfmdmlfhigocaaa
