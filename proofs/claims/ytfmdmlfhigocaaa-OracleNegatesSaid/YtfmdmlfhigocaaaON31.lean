/- A part of the proof (O10 O1 O2 O8). -/
import Derived.RangeFuncKeeps
import Derived.RangeFuncLeaves
import Derived.Shelf.Abstract
import Derived.WalkKit
import Derived.OwnWalkIn
import Derived.TacticsInMore
import Derived.LoopNIn
import Derived.LoopIn
import Derived.Test.YtfmdmlfhigocaaaProg
import Derived.Test.YtfmdmlfhigocaaaON13
import Derived.Test.YtfmdmlfhigocaaaON27
import Derived.Test.YtfmdmlfhigocaaaON30
set_option linter.unusedSimpArgs false
set_option linter.unusedVariables false
open Nat renaming reduceShiftRight → cQ, reduceMod → dx, reduceLT → dB, reduceMul → dC, reduceSub → dD, reduceEqDiff → eI, reduceAdd → eJ, reduceLeDiff → fX, reduceBEq → gj
open Int renaming reduceToNat → gl, reduceNeg → ja, reduceLT → jg, reduceLE → jk, reduceEq → mA
set_option maxRecDepth 100000
set_option maxHeartbeats 80000000
namespace Go.Proofs.Ytfmdmlfhigocaaa
open Go.VL
theorem je (l:List Nat) (n:Nat) (x:Nat):(l.map λ(x:Nat)=>[V.d (D.sc (Value.int IntKind.i64 (x:Int)))]).set n [V.d (D.sc (Value.int IntKind.i64 (x:Int)))]=(l.set n x).map λ(x:Nat)=>[V.d (D.sc (Value.int IntKind.i64 (x:Int)))]:=by rw[ahg]
section
variable (t:List Int) (root parts:D) (bg nb:Nat) (Bs:List (List Bool)) (g b a:Nat) (C:List ay) (p:Nat)
theorem Hn (hg:m8 t Bs C) (nr:nb=Bs.length) (ht:t.length<=1000000) (hp:p<=t.length) (k:Nat) (IH:∀j,j+1=k->JL t root parts bg nb Bs g b a C p j):JL t root parts bg nb Bs g b a C p k:=by
 intro n st hn h1 h2 hu hrl;have WD:=hg.len;have iw:(n:Int)<(C.length:Int):=by omega
 have gp:(0:Int)<=(n:Int):=by omega
 have jv:n<st.ad.length:=by omega
 have rU:IntKind.i64.wrap ((p:Int)+1)=((p+1:Nat):Int):=by rw[bd _ (by omega)];rfl
 have ju:=gr 10 bg Bs;have ky:((dp t root parts bg nb).aw.all λe=>e.all (ah 10))=true:=rfl;have jD:((C.map (ay.cells b a)).all λe=>e.all (ah 10))=true:=kj 10 g b a (by omega) C;have hB:∀l:List Bool,((l.map λb=>[V.d (D.sc (Value.bool b))]).all λe=>e.all (ah 10))=true:=λl=>AW 10 0 l;have rN:∀l:List Nat,((l.map λ(x:Nat)=>[V.d (D.sc (Value.int IntKind.i64 (x:Int)))]).all λe=>e.all (ah 10))=true:=λl=>ni 10 0 l;obtain⟨x,hx⟩:∃x,st.ad[n]?=some x:=⟨_,afP jv⟩
 obtain⟨i,hi⟩:∃i,C[n]?=some i:=⟨_,afP hn⟩
 have kH:eV C n=i:=by unfold eV;rw[af9,hi];rfl
 by_cases Sl:x=p+1
 ·subst Sl;have hr:jJ t Bs C p (k+1) n st=st:=by rw[jJ,be (.inr hx)]
  rw[hr];unfold ek fg;refine an Try.func85 rfl Try.ntmps85 Try.results85 rfl 10 134218367 (by simp) (by simp) ?_;simp only[zX,cQ,dx,dB,dC,dD,gl,ja,jg,jk,mA,eI,eJ,fX,reduceIte,reduceCtorEq,gj,i64,bV,iD,bD,ek,fg,bU,aP,dc,da,b5,bo,zZ,cG,iw,gp,jv,hn,h1,h2,afT,afN,afO,hx,hi,afV,afX,ay.cells,je,gx,ky,ju,jD,hB,rN,af5,afQ,afS,agl,rU]
 have mQ:((x:Int)=((p+1:Nat):Int))=False:=eq_false (by omega);have hu1:=xG hx Sl;have hup:=HW hx Sl;have HV:jJ t Bs C p (k+1) n st=(let kO:Aq:=⟨st.ad.set n (p+1),st.ho,st.rd,st.gn⟩
  if i.op=0 then ⟨kO.ad,kO.ho.set p true,kO.rd,kO.gn⟩
  else if i.op=1 then (if i.pass t Bs p=true then ⟨kO.ad,kO.ho,kO.rd++[n],kO.gn+1⟩ else kO)
  else if i.op=2 then jJ t Bs C p k i.y.toNat (jJ t Bs C p k i.x.toNat kO)
  else if i.op=3 then jJ t Bs C p k i.x.toNat kO
  else if i.op=4 then jJ t Bs C p k (n+1) kO
  else if i.op=5 then (if i.pass t Bs p=true then jJ t Bs C p k (n+1) kO else kO)
  else kO):=by rw[jJ,ap (by rw[hx];rintro (h|h) <;> simp at h;exact Sl h),kH]
 simp only at HV;rw[HV];by_cases o0:i.op=0
 ·have yq:p<st.ho.length:=by omega
  have hpT:(p:Int)<((t.length+1:Nat):Int):=by omega
  have hp0:(0:Int)<=(p:Int):=by omega
  simp only[o0,reduceIte];unfold ek fg;refine an Try.func85 rfl Try.ntmps85 Try.results85 rfl 10 134218367 (by simp) (by simp) ?_;obtain⟨z,hz⟩:∃z,st.ho[p]?=some z:=⟨_,afP yq⟩
  simp only[zX,cQ,dx,dB,dC,dD,gl,ja,jg,jk,mA,eI,eJ,fX,reduceIte,reduceCtorEq,gj,i64,bV,iD,bD,ek,fg,bU,aP,dc,da,b5,bo,zZ,cG,iw,gp,jv,hn,h1,h2,afT,afN,afO,hx,hi,afV,afX,ay.cells,je,gx,ky,ju,jD,hB,rN,af5,afQ,afS,agl,rU,mQ,o0,yq,hpT,hp0,h1,h2,hz]
 obtain⟨j,rfl⟩:∃j,k=j+1:=⟨k-1,by omega⟩
 have RN:=λ(m:Nat) (hm:m<C.length) (tl:List VL.Obj) (K:V->List VL.Obj->Prop) hk=>Ef (IH j rfl) (n:=m) (st:=⟨st.ad.set n (p+1),st.ho,st.rd,st.gn⟩) hm (by simpa using h1) h2 (by simp only;omega) (by simp only;omega) (tl:=tl) (K:=K) hk;have hlen:=λm=>AD t Bs C p (j+1) m ⟨st.ad.set n (p+1),st.ho,st.rd,st.gn⟩;by_cases o3:i.op=3
 ·obtain⟨x0,x1⟩:=hg.jump n hn (by rw[kH];exact o3);rw[kH]at x0 x1;obtain⟨X,hX⟩:∃X:Nat,i.x=X:=⟨i.x.toNat,by omega⟩
  have Ag:X<C.length:=by omega
  have hc:=RN X Ag [⟨0,true,5,[[i64 3,i64 X,i64 i.y,i64 i.n,bY b a i.node]]⟩];simp only[o3,hX,mA,reduceIte,afT];generalize jJ t Bs C p (j+1) X ⟨st.ad.set n (p+1),st.ho,st.rd,st.gn⟩=R at *;unfold ek fg at hc;unfold ek fg;refine an Try.func85 rfl Try.ntmps85 Try.results85 rfl 10 134218367 (by simp) (by simp) ?_;simp only[zX,cQ,dx,dB,dC,dD,gl,ja,jg,jk,mA,eI,eJ,fX,reduceIte,reduceCtorEq,gj,i64,bV,iD,bD,ek,fg,bU,aP,dc,da,b5,bo,zZ,cG,iw,gp,jv,hn,h1,h2,afT,afN,afO,hx,hi,afV,afX,ay.cells,je,gx,ky,ju,jD,hB,rN,af5,afQ,afS,agl,rU,mQ,o3,hX];refine hc _ ?_;simp only[zX,cQ,dx,dB,dC,dD,gl,ja,jg,jk,mA,eI,eJ,fX,reduceIte,reduceCtorEq,gj,i64,bV,iD,bD,ek,fg,bU,aP,dc,da,b5,bo,zZ,cG,iw,gp,jv,hn,h1,h2,afT,afN,afO,hx,hi,afV,afX,ay.cells,je,gx,ky,ju,jD,hB,rN,af5,afQ,afS,agl,rU,mQ,o3,hX]
 by_cases o4:i.op=4
 ·have Ag:=hg.next n hn (by rw[kH];exact .inr (.inl o4));have hw:IntKind.i64.wrap ((n:Int)+1)=((n+1:Nat):Int):=by rw[bd _ (by omega)];rfl
  have hc:=RN (n+1) Ag [⟨0,true,5,[[i64 4,i64 i.x,i64 i.y,i64 i.n,bY b a i.node]]⟩];simp only[o4,mA,reduceIte];generalize jJ t Bs C p (j+1) (n+1) ⟨st.ad.set n (p+1),st.ho,st.rd,st.gn⟩=R at *;unfold ek fg at hc;unfold ek fg;refine an Try.func85 rfl Try.ntmps85 Try.results85 rfl 10 134218367 (by simp) (by simp) ?_;simp only[zX,cQ,dx,dB,dC,dD,gl,ja,jg,jk,mA,eI,eJ,fX,reduceIte,reduceCtorEq,gj,i64,bV,iD,bD,ek,fg,bU,aP,dc,da,b5,bo,zZ,cG,iw,gp,jv,hn,h1,h2,afT,afN,afO,hx,hi,afV,afX,ay.cells,je,gx,ky,ju,jD,hB,rN,af5,afQ,afS,agl,rU,mQ,o4,hw];refine hc _ ?_;simp only[zX,cQ,dx,dB,dC,dD,gl,ja,jg,jk,mA,eI,eJ,fX,reduceIte,reduceCtorEq,gj,i64,bV,iD,bD,ek,fg,bU,aP,dc,da,b5,bo,zZ,cG,iw,gp,jv,hn,h1,h2,afT,afN,afO,hx,hi,afV,afX,ay.cells,je,gx,ky,ju,jD,hB,rN,af5,afQ,afS,agl,rU,mQ,o4,hw]
 by_cases o1:i.op=1
 ·obtain⟨SU,ak,mU,Ap,su,rS⟩:=qe t root parts bg nb Bs b a C hg nr ht hn (.inl (by rw[kH];exact o1)) p hp;rw[kH]at mU rS;simp only[o1,mA,reduceIte];generalize i.pass t Bs p=y at *;cases y with
  |true =>
   simp only[reduceIte];unfold ek fg;refine an Try.func85 rfl Try.ntmps85 Try.results85 rfl 10 134218367 (by simp) (by simp) ?_;simp only[zX,cQ,dx,dB,dC,dD,gl,ja,jg,jk,mA,eI,eJ,fX,reduceIte,reduceCtorEq,gj,i64,bV,iD,bD,ek,fg,bU,aP,dc,da,b5,bo,zZ,cG,iw,gp,jv,hn,h1,h2,afT,afN,afO,hx,hi,afV,afX,ay.cells,je,gx,ky,ju,jD,hB,rN,af5,afQ,afS,agl,rU,mQ,o1,mU];refine dN t root parts bg nb Bs rS ?_ ?_ rfl rfl rfl ?_
   ·simp [aL,i64,su]
   ·simp [ah,ah.go,i64,Ap]
   simp only[zX,cQ,dx,dB,dC,dD,gl,ja,jg,jk,mA,eI,eJ,fX,reduceIte,reduceCtorEq,gj,i64,bV,iD,bD,ek,fg,bU,aP,dc,da,b5,bo,zZ,cG,iw,gp,jv,hn,h1,h2,afT,afN,afO,hx,hi,afV,afX,ay.cells,je,gx,ky,ju,jD,hB,rN,af5,afQ,afS,agl,rU,mQ,o1,mU];have hT:List.take st.rd.length (st.rd.map λ(x:Nat)=>[V.d (D.sc (Value.int IntKind.i64 (x:Int)))])++[[V.d (D.sc (Value.int IntKind.i64 (n:Int)))]]=(st.rd++[n]).map λ(x:Nat)=>[V.d (D.sc (Value.int IntKind.i64 (x:Int)))]:=by rw[af1 (by rw[afN];exact af3 _)];simp
   rw[hT];have Y2:iM p st.ad<=st.ad.length:=ag5;refine⟨λe he=>by rw[List.mem_singleton.1 he];rfl,⟨af3 _,by omega⟩,rN _,?_⟩;rw[af7];rfl
  |false =>
   simp only[age,reduceIte];unfold ek fg;refine an Try.func85 rfl Try.ntmps85 Try.results85 rfl 10 134218367 (by simp) (by simp) ?_;simp only[zX,cQ,dx,dB,dC,dD,gl,ja,jg,jk,mA,eI,eJ,fX,reduceIte,reduceCtorEq,gj,i64,bV,iD,bD,ek,fg,bU,aP,dc,da,b5,bo,zZ,cG,iw,gp,jv,hn,h1,h2,afT,afN,afO,hx,hi,afV,afX,ay.cells,je,gx,ky,ju,jD,hB,rN,af5,afQ,afS,agl,rU,mQ,o1,mU];refine dN t root parts bg nb Bs rS ?_ ?_ rfl rfl rfl ?_
   ·simp [aL,i64,su]
   ·simp [ah,ah.go,i64,Ap]
   simp only[zX,cQ,dx,dB,dC,dD,gl,ja,jg,jk,mA,eI,eJ,fX,reduceIte,reduceCtorEq,gj,i64,bV,iD,bD,ek,fg,bU,aP,dc,da,b5,bo,zZ,cG,iw,gp,jv,hn,h1,h2,afT,afN,afO,hx,hi,afV,afX,ay.cells,je,gx,ky,ju,jD,hB,rN,af5,afQ,afS,agl,rU,mQ,o1,mU]
 by_cases o5:i.op=5
 ·obtain⟨SU,ak,mU,Ap,su,rS⟩:=qe t root parts bg nb Bs b a C hg nr ht hn (.inr (by rw[kH];exact o5)) p hp;have Ag:=hg.next n hn (by rw[kH];exact .inr (.inr o5));have hw:IntKind.i64.wrap ((n:Int)+1)=((n+1:Nat):Int):=by rw[bd _ (by omega)];rfl
  rw[kH]at mU rS;have hc:=RN (n+1) Ag [⟨0,true,5,[[i64 5,i64 i.x,i64 i.y,i64 i.n,.cl (.func SU) [] ak]]⟩];simp only[o5,mA,reduceIte];generalize i.pass t Bs p=y at *;cases y with
  |true =>
   simp only[reduceIte];generalize jJ t Bs C p (j+1) (n+1) ⟨st.ad.set n (p+1),st.ho,st.rd,st.gn⟩=R at *;unfold ek fg at hc;unfold ek fg;refine an Try.func85 rfl Try.ntmps85 Try.results85 rfl 10 134218367 (by simp) (by simp) ?_;simp only[zX,cQ,dx,dB,dC,dD,gl,ja,jg,jk,mA,eI,eJ,fX,reduceIte,reduceCtorEq,gj,i64,bV,iD,bD,ek,fg,bU,aP,dc,da,b5,bo,zZ,cG,iw,gp,jv,hn,h1,h2,afT,afN,afO,hx,hi,afV,afX,ay.cells,je,gx,ky,ju,jD,hB,rN,af5,afQ,afS,agl,rU,mQ,o5,mU,hw];refine dN t root parts bg nb Bs rS ?_ ?_ rfl rfl rfl ?_
   ·simp [aL,i64,su]
   ·simp [ah,ah.go,i64,Ap]
   simp only[zX,cQ,dx,dB,dC,dD,gl,ja,jg,jk,mA,eI,eJ,fX,reduceIte,reduceCtorEq,gj,i64,bV,iD,bD,ek,fg,bU,aP,dc,da,b5,bo,zZ,cG,iw,gp,jv,hn,h1,h2,afT,afN,afO,hx,hi,afV,afX,ay.cells,je,gx,ky,ju,jD,hB,rN,af5,afQ,afS,agl,rU,mQ,o5,mU,hw];refine hc _ ?_;simp only[zX,cQ,dx,dB,dC,dD,gl,ja,jg,jk,mA,eI,eJ,fX,reduceIte,reduceCtorEq,gj,i64,bV,iD,bD,ek,fg,bU,aP,dc,da,b5,bo,zZ,cG,iw,gp,jv,hn,h1,h2,afT,afN,afO,hx,hi,afV,afX,ay.cells,je,gx,ky,ju,jD,hB,rN,af5,afQ,afS,agl,rU,mQ,o5,mU,hw]
  |false =>
   simp only[age,reduceIte];unfold ek fg;refine an Try.func85 rfl Try.ntmps85 Try.results85 rfl 10 134218367 (by simp) (by simp) ?_;simp only[zX,cQ,dx,dB,dC,dD,gl,ja,jg,jk,mA,eI,eJ,fX,reduceIte,reduceCtorEq,gj,i64,bV,iD,bD,ek,fg,bU,aP,dc,da,b5,bo,zZ,cG,iw,gp,jv,hn,h1,h2,afT,afN,afO,hx,hi,afV,afX,ay.cells,je,gx,ky,ju,jD,hB,rN,af5,afQ,afS,agl,rU,mQ,o5,mU];refine dN t root parts bg nb Bs rS ?_ ?_ rfl rfl rfl ?_
   ·simp [aL,i64,su]
   ·simp [ah,ah.go,i64,Ap]
   simp only[zX,cQ,dx,dB,dC,dD,gl,ja,jg,jk,mA,eI,eJ,fX,reduceIte,reduceCtorEq,gj,i64,bV,iD,bD,ek,fg,bU,aP,dc,da,b5,bo,zZ,cG,iw,gp,jv,hn,h1,h2,afT,afN,afO,hx,hi,afV,afX,ay.cells,je,gx,ky,ju,jD,hB,rN,af5,afQ,afS,agl,rU,mQ,o5,mU]
 by_cases o2:i.op=2
 ·obtain⟨x0,x1,y0,y1⟩:=hg.split n hn (by rw[kH];exact o2);rw[kH]at x0 x1 y0 y1;obtain⟨X,hX⟩:∃X:Nat,i.x=X:=⟨i.x.toNat,by omega⟩
  obtain⟨Y,hY⟩:∃Y:Nat,i.y=Y:=⟨i.y.toNat,by omega⟩
  have Ag:X<C.length:=by omega
  have Yh:Y<C.length:=by omega
  have hc:=RN X Ag [⟨0,true,5,[[i64 2,i64 X,i64 Y,i64 i.n,bY b a i.node]]⟩];have hl:=hlen X;simp only[o2,hX,hY,mA,reduceIte,afT];generalize jJ t Bs C p (j+1) X ⟨st.ad.set n (p+1),st.ho,st.rd,st.gn⟩=R at *;obtain⟨l1,l2,l3,l4,_⟩:=hl;simp only[agl]at l1 l2 l3 l4;have su:=λ(K:V->List VL.Obj->Prop) hk=>Ef (IH j rfl) (n:=Y) (st:=R) Yh (by omega) (by omega) (by omega) (by omega) (tl:=[⟨0,true,5,[[i64 2,i64 X,i64 Y,i64 i.n,bY b a i.node]]⟩]) (K:=K) hk;generalize jJ t Bs C p (j+1) Y R=R2 at *;unfold ek fg at hc su;unfold ek fg;refine an Try.func85 rfl Try.ntmps85 Try.results85 rfl 10 134218367 (by simp) (by simp) ?_;simp only[zX,cQ,dx,dB,dC,dD,gl,ja,jg,jk,mA,eI,eJ,fX,reduceIte,reduceCtorEq,gj,i64,bV,iD,bD,ek,fg,bU,aP,dc,da,b5,bo,zZ,cG,iw,gp,jv,hn,h1,h2,afT,afN,afO,hx,hi,afV,afX,ay.cells,je,gx,ky,ju,jD,hB,rN,af5,afQ,afS,agl,rU,mQ,o2,hX,hY];refine hc _ ?_;simp only[zX,cQ,dx,dB,dC,dD,gl,ja,jg,jk,mA,eI,eJ,fX,reduceIte,reduceCtorEq,gj,i64,bV,iD,bD,ek,fg,bU,aP,dc,da,b5,bo,zZ,cG,iw,gp,jv,hn,h1,h2,afT,afN,afO,hx,hi,afV,afX,ay.cells,je,gx,ky,ju,jD,hB,rN,af5,afQ,afS,agl,rU,mQ,o2,hX,hY];refine su _ ?_;simp only[zX,cQ,dx,dB,dC,dD,gl,ja,jg,jk,mA,eI,eJ,fX,reduceIte,reduceCtorEq,gj,i64,bV,iD,bD,ek,fg,bU,aP,dc,da,b5,bo,zZ,cG,iw,gp,jv,hn,h1,h2,afT,afN,afO,hx,hi,afV,afX,ay.cells,je,gx,ky,ju,jD,hB,rN,af5,afQ,afS,agl,rU,mQ,o2,hX,hY]
 have J5:=hg.ops n hn;rw[kH]at J5;omega
theorem Gu (hg:m8 t Bs C) (nr:nb=Bs.length) (ht:t.length<=1000000) (hp:p<=t.length):∀k,JL t root parts bg nb Bs g b a C p k
 |0=>Hn t root parts bg nb Bs g b a C p hg nr ht hp 0 (λj h=>by omega)
 |k+1=>Hn t root parts bg nb Bs g b a C p hg nr ht hp (k+1) (λj h=>by
  have:j=k:=by omega
  subst this;exact Gu hg nr ht hp j)
end
open Go.RowKit Go.Shelf Go.Proofs.Try
variable{e:VL.Env}
attribute [local go_sem] Oper.semAt_some
def vt (b:Bool) (N i:Nat):Int:=if b then (N:Int)-i else i
theorem Va (F:Fence) (n:Nat) (hF:F.fn 106) (XT:F.round=none) (hn:1<=n) (l:Nat) (a1 a2:Addr) (N:Nat) (hN:N<=1000000) (b:Bool) (J:Nat->World->Prop)
  (hM:∀i W,J i W->W.cell? a1=some (.int .i64 N)/\W.cell? a2=some (.bool b))
  (hY:∀i W,J i W->i<=N->YieldAt F (n-1) Try.prog l #[.int .i64 (vt b N i)] W λe W'=>e=.returned (.bool true)/\J (i+1) W')
  (W:World) (h0:J 0 W):CallsIn F n Try.prog 106 #[.func (.yield l) #[] #[],.pointer (some a1),.pointer (some a2)] W λe W'=>(∃v,e=.returned v)/\J (N+1) W':=by
 refine callsIn_of_wp Try.func106 rfl hF ?_ XT;simp only[Try.ntmps106,List.size_toArray,afZ,af0,eJ,dD,Array.replicate_succ,Array.replicate_zero,List.push_toArray,List.append_toArray,afS,afQ]
 gi_wp2
 gi_loopw [4] (λp wr=>∃i:Nat,p=.int .i64 i/\i<=N+1/\J i wr) (λp _=>match p with|.int _ i=>(N+1-i).toNat|_=>0)
 case atStart=>exact⟨0,rfl,by omega,h0⟩
 case round =>
  obtain⟨i,rfl,hi,hJ⟩:=hrel;obtain⟨m1,m2⟩:=hM i _ hJ;by_cases az:(i:Int)<=(N:Int)
  ·obtain⟨fn,tmps,assign,body,hy,hR⟩:=hY i _ hJ (by omega);have w1:IntKind.i64.wrap ((N:Int)-(i:Int))=(N:Int)-i:=bd _ (by omega);have w2:IntKind.i64.wrap ((i:Int)+1)=(i:Int)+1:=bd _ (by omega);cases b with
   |true =>
    simp only[vt,if_true]at hy
    gi_wp2
    refine hR.mono ?_;rintro e W3 ⟨rfl,hJ3⟩
    gi_wp2
    go_roundw
    case rel=>exact⟨i+1,by push_cast;rfl,by omega,hJ3⟩
    case measure=>simp;omega
   |false =>
    simp only[vt,age,if_false]at hy
    gi_wp2
    refine hR.mono ?_;rintro e W3 ⟨rfl,hJ3⟩
    gi_wp2
    go_roundw
    case rel=>exact⟨i+1,by push_cast;rfl,by omega,hJ3⟩
    case measure=>simp;omega
  ·gi_wp2
   go_end0
   exact⟨⟨_,rfl⟩,by rw[show N+1=i by omega];exact hJ⟩
def Ou (N:Nat) (b:Bool):List D:=[.el [iD N],.el [bD b]]
theorem G8 (N:Nat) (hN:N<=1000000) (b:Bool):Gk Try.prog 106 (Ou N b) (N+1) (vt b N):=by
 refine⟨enters_of Try.func106 (by kernel_rfl) rfl,?_⟩;intro lb l J GN hM hY W h0;obtain⟨lb⟩:=lb
 match lb,GN with
 |[x1,x2],_ =>
  have cell:∀{W:World}{x:Value}{c:D}{u:Value},cJ (λ_=>False) W (.el [c]) x->c=.sc u->∃ad,x=.pointer (some ad)/\W.cell? ⟨ad.block,ad.off,none⟩=some u/\ad.spot=none:=by
   intro W x c u h hc;cases h with|el cs ad f h1 h2 h3=>?_
   refine⟨ad,rfl,?_,h1⟩;have:=(h2 0 c rfl).1;have hv:=h3 0 c rfl;subst hc;cases hv;simpa using this
  have hp:=hM 0 W h0;obtain⟨d1,rfl,_,s1⟩:=cell (hp 0 _ rfl) rfl;obtain⟨d2,rfl,_,s2⟩:=cell (hp 1 _ rfl) rfl;have pQ:d1=⟨d1.block,d1.off,none⟩:=by cases d1;simp only at s1;subst s1;rfl
  have hd2:d2=⟨d2.block,d2.off,none⟩:=by cases d2;simp only at s2;subst s2;rfl
  have:=Va (D0 none) 1 trivial rfl (af3 _) l d1 d2 N hN b J (λi W hJ=>by
   obtain⟨e1,h1,h2,_⟩:=cell (hM i W hJ 0 _ rfl) rfl;obtain⟨e2,h3,h4,_⟩:=cell (hM i W hJ 1 _ rfl) rfl;cases h1;cases h3;rw[pQ,hd2];exact⟨h2,h4⟩) (λi W hJ hi=>hY i W hJ (by omega)) W h0
  exact⟨trivial,λcs _=>this.2 cs (QA _ _)⟩
theorem yj (N:Nat) (b:Bool):aO Try.prog 84 [i64 N,bV b] (.d (.cl (.func 106) [] (Ou N b))):=by refine an Try.func84 rfl Try.ntmps84 Try.results84 rfl 0 31 (by simp) (by simp) ?_;simp only[zX,cQ,dx,dB,dC,dD,gl,ja,jg,jk,mA,eI,eJ,fX,reduceIte,reduceCtorEq,gj,i64,bV,iD,bD];rfl
theorem Ep {aY kx:List Nat} (h0:∀t,kx.contains t=false->e t=.any) (h:∀t∈kx,ej aY (e t)=e t):K2 aY kx e=e:=by
 funext t;rw[Bp];split
 ·rename_i ht;exact h t (by simpa using ht)
 ·rename_i ht;exact(h0 t (by simpa using ht)).symm
theorem br.JQ {L:Nat}{s:List VL.Obj} (aY kx:List Nat) (h:zk L aY s.length=true) (he:K2 aY kx e=e):br L e s e (lF aY s):=by have:=br.C8 (L:=L) (e:=e) (s:=s) aY kx h;rwa [he]at this
theorem lR (aY:List Nat) (q:Nat) (l:List Bool):fy aY (b5 q l)=b5 q l:=by unfold fy b5;simp only[agy];congr 1
theorem ji (aY:List Nat) (bg:Nat) (Bs:List (List Bool)):fy aY (fr bg Bs)=fr bg Bs:=by unfold fy fr;simp only[agy];congr 1
theorem KI (aY:List Nat) (h:aY.idxOf? 0=some 0) (b a:Nat) (x:Option (Re×Nat)):ej aY (bY b a x)=bY b a x:=by
 cases x with
 |none=>rfl
 |some x =>
  obtain⟨re,k⟩:=x;unfold bY;simp only;split
  ·simp [ej,ej.go,mB,nB,h]
  ·split <;> simp [ej,ej.go,mB,nB,h]
theorem lD (aY:List Nat) (h:aY.idxOf? 0=some 0) (g b a:Nat) (C:List ay):fy aY (cG g b a C)=cG g b a C:=by unfold fy cG;simp only[agy];congr 1;apply agC;intro i _;simp [ay.cells,KI aY h,ej,ej.go,i64]
section
variable (t:List Int) (Bs:List (List Bool)) (C:List ay)
def dE (p:Nat) (Lt:List Bool) (n:Nat):L8:=(List.range n).foldl (λst n=>(bB t Bs C p Lt (C.length+1) n st).2) ⟨List.replicate C.length false,List.replicate C.length false⟩
def fU:Nat->List Bool
 |0=>List.replicate C.length false
 |i+1=>(dE t Bs C (t.length-i) (fU i) C.length).nw
def fS (i:Nat):List Bool:=(List.range (t.length+1)).map λp=>decide (t.length<p+i)&&(fU t Bs C (t.length-p+1)).getD 0 false
def iV:List Bool:=(List.range (t.length+1)).map λp=>(fU t Bs C (t.length-p+1)).getD 0 false
theorem ma (p:Nat) (Lt:List Bool) (n:Nat):dE t Bs C p Lt (n+1)=(bB t Bs C p Lt (C.length+1) n (dE t Bs C p Lt n)).2:=by unfold dE;rw[List.range_succ,List.foldl_append];rfl
theorem qz (p:Nat) (Lt:List Bool):∀n,(dE t Bs C p Lt n).kn.length=C.length/\(dE t Bs C p Lt n).nw.length=C.length
 |0=>by simp [dE]
 |n+1=>by have h:=qz p Lt n;have h2:=mr t Bs C p Lt (C.length+1) n (dE t Bs C p Lt n);rw[ma];exact⟨h2.1.trans h.1,h2.2.1.trans h.2⟩
theorem FD:∀i,(fU t Bs C i).length=C.length
 |0=>by simp [fU]
 |i+1=>(qz t Bs C _ _ _).2
theorem Bl:fS t Bs C 0=List.replicate (t.length+1) false:=by
 apply agT;intro j;unfold fS;rw[afO,List.getElem?_replicate];by_cases hj:j<t.length+1
 ·rw[List.getElem?_range hj,be hj];simp only[afV];rw[b6 (by omega)];rfl
 ·rw[agG (by simpa using hj),ap hj];rfl
theorem pL (i:Nat):(fS t Bs C i).length=t.length+1:=by simp [fS]
theorem CM (i:Nat) (hi:i<=t.length):(fS t Bs C i).set (t.length-i) ((fU t Bs C (i+1)).getD 0 false)=fS t Bs C (i+1):=by
 apply agT;intro j;rw[List.getElem?_set,pL];unfold fS;rw[afO,afO];by_cases hj:j<t.length+1
 ·rw[List.getElem?_range hj];simp only[afV];by_cases h:t.length-i=j
  ·rw[be h,be (by omega)];rw[bi (by omega),Bool.true_and,show t.length-j+1=i+1 by omega]
  ·rw[ap h];congr 2;exact decide_eq_decide.2 (by omega)
 ·rw[agG (by simpa using hj),ap (by omega)];rfl
theorem DA:fS t Bs C (t.length+1)=iV t Bs C:=by unfold fS iV;apply agC;intro p hp;rw[bi (by omega),Bool.true_and]
end
section
variable (t:List Int) (root parts:D) (bg nb:Nat) (Bs:List (List Bool)) (g b a:Nat) (C:List ay)
def N7 (T:Nat):VL.Obj:=⟨0,true,1,[[.so 11 0 0 T]]⟩
def Tk (p:Nat) (Lt:List Bool) (st:L8) (H:List Bool):List VL.Obj:=kP t root parts bg nb Bs g b a C p Lt st++[b5 0 H,N7 (t.length+1)]
theorem IK (hg:m8 t Bs C) (nr:nb=Bs.length) (ht:t.length<=1000000) (hC:0<C.length) :
  aq Try.prog 53 [.rf 0 0 0 0,.so 2 g 0 C.length] [dp t root parts bg nb,fr bg Bs,cG g b a C] λv s=>v=.so 3 0 0 (t.length+1)/\s=[dp t root parts bg nb,fr bg Bs,cG g b a C,b5 0 (iV t Bs C)]:=by
 have cY:=yj t.length true;have hlen:=hg.len;have w1:IntKind.i64.wrap ((t.length:Int)+1)=((t.length+1:Nat):Int):=by rw[bd _ (by omega)];rfl
 simp only[i64,bV]at cY;refine LH Try.func53 rfl Try.ntmps53 Try.results53 rfl 3 3882650439675 (by simp) (by simp) ?_;simp only[zX,cQ,dx,dB,dC,dD,gl,ja,jg,jk,mA,eI,eJ,fX,reduceIte,reduceCtorEq,gj,iU,pX,i64,bV,iD,bD,dp,al,bU,aP,afN,w1];refine⟨⟨by omega,by omega,by omega⟩,?_⟩;refine aS (bO.Sd 3 3 rfl rfl rfl rfl) ?_;refine aS bO.bf ?_;refine aS bO.bf ?_;refine aS bO.bf ?_;refine aS bO.bf ?_;refine ar mix [] [(2,[6],[6]),(5,[7],[7]),(6,[8],[8]),(7,[9],[9]),(8,[8],[8]),(9,[9],[9])] (by rfl) ?_;simp only[zX,cQ,dx,dB,dC,dD,gl,ja,jg,jk,mA,eI,eJ,fX,reduceIte,reduceCtorEq,gj,iU,pX,me,uj,i64,bV,iD,bD,dp,al,bU,aP,afN,w1,hole,Tf,bM];have hcg:(cG g b a C).g=g:=rfl;have hmk:(C.length:Int)<=C.length/\((1:Nat):Int)*C.length<=140737488355328/\(C.length:Int)<=9223372036854775807:=⟨by omega,by omega,by omega⟩
 refine⟨hmk,hmk,hmk,?_⟩;refine aj cY rfl rfl ?_;simp only[zX,cQ,dx,dB,dC,dD,gl,ja,jg,jk,mA,eI,eJ,fX,reduceIte,reduceCtorEq,gj,iU,pX,me,uj,i64,bV,iD,bD];refine rl.of 34 35 _ (Ou t.length true) (t.length+1) (vt true t.length) (λi s=>∃(kn nw:List Bool) (p:Nat),kn.length=C.length/\nw.length=C.length/\s=Tk t root parts bg nb Bs g b a C p (fU t Bs C i) ⟨kn,nw⟩ (fS t Bs C i))
  (λe=>e 0=.any/\e 3=.bx (.so 2 g 0 C.length)/\e 5=.rf 12 0 0 0/\e 6=.rf 9 1 0 0/\e 7=.rf 6 1 0 0/\e 8=.rf 4 0 0 0/\e 9=.rf 7 0 0 0/\e 10=.rf 10 0 0 0/\e 34=.d (.cl (.func 106) [] (Ou t.length true))/\∀t,[3,5,6,7,8,9,10,34].contains t=false->e t=.any)
  rfl rfl (by decide) (G8 t.length ht true) ⟨_,_,br.C8 [0,1,2,10,11,7,9,12,6,8,13,4,5] [3,5,6,7,8,9,10,34] (by rfl),rfl,⟨rfl,rfl,rfl,rfl,rfl,rfl,rfl,rfl,rfl,λt ht=>ap (by rw[ht];exact Bool.false_ne_true)⟩,?_⟩ ?_ ?_
 ·refine⟨List.replicate C.length false,List.replicate C.length false,0,by simp,by simp,?_⟩;rw[Bl];have hr:∀n q,(⟨q,true,1,List.replicate n [V.d (D.sc (Value.bool false))]⟩:VL.Obj)=b5 q (List.replicate n false):=λn q=>by simp [b5,bV,bD]
  have Ee:([V.d (D.sc (Value.bool false))]::List.replicate t.length [V.d (D.sc (Value.bool false))])=List.replicate (t.length+1) [V.d (D.sc (Value.bool false))]:=rfl;rw[Ee];simp only[hr];simp only[lF,afR,afU,agW,agX,ji,lR,lD _ (rfl:List.idxOf? 0 [0,1,2,10,11,7,9,12,6,8,13,4,5]=some 0)];rfl
 ·rintro e ⟨f0,f3,f5,f6,f7,f8,f9,f10,f34,fa⟩ i s hi ⟨kn,nw,p,h1,h2,rfl⟩;have hi':i<=t.length:=by omega
  have BT:vt true t.length i=((t.length-i:Nat):Int):=by simp only[vt,if_true];omega
  rw[BT];have fK:∀l:List Bool,l.length=C.length->iX (l.map λb=>[V.d (D.sc (Value.bool b))]) 0 (List.replicate C.length [V.d (D.sc (Value.bool false))])=(List.replicate C.length false).map λb=>[V.d (D.sc (Value.bool b))]:=λl hl=>by simp [iX,hl]
  have Cd:=fK kn h1;have FF:=fK nw h2;simp only[zX,cQ,dx,dB,dC,dD,gl,ja,jg,jk,mA,eI,eJ,fX,reduceIte,reduceCtorEq,gj,i64,bV,iD,bD,Tk,kP,f0,f3,f5,f6,f7,f8,f9,f10,dc,b5,bU,aP,afN,h1,h2,oM,afX,af3,Cd,FF];clear Cd FF;have WH:=FD t Bs C i;have hRs:fU t Bs C (i+1)=(dE t Bs C (t.length-i) (fU t Bs C i) C.length).nw:=rfl;have YB:=CM t Bs C i hi';have hHl:=pL t Bs C i;have aeu:=pL t Bs C (i+1);rw[hRs]at YB ⊢;generalize fU t Bs C i=Lt at *;generalize fS t Bs C i=H at *;generalize fS t Bs C (i+1)=H2 at *;generalize RI:t.length-i=p' at *;refine au (λn e' s=>∃m:Nat,n=C.length-m/\m<=C.length/\e' 0=.any/\e' 5=.rf 12 0 0 0/\e' 6=.rf 9 1 0 0/\e' 7=.rf 6 1 0 0/\e' 9=.rf 7 0 0 0/\e' 10=.rf 10 0 0 0/\e' 39=i64 C.length/\e' 40=i64 m/\s=Tk t root parts bg nb Bs g b a C p' Lt (dE t Bs C p' Lt m) H)
   ⟨_,_,_,br.refl,0,rfl,by omega,f0,f5,f6,f7,f9,f10,rfl,rfl,by simp only[Tk,kP,dE,List.range_zero,List.foldl_nil,dc,b5,i64,bV,bD,afQ,afS]⟩ ?_
  rintro n e' s ⟨m,rfl,hm,q0,q5,q6,q7,q9,iF,Xj,Ze,rfl⟩;have K7:=qz t Bs C p' Lt m;rcases agi m C.length with az|fI
  ·have aC:(m:Int)<(C.length:Int):=by omega
   have hc:=λK hk=>lX (EG t root parts bg nb Bs g b a C p' Lt hg nr ht (by omega) WH C.length) (n:=m) (st:=dE t Bs C p' Lt m) az K7.1 K7.2 (by unfold NN;rw[<- K7.1];exact List.count_le_length) (tl:=[b5 0 H,N7 (t.length+1)]) (K:=K) hk;rw[<- ma]at hc;generalize bV (bB t Bs C p' Lt (C.length+1) m (dE t Bs C p' Lt m)).1=rv at *;have DZ:Tk t root parts bg nb Bs g b a C p' Lt (dE t Bs C p' Lt (m+1)) H=kP t root parts bg nb Bs g b a C p' Lt (dE t Bs C p' Lt (m+1))++[b5 0 H,N7 (t.length+1)]:=rfl;generalize AB:dE t Bs C p' Lt (m+1)=E2 at *;unfold dh kP at hc;simp only[zX,cQ,dx,dB,dC,dD,gl,ja,jg,jk,mA,eI,eJ,fX,reduceIte,reduceCtorEq,gj,i64,bV,iD,bD,Tk,kP,q0,q5,q6,q7,q9,iF,Xj,Ze,dc,b5,wZ,bU,aP,aC,afQ,afS];refine hc _ ?_;simp only[zX,cQ,dx,dB,dC,dD,gl,ja,jg,jk,mA,eI,eJ,fX,reduceIte,reduceCtorEq,gj,i64,bV,iD,bD,q0,q5,q6,q7,q9,iF,Xj,Ze,bU,aP,aC,afQ,afS];refine⟨C.length-(m+1),_,_,by omega,br.refl,m+1,rfl,az,?_,?_,?_,?_,?_,?_,?_,?_,by rw[AB];rfl⟩ <;> (try simp only[zU,gj,cQ,dx,eI,reduceIte])
   ·exact q0
   ·exact q5
   ·exact q6
   ·exact q7
   ·exact q9
   ·exact iF
   ·exact Xj
   ·rw[bd _ (by omega)];rfl
  ·have QL:m=C.length:=by omega
   subst QL;generalize dE t Bs C p' Lt C.length=E2 at *;obtain⟨kn2,nw2⟩:=E2;simp only at K7 YB ⊢;have MF:(0:Int)<(C.length:Int):=by omega
   obtain⟨y,hy⟩:∃y,nw2[0]?=some y:=⟨_,afP (by rw[K7.2];exact hC)⟩
   have hy2:nw2.getD 0 false=y:=by rw[af9,hy];rfl
   rw[hy2]at YB;have y3:(0:Int)<=(p':Int):=by omega
   have As:(p':Int)<((t.length+1:Nat):Int):=by omega
   have hp3:p'<H.length:=by omega
   obtain⟨z,hz⟩:∃z,H[p']?=some z:=⟨_,afP hp3⟩
   simp only[zX,cQ,dx,dB,dC,dD,gl,ja,jg,jk,mA,eI,eJ,fX,reduceIte,reduceCtorEq,gj,i64,bV,iD,bD,Tk,kP,q0,q5,q6,q7,q9,iF,Xj,Ze,dc,b5,N7,bU,aP,agO,afQ,afS];refine ar mix [6] [] (by rfl) ?_;simp only[zX,cQ,dx,dB,dC,dD,gl,ja,jg,jk,mA,eI,eJ,fX,reduceIte,reduceCtorEq,gj,i64,bV,iD,bD,Tk,kP,q0,q5,q6,q7,q9,iF,Xj,Ze,dc,b5,N7,bU,aP,afQ,afS,MF,hC,y3,As,hp3,hHl,hz,hy,K7.2,afV,afN,afO,afT,afX,gx,YB];have Eb:K2 [0,1,2,3,4,8,6,7,5,9,10,11,12] [3,5,6,7,8,9,10,34] e=e:=by
    refine Ep fa ?_;intro x hx;simp only[agV,ag8,or_false]at hx;rcases hx with rfl|rfl|rfl|rfl|rfl|rfl|rfl|rfl
    ·rw[f3];rfl
    ·rw[f5];rfl
    ·rw[f6];rfl
    ·rw[f7];rfl
    ·rw[f8];rfl
    ·rw[f9];rfl
    ·rw[f10];rfl
    ·rw[f34];rfl
   refine⟨_,br.JQ _ _ (by rfl) Eb,kn2,Lt,p',K7.1,WH,?_⟩;have Y7:∀q (l:List Bool),fy [0,1,2,3,4,8,6,7,5,9,10,11,12] ⟨q,true,1,l.map λb=>[V.d (D.sc (Value.bool b))]⟩=⟨q,true,1,l.map λb=>[V.d (D.sc (Value.bool b))]⟩:=λq l=>lR _ q l;simp only[lF,afR,afU,agW,agX,ji,Y7,lD _ (rfl:List.idxOf? 0 [0,1,2,3,4,8,6,7,5,9,10,11,12]=some 0)];rfl
 ·rintro e ⟨f0,f3,f5,f6,f7,f8,f9,f10,f34,fa⟩ s ⟨kn,nw,p,h1,h2,rfl⟩;rw[DA];simp only[zX,cQ,dx,dB,dC,dD,gl,ja,jg,jk,mA,eI,eJ,fX,reduceIte,reduceCtorEq,gj,Tk,kP,f0,f3,f5,N7,sg,xR];refine⟨[0,1,2,11],rfl,?_⟩;simp only[lF,afR,afU,agW,agX,ji,lR,lD _ (rfl:List.idxOf? 0 [0,1,2,11]=some 0)];exact⟨rfl,rfl⟩
end
end Go.Proofs.Ytfmdmlfhigocaaa
