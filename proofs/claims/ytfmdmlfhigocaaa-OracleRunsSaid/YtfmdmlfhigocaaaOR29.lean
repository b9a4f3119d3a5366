/- A part of the proof (O7 O9). -/
import Derived.Test.YtfmdmlfhigocaaaOR27
set_option linter.unusedSimpArgs false
set_option linter.unusedVariables false
set_option maxRecDepth 100000
set_option maxHeartbeats 80000000
namespace Go.Proofs.Ytfmdmlfhigocaaa
open Go.VL
section
variable (t:List Int) (root parts:D) (bg nb:Nat) (Bs:List (List Bool)) (g b a:Nat) (C:List au) (p:Nat) (Lt:List Bool)
omit t root parts bg nb Bs g b a C p Lt in
theorem iq (l:List Bool) (n:Nat) (x:Bool):(l.map λx=>[V.d (D.sc (Value.bool x))]).set n [V.d (D.sc (Value.bool x))]=(l.set n x).map λx=>[V.d (D.sc (Value.bool x))]:=by rw[akv]
theorem ez {f:FuncId}{args:List V}{r:V}{s:List VL.Obj}{K:V->List VL.Obj->Prop} (h:az Try.prog f args [dK t root parts bg nb,fX bg Bs] λv s=>v=r/\s=[dK t root parts bg nb,fX bg Bs])
  (ha:args=args.map (aS [0,1])) (F6:ak.go 2 args=true) (hr:aS [0,1] r=r) (h0:s[0]?=some (dK t root parts bg nb)) (h1:s[1]?=some (fX bg Bs)) (hk:K r s):az Try.prog f args s K:=by
 have e0:bf [0,1] (dK t root parts bg nb)=dK t root parts bg nb:=rfl;refine ew [0,1] h aJ rfl ?_ ha F6 ?_ hr ?_
 ·simp only[aiZ,ai2,e0,fN,h0,h1]
 ·have:=ij 2 bg Bs;simp only[ajS,ajV,bc,ai8,ai9,Nat.reduceAdd,this,ajk];rfl
 ·simp only[aiZ,ai2,e0,fN,aO];have e1:s.set 0 (dK t root parts bg nb)=s:=by
   apply ajX;intro j;by_cases hj:j=0
   ·subst hj;rw[ajm (List.getElem?_eq_some_iff.1 h0).1,h0]
   ·rw[ajy (Ne.symm hj)]
  have e2:s.set 1 (fX bg Bs)=s:=by
   apply ajX;intro j;by_cases hj:j=1
   ·subst hj;rw[ajm (List.getElem?_eq_some_iff.1 h1).1,h1]
   ·rw[ajy (Ne.symm hj)]
  rw[e1,e2];exact hk
theorem Hn (hg:fw t Bs C) (oM:nb=Bs.length) (ht:t.length<=1000000) (hp:p<=t.length) (MP:Lt.length=C.length) (k:Nat) (IH:∀j,j+1=k->EOK t root parts bg nb Bs g b a C p Lt j):EOK t root parts bg nb Bs g b a C p Lt k:=by
 intro n st hn h1 h2 hu;have js:(n:Int)<(C.length:Int):=ae;have ie:(0:Int)<=(n:Int):=ae;have kx:n<st.kn.length:=ae;have yy:n<st.nw.length:=ae;have gR:=ij 11 bg Bs;have kX:((dK t root parts bg nb).aw.all λe=>e.all (ak 11))=true:=rfl;have Wj:((cP g b a C).aw.all λe=>e.all (ak 11))=true:=ll 11 g b a ae C;have kQ:((C.map (au.cells b a)).all λe=>e.all (ak 11))=true:=ll 11 g b a ae C;have hB:∀l:List Bool,((l.map λb=>[V.d (D.sc (Value.bool b))]).all λe=>e.all (ak 11))=true:=λl=>Dd 11 0 l;obtain⟨kb,pX⟩:∃kb,st.kn[n]?=some kb:=bZ kx;obtain⟨wb,BJ⟩:∃wb,st.nw[n]?=some wb:=bZ yy;obtain⟨i,hi⟩:∃i,C[n]?=some i:=bZ hn;have lP:bz C n=i:=by unfold bz;rw[aja,hi];rfl
 cases kb with
 |true =>
  have hr:bu t Bs C p Lt (k+1) n st=(wb,st):=by rw[bu,be (by rw[aja,pX];rfl),aja,BJ];rfl
  rw[hr];unfold dH lW;refine bk Try.func83 Try.ntmps83 Try.results83 11 134219647 ?_;simp only[zQ,simprocAttr,dH,lW,cf,aQ,dF,cx,yV,js,ie,kx,yy,hn,h1,h2,ai1,aiW,aiY,pX,BJ,ai3,ai7,kX,gR,Wj,hB,ajk]
 |false =>
  have hu1:=Ig pX;by_cases o0:i.op=0
  ·have hr:bu t Bs C p Lt (k+1) n st=(true,⟨st.kn.set n true,st.nw.set n true⟩):=by rw[bu,ap (by rw[aja,pX];simp),lP];simp only[o0,if_true]
   rw[hr];unfold dH lW;refine bk Try.func83 Try.ntmps83 Try.results83 11 134219647 ?_;simp only[zQ,simprocAttr,dH,lW,cf,aQ,dF,cx,yV,cP,js,ie,kx,yy,hn,h1,h2,ai1,aiW,aiY,pX,BJ,hi,ai3,ai7,au.cells,o0,iq,kX,gR,kQ,hB,ajk]
  by_cases o3:i.op=3
  ·obtain⟨x0,x1⟩:=hg.jump n hn (by rw[lP];exact o3);rw[lP]at x0 x1;obtain⟨X,hX⟩:∃X:Nat,i.x=X:=⟨i.x.toNat,ae⟩
   have Cg:X<C.length:=ae;obtain⟨j,rfl⟩:∃j,k=j+1:=⟨k-1,by have:=zM pX;omega⟩
   have hc:=λK hk=>mZ (IH j rfl) (n:=X) (st:=⟨st.kn.set n true,st.nw⟩) Cg (by simpa using h1) h2 oG (tl:=[⟨0,true,5,[[i64 3,i64 X,i64 i.y,i64 i.n,cq b a i.node]]⟩]) (K:=K) hk;have hr:bu t Bs C p Lt (j+1+1) n st=((bu t Bs C p Lt (j+1) X ⟨st.kn.set n true,st.nw⟩).1,⟨(bu t Bs C p Lt (j+1) X ⟨st.kn.set n true,st.nw⟩).2.kn,(bu t Bs C p Lt (j+1) X ⟨st.kn.set n true,st.nw⟩).2.nw.set n (bu t Bs C p Lt (j+1) X ⟨st.kn.set n true,st.nw⟩).1⟩):=by rw[bu,ap (by rw[aja,pX];simp),lP];simp only[o3,hX,ai1];rfl
   rw[hr];have hlen:=iC t Bs C p Lt (j+1) X ⟨st.kn.set n true,st.nw⟩;generalize bu t Bs C p Lt (j+1) X ⟨st.kn.set n true,st.nw⟩=R at *;have uA:n<R.2.nw.length:=by rw[hlen.2.1];exact yy
   obtain⟨wr,hwr⟩:∃wr,R.2.nw[n]?=some wr:=bZ uA;unfold dH lW at hc;unfold dH lW;refine bk Try.func83 Try.ntmps83 Try.results83 11 134219647 ?_;simp only[zQ,simprocAttr,dH,lW,cf,aQ,dF,cx,yV,cP,js,ie,kx,yy,hn,h1,h2,ai1,aiW,aiY,pX,BJ,hi,ai3,ai7,au.cells,o3,hX,iq,kX,gR,kQ,hB,ajk,aiX,ai0,ajp];refine hc _ ?_;simp only[zQ,simprocAttr,dH,lW,cf,aQ,dF,cx,yV,cP,js,ie,kx,yy,uA,hwr,hlen.2.1,hn,h1,h2,ai1,aiW,aiY,pX,BJ,hi,ai3,ai7,au.cells,o3,hX,iq,kX,gR,kQ,hB,ajk,aiX,ai0,ajp]
  by_cases o4:i.op=4
  ·have Cg:=hg.next n hn (by rw[lP];exact .inr (.inl o4));have hw:IntKind.i64.wrap ((n:Int)+1)=((n+1:Nat):Int):=by have:=hg.len;rw[bF _ ae];rfl
   obtain⟨j,rfl⟩:∃j,k=j+1:=⟨k-1,by have:=zM pX;omega⟩
   have hc:=λK hk=>mZ (IH j rfl) (n:=n+1) (st:=⟨st.kn.set n true,st.nw⟩) Cg (by simpa using h1) h2 oG (tl:=[⟨0,true,5,[[i64 4,i64 i.x,i64 i.y,i64 i.n,cq b a i.node]]⟩]) (K:=K) hk;have hr:bu t Bs C p Lt (j+1+1) n st=((bu t Bs C p Lt (j+1) (n+1) ⟨st.kn.set n true,st.nw⟩).1,⟨(bu t Bs C p Lt (j+1) (n+1) ⟨st.kn.set n true,st.nw⟩).2.kn,(bu t Bs C p Lt (j+1) (n+1) ⟨st.kn.set n true,st.nw⟩).2.nw.set n (bu t Bs C p Lt (j+1) (n+1) ⟨st.kn.set n true,st.nw⟩).1⟩):=by rw[bu,ap (by rw[aja,pX];simp),lP];simp only[o4];rfl
   rw[hr];have hlen:=iC t Bs C p Lt (j+1) (n+1) ⟨st.kn.set n true,st.nw⟩;generalize bu t Bs C p Lt (j+1) (n+1) ⟨st.kn.set n true,st.nw⟩=R at *;have uA:n<R.2.nw.length:=by rw[hlen.2.1];exact yy
   obtain⟨wr,hwr⟩:∃wr,R.2.nw[n]?=some wr:=bZ uA;unfold dH lW at hc;unfold dH lW;refine bk Try.func83 Try.ntmps83 Try.results83 11 134219647 ?_;simp only[zQ,simprocAttr,dH,lW,cf,aQ,dF,cx,yV,cP,js,ie,kx,yy,hn,h1,h2,ai1,aiW,aiY,pX,BJ,hi,ai3,ai7,au.cells,o4,hw,iq,kX,gR,kQ,hB,ajk,aiX,ai0,ajp];refine hc _ ?_;simp only[zQ,simprocAttr,dH,lW,cf,aQ,dF,cx,yV,cP,js,ie,kx,yy,uA,hwr,hlen.2.1,hn,h1,h2,ai1,aiW,aiY,pX,BJ,hi,ai3,ai7,au.cells,o4,hw,iq,kX,gR,kQ,hB,ajk,aiX,ai0,ajp]
  by_cases o1:i.op=1
  ·obtain⟨re,k',jf,Al,gD⟩:=hg.set n hn (by rw[lP];exact o1);rw[lP]at jf;have Cg:=hg.next n hn (by rw[lP];exact .inl o1);have hw:IntKind.i64.wrap ((n:Int)+1)=((n+1:Nat):Int):=by have:=hg.len;rw[bF _ ae];rfl
   have hX1:((n+1:Nat):Int)<(C.length:Int):=ae;have hX2:(0:Int)<=((n+1:Nat):Int):=ae;have hX3:n+1<C.length:=Cg;obtain⟨lv,hlv⟩:∃lv,Lt[n+1]?=some lv:=bZ;have tF:=DY t root parts bg nb Bs b a re k' p ae gD ht;have nY:i.pass t Bs p=(decide ((p:Int)<t.length)&&E7 re.set (oo t p)):=by unfold au.pass;rw[jf];simp only[Al,if_true]
   have hr:bu t Bs C p Lt (k+1) n st=(i.pass t Bs p&&lv,⟨st.kn.set n true,st.nw.set n (i.pass t Bs p&&lv)⟩):=by rw[bu,ap (by rw[aja,pX];simp),lP];simp only[o1,aja,hlv,akl];rfl
   rw[hr,nY];generalize (decide ((p:Int)<t.length)&&E7 re.set (oo t p))=y at *;unfold dH lW;cases y with
   |true =>
    refine bk Try.func83 Try.ntmps83 Try.results83 11 134219647 ?_;simp only[zQ,simprocAttr,dH,lW,cf,aQ,dF,cx,yV,cP,js,ie,kx,yy,hn,h1,h2,ai1,aiW,aiY,pX,BJ,hi,ai3,ai7,au.cells,o1,jf,Al,cq,mB,nB,if_true,hw,hlv,MP,hX1,hX2,hX3,iq,kX,gR,kQ,hB,ajk,aiX,ai0,ajp];refine ez t root parts bg nb Bs tF rfl rfl rfl rfl rfl ?_;simp only[zQ,simprocAttr,dH,lW,cf,aQ,dF,cx,yV,cP,js,ie,kx,yy,hn,h1,h2,ai1,aiW,aiY,pX,BJ,hi,ai3,ai7,au.cells,o1,jf,Al,cq,mB,nB,if_true,hw,hlv,MP,hX1,hX2,hX3,iq,kX,gR,kQ,hB,ajk,aiX,ai0,ajp]
   |false =>
    refine bk Try.func83 Try.ntmps83 Try.results83 11 134219647 ?_;simp only[zQ,simprocAttr,dH,lW,cf,aQ,dF,cx,yV,cP,js,ie,kx,yy,hn,h1,h2,ai1,aiW,aiY,pX,BJ,hi,ai3,ai7,au.cells,o1,jf,Al,cq,mB,nB,if_true,hw,hlv,MP,hX1,hX2,hX3,iq,kX,gR,kQ,hB,ajk,aiX,ai0,ajp];refine ez t root parts bg nb Bs tF rfl rfl rfl rfl rfl ?_;simp only[zQ,simprocAttr,dH,lW,cf,aQ,dF,cx,yV,cP,js,ie,kx,yy,hn,h1,h2,ai1,aiW,aiY,pX,BJ,hi,ai3,ai7,au.cells,o1,jf,Al,cq,mB,nB,if_true,hw,hlv,MP,hX1,hX2,hX3,iq,kX,gR,kQ,hB,ajk,aiX,ai0,ajp];exact⟨rfl,rfl⟩
  by_cases o5:i.op=5
  ·obtain⟨re,k',jf,Al,Z9,JG⟩:=hg.ask n hn (by rw[lP];exact o5);rw[lP]at jf;have Cg:=hg.next n hn (by rw[lP];exact .inr (.inr o5));have hw:IntKind.i64.wrap ((n:Int)+1)=((n+1:Nat):Int):=by have:=hg.len;rw[bF _ ae];rfl
   by_cases jK:re.op=11
   ·have tF:=xE t root parts bg nb Bs b a re k' p ae ae (Z9 jK).1 (Z9 jK).2 ht;have nY:i.pass t Bs p=bY re.n t p:=by unfold au.pass;rw[jf];simp only[jK];rfl
    generalize bY re.n t p=y at *;cases y with
    |true =>
     obtain⟨j,rfl⟩:∃j,k=j+1:=⟨k-1,by have:=zM pX;omega⟩
     have hc:=λK hk=>mZ (IH j rfl) (n:=n+1) (st:=⟨st.kn.set n true,st.nw⟩) Cg (by simpa using h1) h2 oG (tl:=[⟨0,true,5,[[i64 5,i64 i.x,i64 i.y,i64 i.n,.cl (.func 59) [] [nB re k',mB b a]]]⟩]) (K:=K) hk;have hr:bu t Bs C p Lt (j+1+1) n st=((bu t Bs C p Lt (j+1) (n+1) ⟨st.kn.set n true,st.nw⟩).1,⟨(bu t Bs C p Lt (j+1) (n+1) ⟨st.kn.set n true,st.nw⟩).2.kn,(bu t Bs C p Lt (j+1) (n+1) ⟨st.kn.set n true,st.nw⟩).2.nw.set n (bu t Bs C p Lt (j+1) (n+1) ⟨st.kn.set n true,st.nw⟩).1⟩):=by rw[bu,ap (by rw[aja,pX];simp),lP];simp only[o5,nY,if_true];rfl
     rw[hr];have hlen:=iC t Bs C p Lt (j+1) (n+1) ⟨st.kn.set n true,st.nw⟩;generalize bu t Bs C p Lt (j+1) (n+1) ⟨st.kn.set n true,st.nw⟩=R at *;have uA:n<R.2.nw.length:=by rw[hlen.2.1];exact yy
     obtain⟨wr,hwr⟩:∃wr,R.2.nw[n]?=some wr:=bZ uA;unfold dH lW at hc;unfold dH lW;refine bk Try.func83 Try.ntmps83 Try.results83 11 134219647 ?_;simp only[zQ,simprocAttr,dH,lW,cf,aQ,dF,cx,yV,cP,js,ie,kx,yy,hn,h1,h2,ai1,aiW,aiY,pX,BJ,hi,ai3,ai7,au.cells,o5,jf,Al,cq,mB,nB,if_true,if_false,hw,iq,kX,gR,kQ,hB,ajk,aiX,ai0,ajp,jK];refine ez t root parts bg nb Bs tF rfl rfl rfl rfl rfl ?_;simp only[zQ,simprocAttr,dH,lW,cf,aQ,dF,cx,yV,cP,js,ie,kx,yy,hn,h1,h2,ai1,aiW,aiY,pX,BJ,hi,ai3,ai7,au.cells,o5,jf,Al,cq,mB,nB,if_true,if_false,hw,iq,kX,gR,kQ,hB,ajk,aiX,ai0,ajp,jK];refine hc _ ?_;simp only[zQ,simprocAttr,dH,lW,cf,aQ,dF,cx,yV,cP,js,ie,kx,yy,hn,h1,h2,ai1,aiW,aiY,pX,BJ,hi,ai3,ai7,au.cells,o5,jf,Al,cq,mB,nB,if_true,if_false,hw,iq,kX,gR,kQ,hB,ajk,aiX,ai0,ajp,jK,uA,hwr,hlen.2.1]
    |false =>
     have hr:bu t Bs C p Lt (k+1) n st=(false,⟨st.kn.set n true,st.nw.set n false⟩):=by rw[bu,ap (by rw[aja,pX];simp),lP];simp only[o5,nY];rfl
     rw[hr];unfold dH lW;refine bk Try.func83 Try.ntmps83 Try.results83 11 134219647 ?_;simp only[zQ,simprocAttr,dH,lW,cf,aQ,dF,cx,yV,cP,js,ie,kx,yy,hn,h1,h2,ai1,aiW,aiY,pX,BJ,hi,ai3,ai7,au.cells,o5,jf,Al,cq,mB,nB,if_true,if_false,hw,iq,kX,gR,kQ,hB,ajk,aiX,ai0,ajp,jK];refine ez t root parts bg nb Bs tF rfl rfl rfl rfl rfl ?_;simp only[zQ,simprocAttr,dH,lW,cf,aQ,dF,cx,yV,cP,js,ie,kx,yy,hn,h1,h2,ai1,aiW,aiY,pX,BJ,hi,ai3,ai7,au.cells,o5,jf,Al,cq,mB,nB,if_true,if_false,hw,iq,kX,gR,kQ,hB,ajk,aiX,ai0,ajp,jK]
   ·obtain⟨l,tN,y9⟩:=JG jK;obtain⟨y,hy⟩:∃y,l[p]?=some y:=bZ;have tF:=BA t root parts bg nb Bs b a re k' p oM tN hy;have nY:i.pass t Bs p=y:=by unfold au.pass;rw[jf];simp only[Al,jK,if_false,aja,tN,akl,hy]
    cases y with
    |true =>
     obtain⟨j,rfl⟩:∃j,k=j+1:=⟨k-1,by have:=zM pX;omega⟩
     have hc:=λK hk=>mZ (IH j rfl) (n:=n+1) (st:=⟨st.kn.set n true,st.nw⟩) Cg (by simpa using h1) h2 oG (tl:=[⟨0,true,5,[[i64 5,i64 i.x,i64 i.y,i64 i.n,.cl (.func 61) [] [mB b a,nB re k']]]⟩]) (K:=K) hk;have hr:bu t Bs C p Lt (j+1+1) n st=((bu t Bs C p Lt (j+1) (n+1) ⟨st.kn.set n true,st.nw⟩).1,⟨(bu t Bs C p Lt (j+1) (n+1) ⟨st.kn.set n true,st.nw⟩).2.kn,(bu t Bs C p Lt (j+1) (n+1) ⟨st.kn.set n true,st.nw⟩).2.nw.set n (bu t Bs C p Lt (j+1) (n+1) ⟨st.kn.set n true,st.nw⟩).1⟩):=by rw[bu,ap (by rw[aja,pX];simp),lP];simp only[o5,nY,if_true];rfl
     rw[hr];have hlen:=iC t Bs C p Lt (j+1) (n+1) ⟨st.kn.set n true,st.nw⟩;generalize bu t Bs C p Lt (j+1) (n+1) ⟨st.kn.set n true,st.nw⟩=R at *;have uA:n<R.2.nw.length:=by rw[hlen.2.1];exact yy
     obtain⟨wr,hwr⟩:∃wr,R.2.nw[n]?=some wr:=bZ uA;unfold dH lW at hc;unfold dH lW;refine bk Try.func83 Try.ntmps83 Try.results83 11 134219647 ?_;simp only[zQ,simprocAttr,dH,lW,cf,aQ,dF,cx,yV,cP,js,ie,kx,yy,hn,h1,h2,ai1,aiW,aiY,pX,BJ,hi,ai3,ai7,au.cells,o5,jf,Al,cq,mB,nB,if_true,if_false,hw,iq,kX,gR,kQ,hB,ajk,aiX,ai0,ajp,jK];refine ez t root parts bg nb Bs tF rfl rfl rfl rfl rfl ?_;simp only[zQ,simprocAttr,dH,lW,cf,aQ,dF,cx,yV,cP,js,ie,kx,yy,hn,h1,h2,ai1,aiW,aiY,pX,BJ,hi,ai3,ai7,au.cells,o5,jf,Al,cq,mB,nB,if_true,if_false,hw,iq,kX,gR,kQ,hB,ajk,aiX,ai0,ajp,jK];refine hc _ ?_;simp only[zQ,simprocAttr,dH,lW,cf,aQ,dF,cx,yV,cP,js,ie,kx,yy,hn,h1,h2,ai1,aiW,aiY,pX,BJ,hi,ai3,ai7,au.cells,o5,jf,Al,cq,mB,nB,if_true,if_false,hw,iq,kX,gR,kQ,hB,ajk,aiX,ai0,ajp,jK,uA,hwr,hlen.2.1]
    |false =>
     have hr:bu t Bs C p Lt (k+1) n st=(false,⟨st.kn.set n true,st.nw.set n false⟩):=by rw[bu,ap (by rw[aja,pX];simp),lP];simp only[o5,nY];rfl
     rw[hr];unfold dH lW;refine bk Try.func83 Try.ntmps83 Try.results83 11 134219647 ?_;simp only[zQ,simprocAttr,dH,lW,cf,aQ,dF,cx,yV,cP,js,ie,kx,yy,hn,h1,h2,ai1,aiW,aiY,pX,BJ,hi,ai3,ai7,au.cells,o5,jf,Al,cq,mB,nB,if_true,if_false,hw,iq,kX,gR,kQ,hB,ajk,aiX,ai0,ajp,jK];refine ez t root parts bg nb Bs tF rfl rfl rfl rfl rfl ?_;simp only[zQ,simprocAttr,dH,lW,cf,aQ,dF,cx,yV,cP,js,ie,kx,yy,hn,h1,h2,ai1,aiW,aiY,pX,BJ,hi,ai3,ai7,au.cells,o5,jf,Al,cq,mB,nB,if_true,if_false,hw,iq,kX,gR,kQ,hB,ajk,aiX,ai0,ajp,jK]
  by_cases o2:i.op=2
  ·obtain⟨x0,x1,y0,y1⟩:=hg.split n hn (by rw[lP];exact o2);rw[lP]at x0 x1 y0 y1;obtain⟨X,hX⟩:∃X:Nat,i.x=X:=⟨i.x.toNat,ae⟩
   obtain⟨Y,hY⟩:∃Y:Nat,i.y=Y:=⟨i.y.toNat,ae⟩
   have Cg:X<C.length:=ae;have hYC:Y<C.length:=ae;obtain⟨j,rfl⟩:∃j,k=j+1:=⟨k-1,by have:=zM pX;omega⟩
   have hc:=λK hk=>mZ (IH j rfl) (n:=X) (st:=⟨st.kn.set n true,st.nw⟩) Cg (by simpa using h1) h2 oG (tl:=[⟨0,true,5,[[i64 2,i64 X,i64 Y,i64 i.n,cq b a i.node]]⟩]) (K:=K) hk;have hlen:=iC t Bs C p Lt (j+1) X ⟨st.kn.set n true,st.nw⟩;have hr:bu t Bs C p Lt (j+1+1) n st=(if (bu t Bs C p Lt (j+1) X ⟨st.kn.set n true,st.nw⟩).1=true then ((bu t Bs C p Lt (j+1) X ⟨st.kn.set n true,st.nw⟩).1,⟨(bu t Bs C p Lt (j+1) X ⟨st.kn.set n true,st.nw⟩).2.kn,(bu t Bs C p Lt (j+1) X ⟨st.kn.set n true,st.nw⟩).2.nw.set n (bu t Bs C p Lt (j+1) X ⟨st.kn.set n true,st.nw⟩).1⟩)
     else ((bu t Bs C p Lt (j+1) Y (bu t Bs C p Lt (j+1) X ⟨st.kn.set n true,st.nw⟩).2).1,⟨(bu t Bs C p Lt (j+1) Y (bu t Bs C p Lt (j+1) X ⟨st.kn.set n true,st.nw⟩).2).2.kn,(bu t Bs C p Lt (j+1) Y (bu t Bs C p Lt (j+1) X ⟨st.kn.set n true,st.nw⟩).2).2.nw.set n (bu t Bs C p Lt (j+1) Y (bu t Bs C p Lt (j+1) X ⟨st.kn.set n true,st.nw⟩).2).1⟩)):=by
    rw[bu,ap (by rw[aja,pX];simp),lP];simp only[o2,hX,hY,ai1];generalize bu t Bs C p Lt (j+1) X ⟨st.kn.set n true,st.nw⟩=A;by_cases hh:A.1=true <;> simp [hh]
   rw[hr];clear hr;generalize bu t Bs C p Lt (j+1) X ⟨st.kn.set n true,st.nw⟩=R at *;have uz:=λK hk=>mZ (IH j rfl) (n:=Y) (st:=R.2) hYC (by rw[hlen.1];simpa using h1) (by rw[hlen.2.1];exact h2) (aj0 hlen.2.2 oG) (tl:=[⟨0,true,5,[[i64 2,i64 X,i64 Y,i64 i.n,cq b a i.node]]⟩]) (K:=K) hk;have ES:=iC t Bs C p Lt (j+1) Y R.2;generalize bu t Bs C p Lt (j+1) Y R.2=R2 at *;have uA:n<R.2.nw.length:=by rw[hlen.2.1];exact yy
   have Z0:n<R2.2.nw.length:=by rw[ES.2.1];exact uA
   obtain⟨wr,hwr⟩:∃wr,R.2.nw[n]?=some wr:=bZ uA;obtain⟨wr2,aeq⟩:∃wr,R2.2.nw[n]?=some wr:=bZ Z0;obtain⟨r1,F0⟩:=R;simp only at hc uz hlen ES uA hwr ⊢;unfold dH lW at hc uz;unfold dH lW;cases r1 with
   |true =>
    rw[be rfl];refine bk Try.func83 Try.ntmps83 Try.results83 11 134219647 ?_;simp only[zQ,simprocAttr,dH,lW,cf,aQ,dF,cx,yV,cP,js,ie,kx,yy,hn,h1,h2,ai1,aiW,aiY,pX,BJ,hi,ai3,ai7,au.cells,o2,hX,hY,iq,kX,gR,kQ,hB,ajk,aiX,ai0,ajp];refine hc _ ?_;simp only[zQ,simprocAttr,dH,lW,cf,aQ,dF,cx,yV,cP,js,ie,kx,yy,hn,h1,h2,ai1,aiW,aiY,pX,BJ,hi,ai3,ai7,au.cells,o2,hX,hY,iq,kX,gR,kQ,hB,ajk,aiX,ai0,ajp,uA,hwr,hlen.2.1]
   |false =>
    rw[ap aj];refine bk Try.func83 Try.ntmps83 Try.results83 11 134219647 ?_;simp only[zQ,simprocAttr,dH,lW,cf,aQ,dF,cx,yV,cP,js,ie,kx,yy,hn,h1,h2,ai1,aiW,aiY,pX,BJ,hi,ai3,ai7,au.cells,o2,hX,hY,iq,kX,gR,kQ,hB,ajk,aiX,ai0,ajp];refine hc _ ?_;simp only[zQ,simprocAttr,dH,lW,cf,aQ,dF,cx,yV,cP,js,ie,kx,yy,hn,h1,h2,ai1,aiW,aiY,pX,BJ,hi,ai3,ai7,au.cells,o2,hX,hY,iq,kX,gR,kQ,hB,ajk,aiX,ai0,ajp,uA,hwr,hlen.2.1];refine uz _ ?_;simp only[zQ,simprocAttr,dH,lW,cf,aQ,dF,cx,yV,cP,js,ie,kx,yy,hn,h1,h2,ai1,aiW,aiY,pX,BJ,hi,ai3,ai7,au.cells,o2,hX,hY,iq,kX,gR,kQ,hB,ajk,aiX,ai0,ajp,Z0,aeq,hlen.2.1,ES.2.1]
  have An:=hg.ops n hn;rw[lP]at An;omega
theorem Hi (hg:fw t Bs C) (oM:nb=Bs.length) (ht:t.length<=1000000) (hp:p<=t.length) (MP:Lt.length=C.length):∀k,EOK t root parts bg nb Bs g b a C p Lt k
 |0=>Hn t root parts bg nb Bs g b a C p Lt hg oM ht hp MP 0 (λj h=>ae)
 |k+1=>Hn t root parts bg nb Bs g b a C p Lt hg oM ht hp MP (k+1) (λj h=>by
  have:j=k:=ae;subst this;exact Hi hg oM ht hp MP j)
end
variable{l:List Nat}
structure sC where
 ad:List Nat
 ho:List Bool
 rd:List Nat
 gn:Nat
def fy (p:Nat) (l:List Nat):Nat:=l.countP λx=>x != p+1
def gJ (t:List Int) (Bs:List (List Bool)) (C:List au) (p:Nat):Nat->Nat->sC->sC
 |0,_,st=>st
 |k+1,n,st =>
  if st.ad[n]?=none\/st.ad[n]?=some (p+1) then st else
  let dM:sC:=⟨st.ad.set n (p+1),st.ho,st.rd,st.gn⟩
  let i:=bz C n
  if i.op=0 then ⟨dM.ad,dM.ho.set p true,dM.rd,dM.gn⟩
  else if i.op=1 then (if i.pass t Bs p=true then ⟨dM.ad,dM.ho,dM.rd++[n],dM.gn+1⟩ else dM)
  else if i.op=2 then gJ t Bs C p k i.y.toNat (gJ t Bs C p k i.x.toNat dM)
  else if i.op=3 then gJ t Bs C p k i.x.toNat dM
  else if i.op=4 then gJ t Bs C p k (n+1) dM
  else if i.op=5 then (if i.pass t Bs p=true then gJ t Bs C p k (n+1) dM else dM)
  else dM
theorem rI {p n:Nat}{x:Nat} (h:l[n]?=some x) (hx:x≠p+1):fy p (l.set n (p+1))+1=fy p l:=by unfold fy;have hn:=(List.getElem?_eq_some_iff.1 h).1;have he:l[n]=x:=(List.getElem?_eq_some_iff.1 h).2;have hp:0<l.countP λx=>x != p+1:=List.countP_pos_iff.2 ⟨x,ai4 h,by simp [hx]⟩;rw[List.countP_set hn,he];simp [hx];omega
theorem KC {p n:Nat}{x:Nat} (h:l[n]?=some x) (hx:x≠p+1):0<fy p l:=List.countP_pos_iff.2 ⟨x,ai4 h,by simp [hx]⟩
section
variable (t:List Int) (Bs:List (List Bool)) (C:List au) (p:Nat)
def ta (st st':sC):Prop:=st'.ad.length=st.ad.length/\st'.ho.length=st.ho.length/\fy p st'.ad<=fy p st.ad/\st'.rd.length+fy p st'.ad<=st.rd.length+fy p st.ad/\∀e∈st'.rd,e∈st.rd\/(bz C e).op=1
variable {C p}
theorem ta.refl (st:sC):ta C p st st:=⟨rfl,rfl,ajc _,ajc _,λ_ h=>.inl h⟩
theorem ta.trans {a b c:sC} (h:ta C p a b) (k:ta C p b c):ta C p a c :=
 ⟨k.1.trans h.1,k.2.1.trans h.2.1,aj0 k.2.2.1 h.2.2.1,aj0 k.2.2.2.1 h.2.2.2.1,λe he=>(k.2.2.2.2 e he).elim (λh'=>h.2.2.2.2 e h') .inr⟩
variable (C p)
theorem CD:∀(k n:Nat) (st:sC),ta C p st (gJ t Bs C p k n st)
 |0,_,st=>.refl st
 |k+1,n,st=>by
  have ih:=CD k;rw[gJ];split
  ·exact .refl st
  ·rename_i hk;obtain⟨x,hx⟩:∃x,st.ad[n]?=some x:=by
    cases h:st.ad[n]? with
    |none=>exact absurd (.inl h) hk
    |some x=>exact⟨x,rfl⟩
   have x4:x≠p+1:=λh=>hk (.inr (by rw[hx,h]));have hu:=rI hx x4;have key:ta C p st ⟨st.ad.set n (p+1),st.ho,st.rd,st.gn⟩:=⟨aj,rfl,oG,oG,λ_ h=>.inl h⟩
   simp only;split
   ·exact key.trans ⟨rfl,aj,ajc _,ajc _,λ_ h=>.inl h⟩
   split
   ·split
    ·rename_i h1 _;refine⟨aj,rfl,oG,by simp only[ai6,ajz];omega,λe he=>?_⟩;rcases List.mem_append.1 he with h|h
     ·exact .inl h
     ·rw[List.mem_singleton.1 h];exact .inr h1
    ·exact key
   split
   ·exact(key.trans (ih _ _)).trans (ih _ _)
   split
   ·exact key.trans (ih _ _)
   split
   ·exact key.trans (ih _ _)
   split
   ·split
    ·exact key.trans (ih _ _)
    ·exact key
   ·exact key
end
def bw (q:Nat) (l:List Nat):VL.Obj:=⟨q,true,1,l.map λ(x:Nat)=>[i64 (x:Int)]⟩
def dB (k q n:Nat):VL.Obj:=⟨0,true,1,[[.so k q 0 n]]⟩
def B4 (g N:Nat):V:=.cl (.func 85) [] [.rf 4 0 0 0,.bx (.so 2 g 0 N),.rf 6 0 0 0,.rf 8 0 0 0,.rf 9 0 0 0]
def fM (t:List Int) (root parts:D) (bg nb:Nat) (Bs:List (List Bool)) (g b a:Nat) (C:List au) (st:sC):List VL.Obj :=
 [dK t root parts bg nb,fX bg Bs,cP g b a C,bw 0 st.ad,dF 0 3 C.length,cx 0 st.ho,dF 0 5 (t.length+1),bw st.gn st.rd,dB 7 st.gn st.rd.length,⟨0,true,1,[[B4 g C.length]]⟩]
def eW (g N n p:Nat):List V:=[i64 n,i64 p,.rf 4 0 0 0,.bx (.so 2 g 0 N),.rf 6 0 0 0,.rf 8 0 0 0,.rf 9 0 0 0]
theorem pa (ρ:List Nat) (q:Nat) (l:List Nat):bf ρ (bw q l)=bw q l:=by unfold bf bw;simp only[ajL];congr 1
theorem oF (n q:Nat) (l:List Nat):bc n (bw q l)=true:=by unfold bc bw;rw[ajo];intro e he;obtain⟨i,_,rfl⟩:=List.mem_map.1 he;rfl
theorem rE (t:List Int) (root parts:D) (bg nb:Nat) (Bs:List (List Bool)) (b a:Nat) (C:List au) (hg:fw t Bs C) (oM:nb=Bs.length) (ht:t.length<=1000000) {n:Nat} (hn:n<C.length) (ho:(bz C n).op=1\/(bz C n).op=5) (p:Nat) (hp:p<=t.length) :
  ∃VS ai,cq b a (bz C n).node=.cl (.func VS) [] ai/\ak.go 2 ai=true/\ai.map (aS [0,1])=ai /\
   az Try.prog VS (i64 (p:Int)::ai) [dK t root parts bg nb,fX bg Bs] λv s=>v=bV ((bz C n).pass t Bs p)/\s=[dK t root parts bg nb,fX bg Bs]:=by
 rcases ho with o|o
 ·obtain⟨re,k,h1,h2,h3⟩:=hg.set n hn o;have tF:=DY t root parts bg nb Bs b a re k p ae h3 ht;rw[h1];refine⟨57,[mB b a,nB re k],by unfold cq;simp only[h2,if_true],?_,?_,?_⟩
  ·simp [ak,ak.go,mB,nB]
  ·simp [aS,aS.go,mB,nB]
  ·have:(bz C n).pass t Bs p=(decide ((p:Int)<t.length)&&E7 re.set (oo t p)):=by unfold au.pass;rw[h1];simp only[h2,if_true]
   rw[this];exact tF
 ·obtain⟨re,k,h1,h2,h3,h4⟩:=hg.ask n hn o;rw[h1];by_cases jK:re.op=11
  ·have tF:=xE t root parts bg nb Bs b a re k p ae ae (h3 jK).1 (h3 jK).2 ht;refine⟨59,[nB re k,mB b a],by unfold cq;simp only[jK];rfl,?_,?_,?_⟩
   ·simp [ak,ak.go,mB,nB]
   ·simp [aS,aS.go,mB,nB]
   ·have:(bz C n).pass t Bs p=bY re.n t p:=by unfold au.pass;rw[h1];simp only[jK];rfl
    rw[this];exact tF
  ·obtain⟨l,tN,y9⟩:=h4 jK;obtain⟨y,hy⟩:∃y,l[p]?=some y:=bZ;have tF:=BA t root parts bg nb Bs b a re k p oM tN hy;refine⟨61,[mB b a,nB re k],by unfold cq;simp only[h2,jK,if_false],?_,?_,?_⟩
   ·simp [ak,ak.go,mB,nB]
   ·simp [aS,aS.go,mB,nB]
   ·have:(bz C n).pass t Bs p=y:=by unfold au.pass;rw[h1];simp only[h2,jK,if_false,aja,tN,akl,hy]
    rw[this];exact tF
section
variable (t:List Int) (root parts:D) (bg nb:Nat) (Bs:List (List Bool)) (g b a:Nat) (C:List au) (p:Nat)
theorem MH (st:sC):(fM t root parts bg nb Bs g b a C st).map (bf [0,1,2,3,4,5,6,7,8,9])=fM t root parts bg nb Bs g b a C st:=by simp only[fM,aiZ,ai2,kY,zN,fN,pa];simp [bf,dK,dF,dB,B4,aS,aS.go,i64]
theorem O5 (st:sC):(fM t root parts bg nb Bs g b a C st).all (bc 10)=true:=by have:=ij 10 bg Bs;simp only[fM,ajS,ajV,ll 10 _ _ _ ae,Dd,oF,ajk];simp [bc,dK,dF,dB,B4,ak,ak.go,i64,this]
def Mx (k:Nat):Prop:=∀(n:Nat) (st:sC),n<C.length->st.ad.length=C.length->st.ho.length=t.length+1->fy p st.ad<=k->st.rd.length+fy p st.ad<=C.length ->
 az Try.prog 85 (eW g C.length n p) (fM t root parts bg nb Bs g b a C st) λv s=>v=.tu []/\s=fM t root parts bg nb Bs g b a C (gJ t Bs C p (k+1) n st)
variable {t root parts bg nb Bs g b a C p}
theorem GU {k n:Nat}{st:sC} (h:Mx t root parts bg nb Bs g b a C p k) (hn:n<C.length) (h1:st.ad.length=C.length) (h2:st.ho.length=t.length+1) (hu:fy p st.ad<=k) (hr:st.rd.length+fy p st.ad<=C.length) {tl:List VL.Obj}{K:V->List VL.Obj->Prop}
  (hk:K (.tu []) (fM t root parts bg nb Bs g b a C (gJ t Bs C p (k+1) n st)++tl)) :
  az Try.prog 85 (eW g C.length n p) (fM t root parts bg nb Bs g b a C st++tl) K:=by
 have Fu:=MH t root parts bg nb Bs g b a C st;refine ew [0,1,2,3,4,5,6,7,8,9] (h n st hn h1 h2 hu hr) aJ rfl ?_ aN aN (O5 t root parts bg nb Bs g b a C st) (r':=.tu []) rfl ?_
 ·have h2:(fM t root parts bg nb Bs g b a C st).map (λo=>some (bf [0,1,2,3,4,5,6,7,8,9] o))=((fM t root parts bg nb Bs g b a C st).map (bf [0,1,2,3,4,5,6,7,8,9])).map some:=by rw[ajL];rfl
  rw[h2,Fu];rfl
 ·rw[MH];exact hk
end
end Go.Proofs.Ytfmdmlfhigocaaa
