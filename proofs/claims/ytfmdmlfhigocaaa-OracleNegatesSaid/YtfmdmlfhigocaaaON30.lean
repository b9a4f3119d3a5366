/- A part of the proof (O7 O9). -/
import Derived.Test.YtfmdmlfhigocaaaON28
set_option linter.unusedSimpArgs false
set_option linter.unusedVariables false
open Nat renaming reduceShiftRight → cQ, reduceMod → dx, reduceLT → dB, reduceMul → dC, reduceSub → dD, reduceEqDiff → eI, reduceAdd → eJ, reduceLeDiff → fX, reduceBEq → gj
open Int renaming reduceToNat → gl, reduceNeg → ja, reduceLT → jg, reduceLE → jk, reduceEq → mA
set_option maxRecDepth 100000
set_option maxHeartbeats 80000000
namespace Go.Proofs.Ytfmdmlfhigocaaa
open Go.VL
section
variable (t:List Int) (root parts:D) (bg nb:Nat) (Bs:List (List Bool)) (g b a:Nat) (C:List ay) (p:Nat) (Lt:List Bool)
omit t root parts bg nb Bs g b a C p Lt in
theorem gx (l:List Bool) (n:Nat) (x:Bool):(l.map λx=>[V.d (D.sc (Value.bool x))]).set n [V.d (D.sc (Value.bool x))]=(l.set n x).map λx=>[V.d (D.sc (Value.bool x))]:=by rw[ahg]
theorem dN {f:FuncId}{args:List V}{r:V}{s:List VL.Obj}{K:V->List VL.Obj->Prop} (h:aq Try.prog f args [dp t root parts bg nb,fr bg Bs] λv s=>v=r/\s=[dp t root parts bg nb,fr bg Bs])
  (ha:args=args.map (aL [0,1])) (DC:ah.go 2 args=true) (hr:aL [0,1] r=r) (h0:s[0]?=some (dp t root parts bg nb)) (h1:s[1]?=some (fr bg Bs)) (hk:K r s):aq Try.prog f args s K:=by
 have e0:aT [0,1] (dp t root parts bg nb)=dp t root parts bg nb:=rfl;refine cH [0,1] h (by decide) rfl ?_ ha DC ?_ hr ?_
 ·simp only[afR,afU,e0,fh,h0,h1]
 ·have:=gr 2 bg Bs;simp only[agq,agA,aG,afZ,af0,eJ,this,af5];rfl
 ·simp only[afR,afU,e0,fh,aE];have e1:s.set 0 (dp t root parts bg nb)=s:=by
   apply agT;intro j;by_cases hj:j=0
   ·subst hj;rw[agc (List.getElem?_eq_some_iff.1 h0).1,h0]
   ·rw[agp (Ne.symm hj)]
  have e2:s.set 1 (fr bg Bs)=s:=by
   apply agT;intro j;by_cases hj:j=1
   ·subst hj;rw[agc (List.getElem?_eq_some_iff.1 h1).1,h1]
   ·rw[agp (Ne.symm hj)]
  rw[e1,e2];exact hk
theorem EO (hg:m8 t Bs C) (nr:nb=Bs.length) (ht:t.length<=1000000) (hp:p<=t.length) (RD:Lt.length=C.length) (k:Nat) (IH:∀j,j+1=k->YX t root parts bg nb Bs g b a C p Lt j):YX t root parts bg nb Bs g b a C p Lt k:=by
 intro n st hn h1 h2 hu;have iw:(n:Int)<(C.length:Int):=by omega
 have gp:(0:Int)<=(n:Int):=by omega
 have jv:n<st.kn.length:=by omega
 have wy:n<st.nw.length:=by omega
 have ju:=gr 11 bg Bs;have ky:((dp t root parts bg nb).aw.all λe=>e.all (ah 11))=true:=rfl;have MF:((cG g b a C).aw.all λe=>e.all (ah 11))=true:=kj 11 g b a (by omega) C;have jD:((C.map (ay.cells b a)).all λe=>e.all (ah 11))=true:=kj 11 g b a (by omega) C;have hB:∀l:List Bool,((l.map λb=>[V.d (D.sc (Value.bool b))]).all λe=>e.all (ah 11))=true:=λl=>AW 11 0 l;obtain⟨kb,qg⟩:∃kb,st.kn[n]?=some kb:=⟨_,afP jv⟩
 obtain⟨wb,zE⟩:∃wb,st.nw[n]?=some wb:=⟨_,afP wy⟩
 obtain⟨i,hi⟩:∃i,C[n]?=some i:=⟨_,afP hn⟩
 have kH:eV C n=i:=by unfold eV;rw[af9,hi];rfl
 cases kb with
 |true =>
  have hr:bB t Bs C p Lt (k+1) n st=(wb,st):=by rw[bB,be (by rw[af9,qg];rfl),af9,zE];rfl
  rw[hr];unfold dh kP;refine an Try.func83 rfl Try.ntmps83 Try.results83 rfl 11 134219647 (by simp) (by simp) ?_;simp only[zX,cQ,dx,dB,dC,dD,gl,ja,jg,jk,mA,eI,eJ,fX,reduceIte,reduceCtorEq,gj,i64,bV,iD,bD,dh,kP,bU,aP,dc,b5,wZ,iw,gp,jv,wy,hn,h1,h2,afT,afN,afO,qg,zE,afV,afX,ky,ju,MF,hB,af5]
 |false =>
  have hu1:=LI qg;by_cases o0:i.op=0
  ·have hr:bB t Bs C p Lt (k+1) n st=(true,⟨st.kn.set n true,st.nw.set n true⟩):=by rw[bB,ap (by rw[af9,qg];simp),kH];simp only[o0,if_true]
   rw[hr];unfold dh kP;refine an Try.func83 rfl Try.ntmps83 Try.results83 rfl 11 134219647 (by simp) (by simp) ?_;simp only[zX,cQ,dx,dB,dC,dD,gl,ja,jg,jk,mA,eI,eJ,fX,reduceIte,reduceCtorEq,gj,i64,bV,iD,bD,dh,kP,bU,aP,dc,b5,wZ,cG,iw,gp,jv,wy,hn,h1,h2,afT,afN,afO,qg,zE,hi,afV,afX,ay.cells,o0,gx,ky,ju,jD,hB,af5]
  by_cases o3:i.op=3
  ·obtain⟨x0,x1⟩:=hg.jump n hn (by rw[kH];exact o3);rw[kH]at x0 x1;obtain⟨X,hX⟩:∃X:Nat,i.x=X:=⟨i.x.toNat,by omega⟩
   have Ag:X<C.length:=by omega
   obtain⟨j,rfl⟩:∃j,k=j+1:=⟨k-1,by have:=xW qg;omega⟩
   have hc:=λK hk=>lX (IH j rfl) (n:=X) (st:=⟨st.kn.set n true,st.nw⟩) Ag (by simpa using h1) h2 (by simp only;omega) (tl:=[⟨0,true,5,[[i64 3,i64 X,i64 i.y,i64 i.n,bY b a i.node]]⟩]) (K:=K) hk;have hr:bB t Bs C p Lt (j+1+1) n st=((bB t Bs C p Lt (j+1) X ⟨st.kn.set n true,st.nw⟩).1,⟨(bB t Bs C p Lt (j+1) X ⟨st.kn.set n true,st.nw⟩).2.kn,(bB t Bs C p Lt (j+1) X ⟨st.kn.set n true,st.nw⟩).2.nw.set n (bB t Bs C p Lt (j+1) X ⟨st.kn.set n true,st.nw⟩).1⟩):=by rw[bB,ap (by rw[af9,qg];simp),kH];simp only[o3,hX,afT];rfl
   rw[hr];have hlen:=mr t Bs C p Lt (j+1) X ⟨st.kn.set n true,st.nw⟩;generalize bB t Bs C p Lt (j+1) X ⟨st.kn.set n true,st.nw⟩=R at *;have sw:n<R.2.nw.length:=by rw[hlen.2.1];exact wy
   obtain⟨wr,hwr⟩:∃wr,R.2.nw[n]?=some wr:=⟨_,afP sw⟩
   unfold dh kP at hc;unfold dh kP;refine an Try.func83 rfl Try.ntmps83 Try.results83 rfl 11 134219647 (by simp) (by simp) ?_;simp only[zX,cQ,dx,dB,dC,dD,gl,ja,jg,jk,mA,eI,eJ,fX,reduceIte,reduceCtorEq,gj,i64,bV,iD,bD,dh,kP,bU,aP,dc,b5,wZ,cG,iw,gp,jv,wy,hn,h1,h2,afT,afN,afO,qg,zE,hi,afV,afX,ay.cells,o3,hX,gx,ky,ju,jD,hB,af5,afQ,afS,agl];refine hc _ ?_;simp only[zX,cQ,dx,dB,dC,dD,gl,ja,jg,jk,mA,eI,eJ,fX,reduceIte,reduceCtorEq,gj,i64,bV,iD,bD,dh,kP,bU,aP,dc,b5,wZ,cG,iw,gp,jv,wy,sw,hwr,hlen.2.1,hn,h1,h2,afT,afN,afO,qg,zE,hi,afV,afX,ay.cells,o3,hX,gx,ky,ju,jD,hB,af5,afQ,afS,agl]
  by_cases o4:i.op=4
  ·have Ag:=hg.next n hn (by rw[kH];exact .inr (.inl o4));have hw:IntKind.i64.wrap ((n:Int)+1)=((n+1:Nat):Int):=by have:=hg.len;rw[bd _ (by omega)];rfl
   obtain⟨j,rfl⟩:∃j,k=j+1:=⟨k-1,by have:=xW qg;omega⟩
   have hc:=λK hk=>lX (IH j rfl) (n:=n+1) (st:=⟨st.kn.set n true,st.nw⟩) Ag (by simpa using h1) h2 (by simp only;omega) (tl:=[⟨0,true,5,[[i64 4,i64 i.x,i64 i.y,i64 i.n,bY b a i.node]]⟩]) (K:=K) hk;have hr:bB t Bs C p Lt (j+1+1) n st=((bB t Bs C p Lt (j+1) (n+1) ⟨st.kn.set n true,st.nw⟩).1,⟨(bB t Bs C p Lt (j+1) (n+1) ⟨st.kn.set n true,st.nw⟩).2.kn,(bB t Bs C p Lt (j+1) (n+1) ⟨st.kn.set n true,st.nw⟩).2.nw.set n (bB t Bs C p Lt (j+1) (n+1) ⟨st.kn.set n true,st.nw⟩).1⟩):=by rw[bB,ap (by rw[af9,qg];simp),kH];simp only[o4];rfl
   rw[hr];have hlen:=mr t Bs C p Lt (j+1) (n+1) ⟨st.kn.set n true,st.nw⟩;generalize bB t Bs C p Lt (j+1) (n+1) ⟨st.kn.set n true,st.nw⟩=R at *;have sw:n<R.2.nw.length:=by rw[hlen.2.1];exact wy
   obtain⟨wr,hwr⟩:∃wr,R.2.nw[n]?=some wr:=⟨_,afP sw⟩
   unfold dh kP at hc;unfold dh kP;refine an Try.func83 rfl Try.ntmps83 Try.results83 rfl 11 134219647 (by simp) (by simp) ?_;simp only[zX,cQ,dx,dB,dC,dD,gl,ja,jg,jk,mA,eI,eJ,fX,reduceIte,reduceCtorEq,gj,i64,bV,iD,bD,dh,kP,bU,aP,dc,b5,wZ,cG,iw,gp,jv,wy,hn,h1,h2,afT,afN,afO,qg,zE,hi,afV,afX,ay.cells,o4,hw,gx,ky,ju,jD,hB,af5,afQ,afS,agl];refine hc _ ?_;simp only[zX,cQ,dx,dB,dC,dD,gl,ja,jg,jk,mA,eI,eJ,fX,reduceIte,reduceCtorEq,gj,i64,bV,iD,bD,dh,kP,bU,aP,dc,b5,wZ,cG,iw,gp,jv,wy,sw,hwr,hlen.2.1,hn,h1,h2,afT,afN,afO,qg,zE,hi,afV,afX,ay.cells,o4,hw,gx,ky,ju,jD,hB,af5,afQ,afS,agl]
  by_cases o1:i.op=1
  ·obtain⟨re,k',mT,wE,fx⟩:=hg.set n hn (by rw[kH];exact o1);rw[kH]at mT;have Ag:=hg.next n hn (by rw[kH];exact .inl o1);have hw:IntKind.i64.wrap ((n:Int)+1)=((n+1:Nat):Int):=by have:=hg.len;rw[bd _ (by omega)];rfl
   have Y6:((n+1:Nat):Int)<(C.length:Int):=by omega
   have YO:(0:Int)<=((n+1:Nat):Int):=by omega
   have YG:n+1<C.length:=Ag;obtain⟨lv,Xe⟩:∃lv,Lt[n+1]?=some lv:=⟨_,afP (by omega)⟩
   have rS:=BC t root parts bg nb Bs b a re k' p (by omega) fx ht;have mU:i.pass t Bs p=(decide ((p:Int)<t.length)&&E3 re.set (n7 t p)):=by unfold ay.pass;rw[mT];simp only[wE,if_true]
   have hr:bB t Bs C p Lt (k+1) n st=(i.pass t Bs p&&lv,⟨st.kn.set n true,st.nw.set n (i.pass t Bs p&&lv)⟩):=by rw[bB,ap (by rw[af9,qg];simp),kH];simp only[o1,af9,Xe,ag9];rfl
   rw[hr,mU];generalize (decide ((p:Int)<t.length)&&E3 re.set (n7 t p))=y at *;unfold dh kP;cases y with
   |true =>
    refine an Try.func83 rfl Try.ntmps83 Try.results83 rfl 11 134219647 (by simp) (by simp) ?_;simp only[zX,cQ,dx,dB,dC,dD,gl,ja,jg,jk,mA,eI,eJ,fX,reduceIte,reduceCtorEq,gj,i64,bV,iD,bD,dh,kP,bU,aP,dc,b5,wZ,cG,iw,gp,jv,wy,hn,h1,h2,afT,afN,afO,qg,zE,hi,afV,afX,ay.cells,o1,mT,wE,bY,mB,nB,if_true,hw,Xe,RD,Y6,YO,YG,gx,ky,ju,jD,hB,af5,afQ,afS,agl];refine dN t root parts bg nb Bs rS rfl rfl rfl rfl rfl ?_;simp only[zX,cQ,dx,dB,dC,dD,gl,ja,jg,jk,mA,eI,eJ,fX,reduceIte,reduceCtorEq,gj,i64,bV,iD,bD,dh,kP,bU,aP,dc,b5,wZ,cG,iw,gp,jv,wy,hn,h1,h2,afT,afN,afO,qg,zE,hi,afV,afX,ay.cells,o1,mT,wE,bY,mB,nB,if_true,hw,Xe,RD,Y6,YO,YG,gx,ky,ju,jD,hB,af5,afQ,afS,agl]
   |false =>
    refine an Try.func83 rfl Try.ntmps83 Try.results83 rfl 11 134219647 (by simp) (by simp) ?_;simp only[zX,cQ,dx,dB,dC,dD,gl,ja,jg,jk,mA,eI,eJ,fX,reduceIte,reduceCtorEq,gj,i64,bV,iD,bD,dh,kP,bU,aP,dc,b5,wZ,cG,iw,gp,jv,wy,hn,h1,h2,afT,afN,afO,qg,zE,hi,afV,afX,ay.cells,o1,mT,wE,bY,mB,nB,if_true,hw,Xe,RD,Y6,YO,YG,gx,ky,ju,jD,hB,af5,afQ,afS,agl];refine dN t root parts bg nb Bs rS rfl rfl rfl rfl rfl ?_;simp only[zX,cQ,dx,dB,dC,dD,gl,ja,jg,jk,mA,eI,eJ,fX,reduceIte,reduceCtorEq,gj,i64,bV,iD,bD,dh,kP,bU,aP,dc,b5,wZ,cG,iw,gp,jv,wy,hn,h1,h2,afT,afN,afO,qg,zE,hi,afV,afX,ay.cells,o1,mT,wE,bY,mB,nB,if_true,hw,Xe,RD,Y6,YO,YG,gx,ky,ju,jD,hB,af5,afQ,afS,agl];exact⟨rfl,rfl⟩
  by_cases o5:i.op=5
  ·obtain⟨re,k',mT,wE,WW,G4⟩:=hg.ask n hn (by rw[kH];exact o5);rw[kH]at mT;have Ag:=hg.next n hn (by rw[kH];exact .inr (.inr o5));have hw:IntKind.i64.wrap ((n:Int)+1)=((n+1:Nat):Int):=by have:=hg.len;rw[bd _ (by omega)];rfl
   by_cases jH:re.op=11
   ·have rS:=vz t root parts bg nb Bs b a re k' p (by omega) (by omega) (WW jH).1 (WW jH).2 ht;have mU:i.pass t Bs p=bX re.n t p:=by unfold ay.pass;rw[mT];simp only[jH];rfl
    generalize bX re.n t p=y at *;cases y with
    |true =>
     obtain⟨j,rfl⟩:∃j,k=j+1:=⟨k-1,by have:=xW qg;omega⟩
     have hc:=λK hk=>lX (IH j rfl) (n:=n+1) (st:=⟨st.kn.set n true,st.nw⟩) Ag (by simpa using h1) h2 (by simp only;omega) (tl:=[⟨0,true,5,[[i64 5,i64 i.x,i64 i.y,i64 i.n,.cl (.func 59) [] [nB re k',mB b a]]]⟩]) (K:=K) hk;have hr:bB t Bs C p Lt (j+1+1) n st=((bB t Bs C p Lt (j+1) (n+1) ⟨st.kn.set n true,st.nw⟩).1,⟨(bB t Bs C p Lt (j+1) (n+1) ⟨st.kn.set n true,st.nw⟩).2.kn,(bB t Bs C p Lt (j+1) (n+1) ⟨st.kn.set n true,st.nw⟩).2.nw.set n (bB t Bs C p Lt (j+1) (n+1) ⟨st.kn.set n true,st.nw⟩).1⟩):=by rw[bB,ap (by rw[af9,qg];simp),kH];simp only[o5,mU,if_true];rfl
     rw[hr];have hlen:=mr t Bs C p Lt (j+1) (n+1) ⟨st.kn.set n true,st.nw⟩;generalize bB t Bs C p Lt (j+1) (n+1) ⟨st.kn.set n true,st.nw⟩=R at *;have sw:n<R.2.nw.length:=by rw[hlen.2.1];exact wy
     obtain⟨wr,hwr⟩:∃wr,R.2.nw[n]?=some wr:=⟨_,afP sw⟩
     unfold dh kP at hc;unfold dh kP;refine an Try.func83 rfl Try.ntmps83 Try.results83 rfl 11 134219647 (by simp) (by simp) ?_;simp only[zX,cQ,dx,dB,dC,dD,gl,ja,jg,jk,mA,eI,eJ,fX,reduceIte,reduceCtorEq,gj,i64,bV,iD,bD,dh,kP,bU,aP,dc,b5,wZ,cG,iw,gp,jv,wy,hn,h1,h2,afT,afN,afO,qg,zE,hi,afV,afX,ay.cells,o5,mT,wE,bY,mB,nB,if_true,if_false,hw,gx,ky,ju,jD,hB,af5,afQ,afS,agl,jH];refine dN t root parts bg nb Bs rS rfl rfl rfl rfl rfl ?_;simp only[zX,cQ,dx,dB,dC,dD,gl,ja,jg,jk,mA,eI,eJ,fX,reduceIte,reduceCtorEq,gj,i64,bV,iD,bD,dh,kP,bU,aP,dc,b5,wZ,cG,iw,gp,jv,wy,hn,h1,h2,afT,afN,afO,qg,zE,hi,afV,afX,ay.cells,o5,mT,wE,bY,mB,nB,if_true,if_false,hw,gx,ky,ju,jD,hB,af5,afQ,afS,agl,jH];refine hc _ ?_;simp only[zX,cQ,dx,dB,dC,dD,gl,ja,jg,jk,mA,eI,eJ,fX,reduceIte,reduceCtorEq,gj,i64,bV,iD,bD,dh,kP,bU,aP,dc,b5,wZ,cG,iw,gp,jv,wy,hn,h1,h2,afT,afN,afO,qg,zE,hi,afV,afX,ay.cells,o5,mT,wE,bY,mB,nB,if_true,if_false,hw,gx,ky,ju,jD,hB,af5,afQ,afS,agl,jH,sw,hwr,hlen.2.1]
    |false =>
     have hr:bB t Bs C p Lt (k+1) n st=(false,⟨st.kn.set n true,st.nw.set n false⟩):=by rw[bB,ap (by rw[af9,qg];simp),kH];simp only[o5,mU];rfl
     rw[hr];unfold dh kP;refine an Try.func83 rfl Try.ntmps83 Try.results83 rfl 11 134219647 (by simp) (by simp) ?_;simp only[zX,cQ,dx,dB,dC,dD,gl,ja,jg,jk,mA,eI,eJ,fX,reduceIte,reduceCtorEq,gj,i64,bV,iD,bD,dh,kP,bU,aP,dc,b5,wZ,cG,iw,gp,jv,wy,hn,h1,h2,afT,afN,afO,qg,zE,hi,afV,afX,ay.cells,o5,mT,wE,bY,mB,nB,if_true,if_false,hw,gx,ky,ju,jD,hB,af5,afQ,afS,agl,jH];refine dN t root parts bg nb Bs rS rfl rfl rfl rfl rfl ?_;simp only[zX,cQ,dx,dB,dC,dD,gl,ja,jg,jk,mA,eI,eJ,fX,reduceIte,reduceCtorEq,gj,i64,bV,iD,bD,dh,kP,bU,aP,dc,b5,wZ,cG,iw,gp,jv,wy,hn,h1,h2,afT,afN,afO,qg,zE,hi,afV,afX,ay.cells,o5,mT,wE,bY,mB,nB,if_true,if_false,hw,gx,ky,ju,jD,hB,af5,afQ,afS,agl,jH]
   ·obtain⟨l,vu,CZ⟩:=G4 jH;obtain⟨y,hy⟩:∃y,l[p]?=some y:=⟨_,afP (by omega)⟩
    have rS:=zw t root parts bg nb Bs b a re k' p nr vu hy;have mU:i.pass t Bs p=y:=by unfold ay.pass;rw[mT];simp only[wE,jH,if_false,af9,vu,ag9,hy]
    cases y with
    |true =>
     obtain⟨j,rfl⟩:∃j,k=j+1:=⟨k-1,by have:=xW qg;omega⟩
     have hc:=λK hk=>lX (IH j rfl) (n:=n+1) (st:=⟨st.kn.set n true,st.nw⟩) Ag (by simpa using h1) h2 (by simp only;omega) (tl:=[⟨0,true,5,[[i64 5,i64 i.x,i64 i.y,i64 i.n,.cl (.func 61) [] [mB b a,nB re k']]]⟩]) (K:=K) hk;have hr:bB t Bs C p Lt (j+1+1) n st=((bB t Bs C p Lt (j+1) (n+1) ⟨st.kn.set n true,st.nw⟩).1,⟨(bB t Bs C p Lt (j+1) (n+1) ⟨st.kn.set n true,st.nw⟩).2.kn,(bB t Bs C p Lt (j+1) (n+1) ⟨st.kn.set n true,st.nw⟩).2.nw.set n (bB t Bs C p Lt (j+1) (n+1) ⟨st.kn.set n true,st.nw⟩).1⟩):=by rw[bB,ap (by rw[af9,qg];simp),kH];simp only[o5,mU,if_true];rfl
     rw[hr];have hlen:=mr t Bs C p Lt (j+1) (n+1) ⟨st.kn.set n true,st.nw⟩;generalize bB t Bs C p Lt (j+1) (n+1) ⟨st.kn.set n true,st.nw⟩=R at *;have sw:n<R.2.nw.length:=by rw[hlen.2.1];exact wy
     obtain⟨wr,hwr⟩:∃wr,R.2.nw[n]?=some wr:=⟨_,afP sw⟩
     unfold dh kP at hc;unfold dh kP;refine an Try.func83 rfl Try.ntmps83 Try.results83 rfl 11 134219647 (by simp) (by simp) ?_;simp only[zX,cQ,dx,dB,dC,dD,gl,ja,jg,jk,mA,eI,eJ,fX,reduceIte,reduceCtorEq,gj,i64,bV,iD,bD,dh,kP,bU,aP,dc,b5,wZ,cG,iw,gp,jv,wy,hn,h1,h2,afT,afN,afO,qg,zE,hi,afV,afX,ay.cells,o5,mT,wE,bY,mB,nB,if_true,if_false,hw,gx,ky,ju,jD,hB,af5,afQ,afS,agl,jH];refine dN t root parts bg nb Bs rS rfl rfl rfl rfl rfl ?_;simp only[zX,cQ,dx,dB,dC,dD,gl,ja,jg,jk,mA,eI,eJ,fX,reduceIte,reduceCtorEq,gj,i64,bV,iD,bD,dh,kP,bU,aP,dc,b5,wZ,cG,iw,gp,jv,wy,hn,h1,h2,afT,afN,afO,qg,zE,hi,afV,afX,ay.cells,o5,mT,wE,bY,mB,nB,if_true,if_false,hw,gx,ky,ju,jD,hB,af5,afQ,afS,agl,jH];refine hc _ ?_;simp only[zX,cQ,dx,dB,dC,dD,gl,ja,jg,jk,mA,eI,eJ,fX,reduceIte,reduceCtorEq,gj,i64,bV,iD,bD,dh,kP,bU,aP,dc,b5,wZ,cG,iw,gp,jv,wy,hn,h1,h2,afT,afN,afO,qg,zE,hi,afV,afX,ay.cells,o5,mT,wE,bY,mB,nB,if_true,if_false,hw,gx,ky,ju,jD,hB,af5,afQ,afS,agl,jH,sw,hwr,hlen.2.1]
    |false =>
     have hr:bB t Bs C p Lt (k+1) n st=(false,⟨st.kn.set n true,st.nw.set n false⟩):=by rw[bB,ap (by rw[af9,qg];simp),kH];simp only[o5,mU];rfl
     rw[hr];unfold dh kP;refine an Try.func83 rfl Try.ntmps83 Try.results83 rfl 11 134219647 (by simp) (by simp) ?_;simp only[zX,cQ,dx,dB,dC,dD,gl,ja,jg,jk,mA,eI,eJ,fX,reduceIte,reduceCtorEq,gj,i64,bV,iD,bD,dh,kP,bU,aP,dc,b5,wZ,cG,iw,gp,jv,wy,hn,h1,h2,afT,afN,afO,qg,zE,hi,afV,afX,ay.cells,o5,mT,wE,bY,mB,nB,if_true,if_false,hw,gx,ky,ju,jD,hB,af5,afQ,afS,agl,jH];refine dN t root parts bg nb Bs rS rfl rfl rfl rfl rfl ?_;simp only[zX,cQ,dx,dB,dC,dD,gl,ja,jg,jk,mA,eI,eJ,fX,reduceIte,reduceCtorEq,gj,i64,bV,iD,bD,dh,kP,bU,aP,dc,b5,wZ,cG,iw,gp,jv,wy,hn,h1,h2,afT,afN,afO,qg,zE,hi,afV,afX,ay.cells,o5,mT,wE,bY,mB,nB,if_true,if_false,hw,gx,ky,ju,jD,hB,af5,afQ,afS,agl,jH]
  by_cases o2:i.op=2
  ·obtain⟨x0,x1,y0,y1⟩:=hg.split n hn (by rw[kH];exact o2);rw[kH]at x0 x1 y0 y1;obtain⟨X,hX⟩:∃X:Nat,i.x=X:=⟨i.x.toNat,by omega⟩
   obtain⟨Y,hY⟩:∃Y:Nat,i.y=Y:=⟨i.y.toNat,by omega⟩
   have Ag:X<C.length:=by omega
   have Yh:Y<C.length:=by omega
   obtain⟨j,rfl⟩:∃j,k=j+1:=⟨k-1,by have:=xW qg;omega⟩
   have hc:=λK hk=>lX (IH j rfl) (n:=X) (st:=⟨st.kn.set n true,st.nw⟩) Ag (by simpa using h1) h2 (by simp only;omega) (tl:=[⟨0,true,5,[[i64 2,i64 X,i64 Y,i64 i.n,bY b a i.node]]⟩]) (K:=K) hk;have hlen:=mr t Bs C p Lt (j+1) X ⟨st.kn.set n true,st.nw⟩;have hr:bB t Bs C p Lt (j+1+1) n st=(if (bB t Bs C p Lt (j+1) X ⟨st.kn.set n true,st.nw⟩).1=true then ((bB t Bs C p Lt (j+1) X ⟨st.kn.set n true,st.nw⟩).1,⟨(bB t Bs C p Lt (j+1) X ⟨st.kn.set n true,st.nw⟩).2.kn,(bB t Bs C p Lt (j+1) X ⟨st.kn.set n true,st.nw⟩).2.nw.set n (bB t Bs C p Lt (j+1) X ⟨st.kn.set n true,st.nw⟩).1⟩)
     else ((bB t Bs C p Lt (j+1) Y (bB t Bs C p Lt (j+1) X ⟨st.kn.set n true,st.nw⟩).2).1,⟨(bB t Bs C p Lt (j+1) Y (bB t Bs C p Lt (j+1) X ⟨st.kn.set n true,st.nw⟩).2).2.kn,(bB t Bs C p Lt (j+1) Y (bB t Bs C p Lt (j+1) X ⟨st.kn.set n true,st.nw⟩).2).2.nw.set n (bB t Bs C p Lt (j+1) Y (bB t Bs C p Lt (j+1) X ⟨st.kn.set n true,st.nw⟩).2).1⟩)):=by
    rw[bB,ap (by rw[af9,qg];simp),kH];simp only[o2,hX,hY,afT];generalize bB t Bs C p Lt (j+1) X ⟨st.kn.set n true,st.nw⟩=A;by_cases hh:A.1=true <;> simp [hh]
   rw[hr];clear hr;generalize bB t Bs C p Lt (j+1) X ⟨st.kn.set n true,st.nw⟩=R at *;have su:=λK hk=>lX (IH j rfl) (n:=Y) (st:=R.2) Yh (by rw[hlen.1];simpa using h1) (by rw[hlen.2.1];exact h2) (ag4 hlen.2.2 (by simp only;omega)) (tl:=[⟨0,true,5,[[i64 2,i64 X,i64 Y,i64 i.n,bY b a i.node]]⟩]) (K:=K) hk;have Co:=mr t Bs C p Lt (j+1) Y R.2;generalize bB t Bs C p Lt (j+1) Y R.2=R2 at *;have sw:n<R.2.nw.length:=by rw[hlen.2.1];exact wy
   have WM:n<R2.2.nw.length:=by rw[Co.2.1];exact sw
   obtain⟨wr,hwr⟩:∃wr,R.2.nw[n]?=some wr:=⟨_,afP sw⟩
   obtain⟨wr2,abi⟩:∃wr,R2.2.nw[n]?=some wr:=⟨_,afP WM⟩
   obtain⟨r1,st2⟩:=R;simp only at hc su hlen Co sw hwr ⊢;unfold dh kP at hc su;unfold dh kP;cases r1 with
   |true =>
    rw[be rfl];refine an Try.func83 rfl Try.ntmps83 Try.results83 rfl 11 134219647 (by simp) (by simp) ?_;simp only[zX,cQ,dx,dB,dC,dD,gl,ja,jg,jk,mA,eI,eJ,fX,reduceIte,reduceCtorEq,gj,i64,bV,iD,bD,dh,kP,bU,aP,dc,b5,wZ,cG,iw,gp,jv,wy,hn,h1,h2,afT,afN,afO,qg,zE,hi,afV,afX,ay.cells,o2,hX,hY,gx,ky,ju,jD,hB,af5,afQ,afS,agl];refine hc _ ?_;simp only[zX,cQ,dx,dB,dC,dD,gl,ja,jg,jk,mA,eI,eJ,fX,reduceIte,reduceCtorEq,gj,i64,bV,iD,bD,dh,kP,bU,aP,dc,b5,wZ,cG,iw,gp,jv,wy,hn,h1,h2,afT,afN,afO,qg,zE,hi,afV,afX,ay.cells,o2,hX,hY,gx,ky,ju,jD,hB,af5,afQ,afS,agl,sw,hwr,hlen.2.1]
   |false =>
    rw[ap (by simp)];refine an Try.func83 rfl Try.ntmps83 Try.results83 rfl 11 134219647 (by simp) (by simp) ?_;simp only[zX,cQ,dx,dB,dC,dD,gl,ja,jg,jk,mA,eI,eJ,fX,reduceIte,reduceCtorEq,gj,i64,bV,iD,bD,dh,kP,bU,aP,dc,b5,wZ,cG,iw,gp,jv,wy,hn,h1,h2,afT,afN,afO,qg,zE,hi,afV,afX,ay.cells,o2,hX,hY,gx,ky,ju,jD,hB,af5,afQ,afS,agl];refine hc _ ?_;simp only[zX,cQ,dx,dB,dC,dD,gl,ja,jg,jk,mA,eI,eJ,fX,reduceIte,reduceCtorEq,gj,i64,bV,iD,bD,dh,kP,bU,aP,dc,b5,wZ,cG,iw,gp,jv,wy,hn,h1,h2,afT,afN,afO,qg,zE,hi,afV,afX,ay.cells,o2,hX,hY,gx,ky,ju,jD,hB,af5,afQ,afS,agl,sw,hwr,hlen.2.1];refine su _ ?_;simp only[zX,cQ,dx,dB,dC,dD,gl,ja,jg,jk,mA,eI,eJ,fX,reduceIte,reduceCtorEq,gj,i64,bV,iD,bD,dh,kP,bU,aP,dc,b5,wZ,cG,iw,gp,jv,wy,hn,h1,h2,afT,afN,afO,qg,zE,hi,afV,afX,ay.cells,o2,hX,hY,gx,ky,ju,jD,hB,af5,afQ,afS,agl,WM,abi,hlen.2.1,Co.2.1]
  have J5:=hg.ops n hn;rw[kH]at J5;omega
theorem EG (hg:m8 t Bs C) (nr:nb=Bs.length) (ht:t.length<=1000000) (hp:p<=t.length) (RD:Lt.length=C.length):∀k,YX t root parts bg nb Bs g b a C p Lt k
 |0=>EO t root parts bg nb Bs g b a C p Lt hg nr ht hp RD 0 (λj h=>by omega)
 |k+1=>EO t root parts bg nb Bs g b a C p Lt hg nr ht hp RD (k+1) (λj h=>by
  have:j=k:=by omega
  subst this;exact EG hg nr ht hp RD j)
end
variable{l:List Nat}
structure Aq where
 ad:List Nat
 ho:List Bool
 rd:List Nat
 gn:Nat
def iM (p:Nat) (l:List Nat):Nat:=l.countP λx=>x != p+1
def jJ (t:List Int) (Bs:List (List Bool)) (C:List ay) (p:Nat):Nat->Nat->Aq->Aq
 |0,_,st=>st
 |k+1,n,st =>
  if st.ad[n]?=none\/st.ad[n]?=some (p+1) then st else
  let kO:Aq:=⟨st.ad.set n (p+1),st.ho,st.rd,st.gn⟩
  let i:=eV C n
  if i.op=0 then ⟨kO.ad,kO.ho.set p true,kO.rd,kO.gn⟩
  else if i.op=1 then (if i.pass t Bs p=true then ⟨kO.ad,kO.ho,kO.rd++[n],kO.gn+1⟩ else kO)
  else if i.op=2 then jJ t Bs C p k i.y.toNat (jJ t Bs C p k i.x.toNat kO)
  else if i.op=3 then jJ t Bs C p k i.x.toNat kO
  else if i.op=4 then jJ t Bs C p k (n+1) kO
  else if i.op=5 then (if i.pass t Bs p=true then jJ t Bs C p k (n+1) kO else kO)
  else kO
theorem xG {p n:Nat}{x:Nat} (h:l[n]?=some x) (hx:x≠p+1):iM p (l.set n (p+1))+1=iM p l:=by unfold iM;have hn:=(List.getElem?_eq_some_iff.1 h).1;have he:l[n]=x:=(List.getElem?_eq_some_iff.1 h).2;have hp:0<l.countP λx=>x != p+1:=List.countP_pos_iff.2 ⟨x,afW h,by simp [hx]⟩;rw[List.countP_set hn,he];simp [hx];omega
theorem HW {p n:Nat}{x:Nat} (h:l[n]?=some x) (hx:x≠p+1):0<iM p l:=List.countP_pos_iff.2 ⟨x,afW h,by simp [hx]⟩
section
variable (t:List Int) (Bs:List (List Bool)) (C:List ay) (p:Nat)
def rn (st st':Aq):Prop:=st'.ad.length=st.ad.length/\st'.ho.length=st.ho.length/\iM p st'.ad<=iM p st.ad/\st'.rd.length+iM p st'.ad<=st.rd.length+iM p st.ad/\∀e∈st'.rd,e∈st.rd\/(eV C e).op=1
variable {C p}
theorem rn.refl (st:Aq):rn C p st st:=⟨rfl,rfl,af3 _,af3 _,λ_ h=>.inl h⟩
theorem rn.trans {a b c:Aq} (h:rn C p a b) (k:rn C p b c):rn C p a c :=
 ⟨k.1.trans h.1,k.2.1.trans h.2.1,ag4 k.2.2.1 h.2.2.1,ag4 k.2.2.2.1 h.2.2.2.1,λe he=>(k.2.2.2.2 e he).elim (λh'=>h.2.2.2.2 e h') .inr⟩
variable (C p)
theorem AD:∀(k n:Nat) (st:Aq),rn C p st (jJ t Bs C p k n st)
 |0,_,st=>.refl st
 |k+1,n,st=>by
  have ih:=AD k;rw[jJ];split
  ·exact .refl st
  ·rename_i hk;obtain⟨x,hx⟩:∃x,st.ad[n]?=some x:=by
    cases h:st.ad[n]? with
    |none=>exact absurd (.inl h) hk
    |some x=>exact⟨x,rfl⟩
   have Qj:x≠p+1:=λh=>hk (.inr (by rw[hx,h]));have hu:=xG hx Qj;have key:rn C p st ⟨st.ad.set n (p+1),st.ho,st.rd,st.gn⟩:=⟨by simp,rfl,by simp only;omega,by simp only;omega,λ_ h=>.inl h⟩
   simp only;split
   ·exact key.trans ⟨rfl,by simp,af3 _,af3 _,λ_ h=>.inl h⟩
   split
   ·split
    ·rename_i h1 _;refine⟨by simp,rfl,by simp only;omega,by simp only[af7,agv];omega,λe he=>?_⟩;rcases List.mem_append.1 he with h|h
     ·exact .inl h
     ·rw[List.mem_singleton.1 h];exact .inr h1
    ·exact key
   split
   ·exact(key.trans (ih _ _)).trans (ih _ _)
   split
   ·exact key.trans (ih _ _)
   split
   ·exact key.trans (ih _ _)
   split
   ·split
    ·exact key.trans (ih _ _)
    ·exact key
   ·exact key
end
def bo (q:Nat) (l:List Nat):VL.Obj:=⟨q,true,1,l.map λ(x:Nat)=>[i64 (x:Int)]⟩
def da (k q n:Nat):VL.Obj:=⟨0,true,1,[[.so k q 0 n]]⟩
def zZ (g N:Nat):V:=.cl (.func 85) [] [.rf 4 0 0 0,.bx (.so 2 g 0 N),.rf 6 0 0 0,.rf 8 0 0 0,.rf 9 0 0 0]
def fg (t:List Int) (root parts:D) (bg nb:Nat) (Bs:List (List Bool)) (g b a:Nat) (C:List ay) (st:Aq):List VL.Obj :=
 [dp t root parts bg nb,fr bg Bs,cG g b a C,bo 0 st.ad,dc 0 3 C.length,b5 0 st.ho,dc 0 5 (t.length+1),bo st.gn st.rd,da 7 st.gn st.rd.length,⟨0,true,1,[[zZ g C.length]]⟩]
def ek (g N n p:Nat):List V:=[i64 n,i64 p,.rf 4 0 0 0,.bx (.so 2 g 0 N),.rf 6 0 0 0,.rf 8 0 0 0,.rf 9 0 0 0]
theorem nJ (ρ:List Nat) (q:Nat) (l:List Nat):aT ρ (bo q l)=bo q l:=by unfold aT bo;simp only[agy];congr 1
theorem ni (n q:Nat) (l:List Nat):aG n (bo q l)=true:=by unfold aG bo;rw[af8];intro e he;obtain⟨i,_,rfl⟩:=List.mem_map.1 he;rfl
theorem qe (t:List Int) (root parts:D) (bg nb:Nat) (Bs:List (List Bool)) (b a:Nat) (C:List ay) (hg:m8 t Bs C) (nr:nb=Bs.length) (ht:t.length<=1000000) {n:Nat} (hn:n<C.length) (ho:(eV C n).op=1\/(eV C n).op=5) (p:Nat) (hp:p<=t.length) :
  ∃SU ak,bY b a (eV C n).node=.cl (.func SU) [] ak/\ah.go 2 ak=true/\ak.map (aL [0,1])=ak /\
   aq Try.prog SU (i64 (p:Int)::ak) [dp t root parts bg nb,fr bg Bs] λv s=>v=bV ((eV C n).pass t Bs p)/\s=[dp t root parts bg nb,fr bg Bs]:=by
 rcases ho with o|o
 ·obtain⟨re,k,h1,h2,h3⟩:=hg.set n hn o;have rS:=BC t root parts bg nb Bs b a re k p (by omega) h3 ht;rw[h1];refine⟨57,[mB b a,nB re k],by unfold bY;simp only[h2,if_true],?_,?_,?_⟩
  ·simp [ah,ah.go,mB,nB]
  ·simp [aL,aL.go,mB,nB]
  ·have:(eV C n).pass t Bs p=(decide ((p:Int)<t.length)&&E3 re.set (n7 t p)):=by unfold ay.pass;rw[h1];simp only[h2,if_true]
   rw[this];exact rS
 ·obtain⟨re,k,h1,h2,h3,h4⟩:=hg.ask n hn o;rw[h1];by_cases jH:re.op=11
  ·have rS:=vz t root parts bg nb Bs b a re k p (by omega) (by omega) (h3 jH).1 (h3 jH).2 ht;refine⟨59,[nB re k,mB b a],by unfold bY;simp only[jH];rfl,?_,?_,?_⟩
   ·simp [ah,ah.go,mB,nB]
   ·simp [aL,aL.go,mB,nB]
   ·have:(eV C n).pass t Bs p=bX re.n t p:=by unfold ay.pass;rw[h1];simp only[jH];rfl
    rw[this];exact rS
  ·obtain⟨l,vu,CZ⟩:=h4 jH;obtain⟨y,hy⟩:∃y,l[p]?=some y:=⟨_,afP (by omega)⟩
   have rS:=zw t root parts bg nb Bs b a re k p nr vu hy;refine⟨61,[mB b a,nB re k],by unfold bY;simp only[h2,jH,if_false],?_,?_,?_⟩
   ·simp [ah,ah.go,mB,nB]
   ·simp [aL,aL.go,mB,nB]
   ·have:(eV C n).pass t Bs p=y:=by unfold ay.pass;rw[h1];simp only[h2,jH,if_false,af9,vu,ag9,hy]
    rw[this];exact rS
section
variable (t:List Int) (root parts:D) (bg nb:Nat) (Bs:List (List Bool)) (g b a:Nat) (C:List ay) (p:Nat)
theorem JZ (st:Aq):(fg t root parts bg nb Bs g b a C st).map (aT [0,1,2,3,4,5,6,7,8,9])=fg t root parts bg nb Bs g b a C st:=by simp only[fg,afR,afU,jY,xX,fh,nJ];simp [aT,dp,dc,da,zZ,aL,aL.go,i64]
theorem L1 (st:Aq):(fg t root parts bg nb Bs g b a C st).all (aG 10)=true:=by have:=gr 10 bg Bs;simp only[fg,agq,agA,kj 10 _ _ _ (by omega),AW,ni,af5];simp [aG,dp,dc,da,zZ,ah,ah.go,i64,this]
def JL (k:Nat):Prop:=∀(n:Nat) (st:Aq),n<C.length->st.ad.length=C.length->st.ho.length=t.length+1->iM p st.ad<=k->st.rd.length+iM p st.ad<=C.length ->
 aq Try.prog 85 (ek g C.length n p) (fg t root parts bg nb Bs g b a C st) λv s=>v=.tu []/\s=fg t root parts bg nb Bs g b a C (jJ t Bs C p (k+1) n st)
variable {t root parts bg nb Bs g b a C p}
theorem Ef {k n:Nat}{st:Aq} (h:JL t root parts bg nb Bs g b a C p k) (hn:n<C.length) (h1:st.ad.length=C.length) (h2:st.ho.length=t.length+1) (hu:iM p st.ad<=k) (hr:st.rd.length+iM p st.ad<=C.length) {tl:List VL.Obj}{K:V->List VL.Obj->Prop}
  (hk:K (.tu []) (fg t root parts bg nb Bs g b a C (jJ t Bs C p (k+1) n st)++tl)) :
  aq Try.prog 85 (ek g C.length n p) (fg t root parts bg nb Bs g b a C st++tl) K:=by
 have C5:=JZ t root parts bg nb Bs g b a C st;refine cH [0,1,2,3,4,5,6,7,8,9] (h n st hn h1 h2 hu hr) (by decide) rfl ?_ (by rfl) (by rfl) (L1 t root parts bg nb Bs g b a C st) (r':=.tu []) rfl ?_
 ·have h2:(fg t root parts bg nb Bs g b a C st).map (λo=>some (aT [0,1,2,3,4,5,6,7,8,9] o))=((fg t root parts bg nb Bs g b a C st).map (aT [0,1,2,3,4,5,6,7,8,9])).map some:=by rw[agy];rfl
  rw[h2,C5];rfl
 ·rw[JZ];exact hk
end
end Go.Proofs.Ytfmdmlfhigocaaa
