/- A part of the proof (O7 O9). -/
import Derived.Test.YtjjfioalgbecmaaGreatOQ27
set_option linter.unusedSimpArgs false
set_option linter.unusedVariables false
set_option maxRecDepth 100000
set_option maxHeartbeats 80000000
namespace Go.Proofs.YtjjfioalgbecmaaGreat
open Go.VL
section
variable (t:List Int) (root parts:D) (bg nb:Nat) (Bs:List (List Bool)) (g b a:Nat) (C:List aq) (p:Nat) (Lt:List Bool)
omit t root parts bg nb Bs g b a C p Lt in
theorem gE (l:List Bool) (n:Nat) (x:Bool):(l.map λx=>[V.d (D.sc (Value.bool x))]).set n [V.d (D.sc (Value.bool x))]=(l.set n x).map λx=>[V.d (D.sc (Value.bool x))]:=by rw[akT]
theorem dU {f:FuncId}{args:List V}{r:V}{s:List VL.Obj}{K:V->List VL.Obj->Prop} (h:ar Tryz.prog f args [dz t root parts bg nb,fx bg Bs] λv s=>v=r/\s=[dz t root parts bg nb,fx bg Bs])
  (ha:args=args.map (aE [0,1])) (wY:aj.go 2 args=true) (hr:aE [0,1] r=r) (h0:s[0]?=some (dz t root parts bg nb)) (h1:s[1]?=some (fx bg Bs)) (hk:K r s):ar Tryz.prog f args s K:=by
 have e0:aN [0,1] (dz t root parts bg nb)=dz t root parts bg nb:=rfl;refine cV [0,1] h aU rfl ?_ ha wY ?_ hr ?_
 ·simp only[ajR,ajV,e0,fr,h0,h1]
 ·have:=gu 2 bg Bs;simp only[aks,akB,aK,ajW,ajX,Nat.reduceAdd,this,aj4];rfl
 ·simp only[ajR,ajV,e0,fr,aJ];have e1:s.set 0 (dz t root parts bg nb)=s:=by
   apply List.ext_getElem?;intro j;by_cases hj:j=0
   ·subst hj;rw[List.getElem?_set_self (List.getElem?_eq_some_iff.1 h0).1,h0]
   ·rw[List.getElem?_set_ne (Ne.symm hj)]
  have e2:s.set 1 (fx bg Bs)=s:=by
   apply List.ext_getElem?;intro j;by_cases hj:j=1
   ·subst hj;rw[List.getElem?_set_self (List.getElem?_eq_some_iff.1 h1).1,h1]
   ·rw[List.getElem?_set_ne (Ne.symm hj)]
  rw[e1,e2];exact hk
theorem GU (hg:nj t Bs C) (nD:nb=Bs.length) (ht:t.length<=1000000) (hp:p<=t.length) (Rd:Lt.length=C.length) (k:Nat) (IH:∀j,j+1=k->EOK t root parts bg nb Bs g b a C p Lt j):EOK t root parts bg nb Bs g b a C p Lt k:=by
 intro n st hn h1 h2 hu;have iQ:(n:Int)<(C.length:Int):=ae;have gp:(0:Int)<=(n:Int):=ae;have kf:n<st.kn.length:=ae;have xm:n<st.nw.length:=ae;have iC:=gu 11 bg Bs;have kJ:((dz t root parts bg nb).au.all λe=>e.all (aj 11))=true:=rfl;have WE:((cN g b a C).au.all λe=>e.all (aj 11))=true:=kv 11 g b a ae C;have jB:((C.map (aq.cells b a)).all λe=>e.all (aj 11))=true:=kv 11 g b a ae C;have hB:∀l:List Bool,((l.map λb=>[V.d (D.sc (Value.bool b))]).all λe=>e.all (aj 11))=true:=λl=>BY 11 0 l;obtain⟨kb,qw⟩:∃kb,st.kn[n]?=some kb:=cc kf;obtain⟨wb,AH⟩:∃wb,st.nw[n]?=some wb:=cc xm;obtain⟨i,hi⟩:∃i,C[n]?=some i:=cc hn;have kS:e9 C n=i:=by unfold e9;rw[List.getD_eq_getElem?_getD,hi];rfl
 cases kb with
 |true =>
  have hr:bC t Bs C p Lt (k+1) n st=(wb,st):=by rw[bC,be (by rw[List.getD_eq_getElem?_getD,qw];rfl),List.getD_eq_getElem?_getD,AH];rfl
  rw[hr];unfold dv kY;refine bo Tryz.func97 Tryz.ntmps97 Tryz.results97 11 134219647 ?_;simp only[zQ,simprocAttr,dv,kY,b6,aO,dm,cq,xP,iQ,gp,kf,xm,hn,h1,h2,ajP,ajM,List.getElem?_map,qw,AH,ajS,ajT,kJ,iC,WE,hB,aj4]
 |false =>
  have hu1:=N0 qw;by_cases o0:i.op=0
  ·have hr:bC t Bs C p Lt (k+1) n st=(true,⟨st.kn.set n true,st.nw.set n true⟩):=by rw[bC,ap (by rw[List.getD_eq_getElem?_getD,qw];simp),kS];simp only[o0,if_true]
   rw[hr];unfold dv kY;refine bo Tryz.func97 Tryz.ntmps97 Tryz.results97 11 134219647 ?_;simp only[zQ,simprocAttr,dv,kY,b6,aO,dm,cq,xP,cN,iQ,gp,kf,xm,hn,h1,h2,ajP,ajM,List.getElem?_map,qw,AH,hi,ajS,ajT,aq.cells,o0,gE,kJ,iC,jB,hB,aj4]
  by_cases o3:i.op=3
  ·obtain⟨x0,x1⟩:=hg.jump n hn (by rw[kS];exact o3);rw[kS]at x0 x1;obtain⟨X,hX⟩:∃X:Nat,i.x=X:=⟨i.x.toNat,ae⟩
   have Bg:X<C.length:=ae;obtain⟨j,rfl⟩:∃j,k=j+1:=⟨k-1,by have:=yu qw;omega⟩
   have hc:=λK hk=>mu (IH j rfl) (n:=X) (st:=⟨st.kn.set n true,st.nw⟩) Bg (by simpa using h1) h2 n6 (tl:=[⟨0,true,5,[[i64 3,i64 X,i64 i.y,i64 i.n,cj b a i.node]]⟩]) (K:=K) hk;have hr:bC t Bs C p Lt (j+1+1) n st=((bC t Bs C p Lt (j+1) X ⟨st.kn.set n true,st.nw⟩).1,⟨(bC t Bs C p Lt (j+1) X ⟨st.kn.set n true,st.nw⟩).2.kn,(bC t Bs C p Lt (j+1) X ⟨st.kn.set n true,st.nw⟩).2.nw.set n (bC t Bs C p Lt (j+1) X ⟨st.kn.set n true,st.nw⟩).1⟩):=by rw[bC,ap (by rw[List.getD_eq_getElem?_getD,qw];simp),kS];simp only[o3,hX,ajP];rfl
   rw[hr];have hlen:=mO t Bs C p Lt (j+1) X ⟨st.kn.set n true,st.nw⟩;generalize bC t Bs C p Lt (j+1) X ⟨st.kn.set n true,st.nw⟩=R at *;have td:n<R.2.nw.length:=by rw[hlen.2.1];exact xm
   obtain⟨wr,hwr⟩:∃wr,R.2.nw[n]?=some wr:=cc td;unfold dv kY at hc;unfold dv kY;refine bo Tryz.func97 Tryz.ntmps97 Tryz.results97 11 134219647 ?_;simp only[zQ,simprocAttr,dv,kY,b6,aO,dm,cq,xP,cN,iQ,gp,kf,xm,hn,h1,h2,ajP,ajM,List.getElem?_map,qw,AH,hi,ajS,ajT,aq.cells,o3,hX,gE,kJ,iC,jB,hB,aj4,ajN,ajO,aj8];refine hc _ ?_;simp only[zQ,simprocAttr,dv,kY,b6,aO,dm,cq,xP,cN,iQ,gp,kf,xm,td,hwr,hlen.2.1,hn,h1,h2,ajP,ajM,List.getElem?_map,qw,AH,hi,ajS,ajT,aq.cells,o3,hX,gE,kJ,iC,jB,hB,aj4,ajN,ajO,aj8]
  by_cases o4:i.op=4
  ·have Bg:=hg.next n hn (by rw[kS];exact .inr (.inl o4));have hw:IntKind.i64.wrap ((n:Int)+1)=((n+1:Nat):Int):=by have:=hg.len;rw[bG _ ae];rfl
   obtain⟨j,rfl⟩:∃j,k=j+1:=⟨k-1,by have:=yu qw;omega⟩
   have hc:=λK hk=>mu (IH j rfl) (n:=n+1) (st:=⟨st.kn.set n true,st.nw⟩) Bg (by simpa using h1) h2 n6 (tl:=[⟨0,true,5,[[i64 4,i64 i.x,i64 i.y,i64 i.n,cj b a i.node]]⟩]) (K:=K) hk;have hr:bC t Bs C p Lt (j+1+1) n st=((bC t Bs C p Lt (j+1) (n+1) ⟨st.kn.set n true,st.nw⟩).1,⟨(bC t Bs C p Lt (j+1) (n+1) ⟨st.kn.set n true,st.nw⟩).2.kn,(bC t Bs C p Lt (j+1) (n+1) ⟨st.kn.set n true,st.nw⟩).2.nw.set n (bC t Bs C p Lt (j+1) (n+1) ⟨st.kn.set n true,st.nw⟩).1⟩):=by rw[bC,ap (by rw[List.getD_eq_getElem?_getD,qw];simp),kS];simp only[o4];rfl
   rw[hr];have hlen:=mO t Bs C p Lt (j+1) (n+1) ⟨st.kn.set n true,st.nw⟩;generalize bC t Bs C p Lt (j+1) (n+1) ⟨st.kn.set n true,st.nw⟩=R at *;have td:n<R.2.nw.length:=by rw[hlen.2.1];exact xm
   obtain⟨wr,hwr⟩:∃wr,R.2.nw[n]?=some wr:=cc td;unfold dv kY at hc;unfold dv kY;refine bo Tryz.func97 Tryz.ntmps97 Tryz.results97 11 134219647 ?_;simp only[zQ,simprocAttr,dv,kY,b6,aO,dm,cq,xP,cN,iQ,gp,kf,xm,hn,h1,h2,ajP,ajM,List.getElem?_map,qw,AH,hi,ajS,ajT,aq.cells,o4,hw,gE,kJ,iC,jB,hB,aj4,ajN,ajO,aj8];refine hc _ ?_;simp only[zQ,simprocAttr,dv,kY,b6,aO,dm,cq,xP,cN,iQ,gp,kf,xm,td,hwr,hlen.2.1,hn,h1,h2,ajP,ajM,List.getElem?_map,qw,AH,hi,ajS,ajT,aq.cells,o4,hw,gE,kJ,iC,jB,hB,aj4,ajN,ajO,aj8]
  by_cases o1:i.op=1
  ·obtain⟨re,k',mS,xA,eO⟩:=hg.set n hn (by rw[kS];exact o1);rw[kS]at mS;have Bg:=hg.next n hn (by rw[kS];exact .inl o1);have hw:IntKind.i64.wrap ((n:Int)+1)=((n+1:Nat):Int):=by have:=hg.len;rw[bG _ ae];rfl
   have UW:((n+1:Nat):Int)<(C.length:Int):=ae;have UO:(0:Int)<=((n+1:Nat):Int):=ae;have UL:n+1<C.length:=Bg;obtain⟨lv,Gi⟩:∃lv,Lt[n+1]?=some lv:=cc;have sI:=CE t root parts bg nb Bs b a re k' p ae eO ht;have mj:i.pass t Bs p=(decide ((p:Int)<t.length)&&ED re.set (mG t p)):=by unfold aq.pass;rw[mS];simp only[xA,if_true]
   have hr:bC t Bs C p Lt (k+1) n st=(i.pass t Bs p&&lv,⟨st.kn.set n true,st.nw.set n (i.pass t Bs p&&lv)⟩):=by rw[bC,ap (by rw[List.getD_eq_getElem?_getD,qw];simp),kS];simp only[o1,List.getD_eq_getElem?_getD,Gi,ak2];rfl
   rw[hr,mj];generalize (decide ((p:Int)<t.length)&&ED re.set (mG t p))=y at *;unfold dv kY;cases y with
   |true =>
    refine bo Tryz.func97 Tryz.ntmps97 Tryz.results97 11 134219647 ?_;simp only[zQ,simprocAttr,dv,kY,b6,aO,dm,cq,xP,cN,iQ,gp,kf,xm,hn,h1,h2,ajP,ajM,List.getElem?_map,qw,AH,hi,ajS,ajT,aq.cells,o1,mS,xA,cj,mB,nB,if_true,hw,Gi,Rd,UW,UO,UL,gE,kJ,iC,jB,hB,aj4,ajN,ajO,aj8];refine dU t root parts bg nb Bs sI rfl rfl rfl rfl rfl ?_;simp only[zQ,simprocAttr,dv,kY,b6,aO,dm,cq,xP,cN,iQ,gp,kf,xm,hn,h1,h2,ajP,ajM,List.getElem?_map,qw,AH,hi,ajS,ajT,aq.cells,o1,mS,xA,cj,mB,nB,if_true,hw,Gi,Rd,UW,UO,UL,gE,kJ,iC,jB,hB,aj4,ajN,ajO,aj8]
   |false =>
    refine bo Tryz.func97 Tryz.ntmps97 Tryz.results97 11 134219647 ?_;simp only[zQ,simprocAttr,dv,kY,b6,aO,dm,cq,xP,cN,iQ,gp,kf,xm,hn,h1,h2,ajP,ajM,List.getElem?_map,qw,AH,hi,ajS,ajT,aq.cells,o1,mS,xA,cj,mB,nB,if_true,hw,Gi,Rd,UW,UO,UL,gE,kJ,iC,jB,hB,aj4,ajN,ajO,aj8];refine dU t root parts bg nb Bs sI rfl rfl rfl rfl rfl ?_;simp only[zQ,simprocAttr,dv,kY,b6,aO,dm,cq,xP,cN,iQ,gp,kf,xm,hn,h1,h2,ajP,ajM,List.getElem?_map,qw,AH,hi,ajS,ajT,aq.cells,o1,mS,xA,cj,mB,nB,if_true,hw,Gi,Rd,UW,UO,UL,gE,kJ,iC,jB,hB,aj4,ajN,ajO,aj8];exact⟨rfl,rfl⟩
  by_cases o5:i.op=5
  ·obtain⟨re,k',mS,xA,aan,I4⟩:=hg.ask n hn (by rw[kS];exact o5);rw[kS]at mS;have Bg:=hg.next n hn (by rw[kS];exact .inr (.inr o5));have hw:IntKind.i64.wrap ((n:Int)+1)=((n+1:Nat):Int):=by have:=hg.len;rw[bG _ ae];rfl
   by_cases eI:re.op=11
   ·have sI:=wh t root parts bg nb Bs b a re k' p ae ae (aan eI).1 (aan eI).2 ht;have mj:i.pass t Bs p=bL re.n t p:=by unfold aq.pass;rw[mS];simp only[eI];rfl
    generalize bL re.n t p=y at *;cases y with
    |true =>
     obtain⟨j,rfl⟩:∃j,k=j+1:=⟨k-1,by have:=yu qw;omega⟩
     have hc:=λK hk=>mu (IH j rfl) (n:=n+1) (st:=⟨st.kn.set n true,st.nw⟩) Bg (by simpa using h1) h2 n6 (tl:=[⟨0,true,5,[[i64 5,i64 i.x,i64 i.y,i64 i.n,.cl (.func 67) [] [nB re k',mB b a]]]⟩]) (K:=K) hk;have hr:bC t Bs C p Lt (j+1+1) n st=((bC t Bs C p Lt (j+1) (n+1) ⟨st.kn.set n true,st.nw⟩).1,⟨(bC t Bs C p Lt (j+1) (n+1) ⟨st.kn.set n true,st.nw⟩).2.kn,(bC t Bs C p Lt (j+1) (n+1) ⟨st.kn.set n true,st.nw⟩).2.nw.set n (bC t Bs C p Lt (j+1) (n+1) ⟨st.kn.set n true,st.nw⟩).1⟩):=by rw[bC,ap (by rw[List.getD_eq_getElem?_getD,qw];simp),kS];simp only[o5,mj,if_true];rfl
     rw[hr];have hlen:=mO t Bs C p Lt (j+1) (n+1) ⟨st.kn.set n true,st.nw⟩;generalize bC t Bs C p Lt (j+1) (n+1) ⟨st.kn.set n true,st.nw⟩=R at *;have td:n<R.2.nw.length:=by rw[hlen.2.1];exact xm
     obtain⟨wr,hwr⟩:∃wr,R.2.nw[n]?=some wr:=cc td;unfold dv kY at hc;unfold dv kY;refine bo Tryz.func97 Tryz.ntmps97 Tryz.results97 11 134219647 ?_;simp only[zQ,simprocAttr,dv,kY,b6,aO,dm,cq,xP,cN,iQ,gp,kf,xm,hn,h1,h2,ajP,ajM,List.getElem?_map,qw,AH,hi,ajS,ajT,aq.cells,o5,mS,xA,cj,mB,nB,if_true,if_false,hw,gE,kJ,iC,jB,hB,aj4,ajN,ajO,aj8,eI];refine dU t root parts bg nb Bs sI rfl rfl rfl rfl rfl ?_;simp only[zQ,simprocAttr,dv,kY,b6,aO,dm,cq,xP,cN,iQ,gp,kf,xm,hn,h1,h2,ajP,ajM,List.getElem?_map,qw,AH,hi,ajS,ajT,aq.cells,o5,mS,xA,cj,mB,nB,if_true,if_false,hw,gE,kJ,iC,jB,hB,aj4,ajN,ajO,aj8,eI];refine hc _ ?_;simp only[zQ,simprocAttr,dv,kY,b6,aO,dm,cq,xP,cN,iQ,gp,kf,xm,hn,h1,h2,ajP,ajM,List.getElem?_map,qw,AH,hi,ajS,ajT,aq.cells,o5,mS,xA,cj,mB,nB,if_true,if_false,hw,gE,kJ,iC,jB,hB,aj4,ajN,ajO,aj8,eI,td,hwr,hlen.2.1]
    |false =>
     have hr:bC t Bs C p Lt (k+1) n st=(false,⟨st.kn.set n true,st.nw.set n false⟩):=by rw[bC,ap (by rw[List.getD_eq_getElem?_getD,qw];simp),kS];simp only[o5,mj];rfl
     rw[hr];unfold dv kY;refine bo Tryz.func97 Tryz.ntmps97 Tryz.results97 11 134219647 ?_;simp only[zQ,simprocAttr,dv,kY,b6,aO,dm,cq,xP,cN,iQ,gp,kf,xm,hn,h1,h2,ajP,ajM,List.getElem?_map,qw,AH,hi,ajS,ajT,aq.cells,o5,mS,xA,cj,mB,nB,if_true,if_false,hw,gE,kJ,iC,jB,hB,aj4,ajN,ajO,aj8,eI];refine dU t root parts bg nb Bs sI rfl rfl rfl rfl rfl ?_;simp only[zQ,simprocAttr,dv,kY,b6,aO,dm,cq,xP,cN,iQ,gp,kf,xm,hn,h1,h2,ajP,ajM,List.getElem?_map,qw,AH,hi,ajS,ajT,aq.cells,o5,mS,xA,cj,mB,nB,if_true,if_false,hw,gE,kJ,iC,jB,hB,aj4,ajN,ajO,aj8,eI]
   ·obtain⟨l,oT,BL⟩:=I4 eI;obtain⟨y,hy⟩:∃y,l[p]?=some y:=cc;have sI:=Ax t root parts bg nb Bs b a re k' p nD oT hy;have mj:i.pass t Bs p=y:=by unfold aq.pass;rw[mS];simp only[xA,eI,if_false,List.getD_eq_getElem?_getD,oT,ak2,hy]
    cases y with
    |true =>
     obtain⟨j,rfl⟩:∃j,k=j+1:=⟨k-1,by have:=yu qw;omega⟩
     have hc:=λK hk=>mu (IH j rfl) (n:=n+1) (st:=⟨st.kn.set n true,st.nw⟩) Bg (by simpa using h1) h2 n6 (tl:=[⟨0,true,5,[[i64 5,i64 i.x,i64 i.y,i64 i.n,.cl (.func 69) [] [mB b a,nB re k']]]⟩]) (K:=K) hk;have hr:bC t Bs C p Lt (j+1+1) n st=((bC t Bs C p Lt (j+1) (n+1) ⟨st.kn.set n true,st.nw⟩).1,⟨(bC t Bs C p Lt (j+1) (n+1) ⟨st.kn.set n true,st.nw⟩).2.kn,(bC t Bs C p Lt (j+1) (n+1) ⟨st.kn.set n true,st.nw⟩).2.nw.set n (bC t Bs C p Lt (j+1) (n+1) ⟨st.kn.set n true,st.nw⟩).1⟩):=by rw[bC,ap (by rw[List.getD_eq_getElem?_getD,qw];simp),kS];simp only[o5,mj,if_true];rfl
     rw[hr];have hlen:=mO t Bs C p Lt (j+1) (n+1) ⟨st.kn.set n true,st.nw⟩;generalize bC t Bs C p Lt (j+1) (n+1) ⟨st.kn.set n true,st.nw⟩=R at *;have td:n<R.2.nw.length:=by rw[hlen.2.1];exact xm
     obtain⟨wr,hwr⟩:∃wr,R.2.nw[n]?=some wr:=cc td;unfold dv kY at hc;unfold dv kY;refine bo Tryz.func97 Tryz.ntmps97 Tryz.results97 11 134219647 ?_;simp only[zQ,simprocAttr,dv,kY,b6,aO,dm,cq,xP,cN,iQ,gp,kf,xm,hn,h1,h2,ajP,ajM,List.getElem?_map,qw,AH,hi,ajS,ajT,aq.cells,o5,mS,xA,cj,mB,nB,if_true,if_false,hw,gE,kJ,iC,jB,hB,aj4,ajN,ajO,aj8,eI];refine dU t root parts bg nb Bs sI rfl rfl rfl rfl rfl ?_;simp only[zQ,simprocAttr,dv,kY,b6,aO,dm,cq,xP,cN,iQ,gp,kf,xm,hn,h1,h2,ajP,ajM,List.getElem?_map,qw,AH,hi,ajS,ajT,aq.cells,o5,mS,xA,cj,mB,nB,if_true,if_false,hw,gE,kJ,iC,jB,hB,aj4,ajN,ajO,aj8,eI];refine hc _ ?_;simp only[zQ,simprocAttr,dv,kY,b6,aO,dm,cq,xP,cN,iQ,gp,kf,xm,hn,h1,h2,ajP,ajM,List.getElem?_map,qw,AH,hi,ajS,ajT,aq.cells,o5,mS,xA,cj,mB,nB,if_true,if_false,hw,gE,kJ,iC,jB,hB,aj4,ajN,ajO,aj8,eI,td,hwr,hlen.2.1]
    |false =>
     have hr:bC t Bs C p Lt (k+1) n st=(false,⟨st.kn.set n true,st.nw.set n false⟩):=by rw[bC,ap (by rw[List.getD_eq_getElem?_getD,qw];simp),kS];simp only[o5,mj];rfl
     rw[hr];unfold dv kY;refine bo Tryz.func97 Tryz.ntmps97 Tryz.results97 11 134219647 ?_;simp only[zQ,simprocAttr,dv,kY,b6,aO,dm,cq,xP,cN,iQ,gp,kf,xm,hn,h1,h2,ajP,ajM,List.getElem?_map,qw,AH,hi,ajS,ajT,aq.cells,o5,mS,xA,cj,mB,nB,if_true,if_false,hw,gE,kJ,iC,jB,hB,aj4,ajN,ajO,aj8,eI];refine dU t root parts bg nb Bs sI rfl rfl rfl rfl rfl ?_;simp only[zQ,simprocAttr,dv,kY,b6,aO,dm,cq,xP,cN,iQ,gp,kf,xm,hn,h1,h2,ajP,ajM,List.getElem?_map,qw,AH,hi,ajS,ajT,aq.cells,o5,mS,xA,cj,mB,nB,if_true,if_false,hw,gE,kJ,iC,jB,hB,aj4,ajN,ajO,aj8,eI]
  by_cases o2:i.op=2
  ·obtain⟨x0,x1,y0,y1⟩:=hg.split n hn (by rw[kS];exact o2);rw[kS]at x0 x1 y0 y1;obtain⟨X,hX⟩:∃X:Nat,i.x=X:=⟨i.x.toNat,ae⟩
   obtain⟨Y,hY⟩:∃Y:Nat,i.y=Y:=⟨i.y.toNat,ae⟩
   have Bg:X<C.length:=ae;have hYC:Y<C.length:=ae;obtain⟨j,rfl⟩:∃j,k=j+1:=⟨k-1,by have:=yu qw;omega⟩
   have hc:=λK hk=>mu (IH j rfl) (n:=X) (st:=⟨st.kn.set n true,st.nw⟩) Bg (by simpa using h1) h2 n6 (tl:=[⟨0,true,5,[[i64 2,i64 X,i64 Y,i64 i.n,cj b a i.node]]⟩]) (K:=K) hk;have hlen:=mO t Bs C p Lt (j+1) X ⟨st.kn.set n true,st.nw⟩;have hr:bC t Bs C p Lt (j+1+1) n st=(if (bC t Bs C p Lt (j+1) X ⟨st.kn.set n true,st.nw⟩).1=true then ((bC t Bs C p Lt (j+1) X ⟨st.kn.set n true,st.nw⟩).1,⟨(bC t Bs C p Lt (j+1) X ⟨st.kn.set n true,st.nw⟩).2.kn,(bC t Bs C p Lt (j+1) X ⟨st.kn.set n true,st.nw⟩).2.nw.set n (bC t Bs C p Lt (j+1) X ⟨st.kn.set n true,st.nw⟩).1⟩)
     else ((bC t Bs C p Lt (j+1) Y (bC t Bs C p Lt (j+1) X ⟨st.kn.set n true,st.nw⟩).2).1,⟨(bC t Bs C p Lt (j+1) Y (bC t Bs C p Lt (j+1) X ⟨st.kn.set n true,st.nw⟩).2).2.kn,(bC t Bs C p Lt (j+1) Y (bC t Bs C p Lt (j+1) X ⟨st.kn.set n true,st.nw⟩).2).2.nw.set n (bC t Bs C p Lt (j+1) Y (bC t Bs C p Lt (j+1) X ⟨st.kn.set n true,st.nw⟩).2).1⟩)):=by
    rw[bC,ap (by rw[List.getD_eq_getElem?_getD,qw];simp),kS];simp only[o2,hX,hY,ajP];generalize bC t Bs C p Lt (j+1) X ⟨st.kn.set n true,st.nw⟩=A;by_cases hh:A.1=true <;> simp [hh]
   rw[hr];clear hr;generalize bC t Bs C p Lt (j+1) X ⟨st.kn.set n true,st.nw⟩=R at *;have nO:=λK hk=>mu (IH j rfl) (n:=Y) (st:=R.2) hYC (by rw[hlen.1];simpa using h1) (by rw[hlen.2.1];exact h2) (akS hlen.2.2 n6) (tl:=[⟨0,true,5,[[i64 2,i64 X,i64 Y,i64 i.n,cj b a i.node]]⟩]) (K:=K) hk;have TH:=mO t Bs C p Lt (j+1) Y R.2;generalize bC t Bs C p Lt (j+1) Y R.2=R2 at *;have td:n<R.2.nw.length:=by rw[hlen.2.1];exact xm
   have aac:n<R2.2.nw.length:=by rw[TH.2.1];exact td
   obtain⟨wr,hwr⟩:∃wr,R.2.nw[n]?=some wr:=cc td;obtain⟨wr2,afj⟩:∃wr,R2.2.nw[n]?=some wr:=cc aac;obtain⟨r1,st2⟩:=R;simp only at hc nO hlen TH td hwr ⊢;unfold dv kY at hc nO;unfold dv kY;cases r1 with
   |true =>
    rw[be rfl];refine bo Tryz.func97 Tryz.ntmps97 Tryz.results97 11 134219647 ?_;simp only[zQ,simprocAttr,dv,kY,b6,aO,dm,cq,xP,cN,iQ,gp,kf,xm,hn,h1,h2,ajP,ajM,List.getElem?_map,qw,AH,hi,ajS,ajT,aq.cells,o2,hX,hY,gE,kJ,iC,jB,hB,aj4,ajN,ajO,aj8];refine hc _ ?_;simp only[zQ,simprocAttr,dv,kY,b6,aO,dm,cq,xP,cN,iQ,gp,kf,xm,hn,h1,h2,ajP,ajM,List.getElem?_map,qw,AH,hi,ajS,ajT,aq.cells,o2,hX,hY,gE,kJ,iC,jB,hB,aj4,ajN,ajO,aj8,td,hwr,hlen.2.1]
   |false =>
    rw[ap ak];refine bo Tryz.func97 Tryz.ntmps97 Tryz.results97 11 134219647 ?_;simp only[zQ,simprocAttr,dv,kY,b6,aO,dm,cq,xP,cN,iQ,gp,kf,xm,hn,h1,h2,ajP,ajM,List.getElem?_map,qw,AH,hi,ajS,ajT,aq.cells,o2,hX,hY,gE,kJ,iC,jB,hB,aj4,ajN,ajO,aj8];refine hc _ ?_;simp only[zQ,simprocAttr,dv,kY,b6,aO,dm,cq,xP,cN,iQ,gp,kf,xm,hn,h1,h2,ajP,ajM,List.getElem?_map,qw,AH,hi,ajS,ajT,aq.cells,o2,hX,hY,gE,kJ,iC,jB,hB,aj4,ajN,ajO,aj8,td,hwr,hlen.2.1];refine nO _ ?_;simp only[zQ,simprocAttr,dv,kY,b6,aO,dm,cq,xP,cN,iQ,gp,kf,xm,hn,h1,h2,ajP,ajM,List.getElem?_map,qw,AH,hi,ajS,ajT,aq.cells,o2,hX,hY,gE,kJ,iC,jB,hB,aj4,ajN,ajO,aj8,aac,afj,hlen.2.1,TH.2.1]
  have wH:=hg.ops n hn;rw[kS]at wH;omega
theorem GJ (hg:nj t Bs C) (nD:nb=Bs.length) (ht:t.length<=1000000) (hp:p<=t.length) (Rd:Lt.length=C.length):∀k,EOK t root parts bg nb Bs g b a C p Lt k
 |0=>GU t root parts bg nb Bs g b a C p Lt hg nD ht hp Rd 0 (λj h=>ae)
 |k+1=>GU t root parts bg nb Bs g b a C p Lt hg nD ht hp Rd (k+1) (λj h=>by
  have:j=k:=ae;subst this;exact GJ hg nD ht hp Rd j)
end
variable{l:List Nat}
structure Fg where
 ad:List Nat
 ho:List Bool
 rd:List Nat
 gn:Nat
def jd (p:Nat) (l:List Nat):Nat:=l.countP λx=>x != p+1
def kW (t:List Int) (Bs:List (List Bool)) (C:List aq) (p:Nat):Nat->Nat->Fg->Fg
 |0,_,st=>st
 |k+1,n,st =>
  if st.ad[n]?=none\/st.ad[n]?=some (p+1) then st else
  let bF:Fg:=⟨st.ad.set n (p+1),st.ho,st.rd,st.gn⟩
  let i:=e9 C n
  if i.op=0 then ⟨bF.ad,bF.ho.set p true,bF.rd,bF.gn⟩
  else if i.op=1 then (if i.pass t Bs p=true then ⟨bF.ad,bF.ho,bF.rd++[n],bF.gn+1⟩ else bF)
  else if i.op=2 then kW t Bs C p k i.y.toNat (kW t Bs C p k i.x.toNat bF)
  else if i.op=3 then kW t Bs C p k i.x.toNat bF
  else if i.op=4 then kW t Bs C p k (n+1) bF
  else if i.op=5 then (if i.pass t Bs p=true then kW t Bs C p k (n+1) bF else bF)
  else bF
theorem yi {p n:Nat}{x:Nat} (h:l[n]?=some x) (hx:x≠p+1):jd p (l.set n (p+1))+1=jd p l:=by unfold jd;have hn:=(List.getElem?_eq_some_iff.1 h).1;have he:l[n]=x:=(List.getElem?_eq_some_iff.1 h).2;have hp:0<l.countP λx=>x != p+1:=List.countP_pos_iff.2 ⟨x,List.mem_of_getElem? h,by simp [hx]⟩;rw[List.countP_set hn,he];simp [hx];omega
theorem JT {p n:Nat}{x:Nat} (h:l[n]?=some x) (hx:x≠p+1):0<jd p l:=List.countP_pos_iff.2 ⟨x,List.mem_of_getElem? h,by simp [hx]⟩
section
variable (t:List Int) (Bs:List (List Bool)) (C:List aq) (p:Nat)
def rZ (st st':Fg):Prop:=st'.ad.length=st.ad.length/\st'.ho.length=st.ho.length/\jd p st'.ad<=jd p st.ad/\st'.rd.length+jd p st'.ad<=st.rd.length+jd p st.ad/\∀e∈st'.rd,e∈st.rd\/(e9 C e).op=1
variable {C p}
theorem rZ.refl (st:Fg):rZ C p st st:=⟨rfl,rfl,ajZ _,ajZ _,λ_ h=>.inl h⟩
theorem rZ.trans {a b c:Fg} (h:rZ C p a b) (k:rZ C p b c):rZ C p a c :=
 ⟨k.1.trans h.1,k.2.1.trans h.2.1,akS k.2.2.1 h.2.2.1,akS k.2.2.2.1 h.2.2.2.1,λe he=>(k.2.2.2.2 e he).elim (λh'=>h.2.2.2.2 e h') .inr⟩
variable (C p)
theorem BE:∀(k n:Nat) (st:Fg),rZ C p st (kW t Bs C p k n st)
 |0,_,st=>.refl st
 |k+1,n,st=>by
  have ih:=BE k;rw[kW];split
  ·exact .refl st
  ·rename_i hk;obtain⟨x,hx⟩:∃x,st.ad[n]?=some x:=by
    cases h:st.ad[n]? with
    |none=>exact absurd (.inl h) hk
    |some x=>exact⟨x,rfl⟩
   have BR:x≠p+1:=λh=>hk (.inr (by rw[hx,h]));have hu:=yi hx BR;have key:rZ C p st ⟨st.ad.set n (p+1),st.ho,st.rd,st.gn⟩:=⟨ak,rfl,n6,n6,λ_ h=>.inl h⟩
   simp only;split
   ·exact key.trans ⟨rfl,ak,ajZ _,ajZ _,λ_ h=>.inl h⟩
   split
   ·split
    ·rename_i h1 _;refine⟨ak,rfl,n6,by simp only[ajQ,aki];omega,λe he=>?_⟩;rcases List.mem_append.1 he with h|h
     ·exact .inl h
     ·rw[List.mem_singleton.1 h];exact .inr h1
    ·exact key
   split
   ·exact(key.trans (ih _ _)).trans (ih _ _)
   split
   ·exact key.trans (ih _ _)
   split
   ·exact key.trans (ih _ _)
   split
   ·split
    ·exact key.trans (ih _ _)
    ·exact key
   ·exact key
end
def bp (q:Nat) (l:List Nat):VL.Obj:=⟨q,true,1,l.map λ(x:Nat)=>[i64 (x:Int)]⟩
def dh (k q n:Nat):VL.Obj:=⟨0,true,1,[[.so k q 0 n]]⟩
def A1 (g N:Nat):V:=.cl (.func 99) [] [.rf 4 0 0 0,.bx (.so 2 g 0 N),.rf 6 0 0 0,.rf 8 0 0 0,.rf 9 0 0 0]
def fq (t:List Int) (root parts:D) (bg nb:Nat) (Bs:List (List Bool)) (g b a:Nat) (C:List aq) (st:Fg):List VL.Obj :=
 [dz t root parts bg nb,fx bg Bs,cN g b a C,bp 0 st.ad,dm 0 3 C.length,cq 0 st.ho,dm 0 5 (t.length+1),bp st.gn st.rd,dh 7 st.gn st.rd.length,⟨0,true,1,[[A1 g C.length]]⟩]
def eJ (g N n p:Nat):List V:=[i64 n,i64 p,.rf 4 0 0 0,.bx (.so 2 g 0 N),.rf 6 0 0 0,.rf 8 0 0 0,.rf 9 0 0 0]
theorem nS (ρ:List Nat) (q:Nat) (l:List Nat):aN ρ (bp q l)=bp q l:=by unfold aN bp;simp only[akq];congr 1
theorem nq (n q:Nat) (l:List Nat):aK n (bp q l)=true:=by unfold aK bp;rw[aj3];intro e he;obtain⟨i,_,rfl⟩:=List.mem_map.1 he;rfl
theorem qv (t:List Int) (root parts:D) (bg nb:Nat) (Bs:List (List Bool)) (b a:Nat) (C:List aq) (hg:nj t Bs C) (nD:nb=Bs.length) (ht:t.length<=1000000) {n:Nat} (hn:n<C.length) (ho:(e9 C n).op=1\/(e9 C n).op=5) (p:Nat) (hp:p<=t.length) :
  ∃V9 ai,cj b a (e9 C n).node=.cl (.func V9) [] ai/\aj.go 2 ai=true/\ai.map (aE [0,1])=ai /\
   ar Tryz.prog V9 (i64 (p:Int)::ai) [dz t root parts bg nb,fx bg Bs] λv s=>v=bV ((e9 C n).pass t Bs p)/\s=[dz t root parts bg nb,fx bg Bs]:=by
 rcases ho with o|o
 ·obtain⟨re,k,h1,h2,h3⟩:=hg.set n hn o;have sI:=CE t root parts bg nb Bs b a re k p ae h3 ht;rw[h1];refine⟨65,[mB b a,nB re k],by unfold cj;simp only[h2,if_true],?_,?_,?_⟩
  ·simp [aj,aj.go,mB,nB]
  ·simp [aE,aE.go,mB,nB]
  ·have:(e9 C n).pass t Bs p=(decide ((p:Int)<t.length)&&ED re.set (mG t p)):=by unfold aq.pass;rw[h1];simp only[h2,if_true]
   rw[this];exact sI
 ·obtain⟨re,k,h1,h2,h3,h4⟩:=hg.ask n hn o;rw[h1];by_cases eI:re.op=11
  ·have sI:=wh t root parts bg nb Bs b a re k p ae ae (h3 eI).1 (h3 eI).2 ht;refine⟨67,[nB re k,mB b a],by unfold cj;simp only[eI];rfl,?_,?_,?_⟩
   ·simp [aj,aj.go,mB,nB]
   ·simp [aE,aE.go,mB,nB]
   ·have:(e9 C n).pass t Bs p=bL re.n t p:=by unfold aq.pass;rw[h1];simp only[eI];rfl
    rw[this];exact sI
  ·obtain⟨l,oT,BL⟩:=h4 eI;obtain⟨y,hy⟩:∃y,l[p]?=some y:=cc;have sI:=Ax t root parts bg nb Bs b a re k p nD oT hy;refine⟨69,[mB b a,nB re k],by unfold cj;simp only[h2,eI,if_false],?_,?_,?_⟩
   ·simp [aj,aj.go,mB,nB]
   ·simp [aE,aE.go,mB,nB]
   ·have:(e9 C n).pass t Bs p=y:=by unfold aq.pass;rw[h1];simp only[h2,eI,if_false,List.getD_eq_getElem?_getD,oT,ak2,hy]
    rw[this];exact sI
section
variable (t:List Int) (root parts:D) (bg nb:Nat) (Bs:List (List Bool)) (g b a:Nat) (C:List aq) (p:Nat)
theorem L3 (st:Fg):(fq t root parts bg nb Bs g b a C st).map (aN [0,1,2,3,4,5,6,7,8,9])=fq t root parts bg nb Bs g b a C st:=by simp only[fq,ajR,ajV,ko,yv,fr,nS];simp [aN,dz,dm,dh,A1,aE,aE.go,i64]
theorem Ok (st:Fg):(fq t root parts bg nb Bs g b a C st).all (aK 10)=true:=by have:=gu 10 bg Bs;simp only[fq,aks,akB,kv 10 _ _ _ ae,BY,nq,aj4];simp [aK,dz,dm,dh,A1,aj,aj.go,i64,this]
def LV (k:Nat):Prop:=∀(n:Nat) (st:Fg),n<C.length->st.ad.length=C.length->st.ho.length=t.length+1->jd p st.ad<=k->st.rd.length+jd p st.ad<=C.length ->
 ar Tryz.prog 99 (eJ g C.length n p) (fq t root parts bg nb Bs g b a C st) λv s=>v=.tu []/\s=fq t root parts bg nb Bs g b a C (kW t Bs C p (k+1) n st)
variable {t root parts bg nb Bs g b a C p}
theorem Ge {k n:Nat}{st:Fg} (h:LV t root parts bg nb Bs g b a C p k) (hn:n<C.length) (h1:st.ad.length=C.length) (h2:st.ho.length=t.length+1) (hu:jd p st.ad<=k) (hr:st.rd.length+jd p st.ad<=C.length) {tl:List VL.Obj}{K:V->List VL.Obj->Prop}
  (hk:K (.tu []) (fq t root parts bg nb Bs g b a C (kW t Bs C p (k+1) n st)++tl)) :
  ar Tryz.prog 99 (eJ g C.length n p) (fq t root parts bg nb Bs g b a C st++tl) K:=by
 have BP:=L3 t root parts bg nb Bs g b a C st;refine cV [0,1,2,3,4,5,6,7,8,9] (h n st hn h1 h2 hu hr) aU rfl ?_ cB cB (Ok t root parts bg nb Bs g b a C st) (r':=.tu []) rfl ?_
 ·have h2:(fq t root parts bg nb Bs g b a C st).map (λo=>some (aN [0,1,2,3,4,5,6,7,8,9] o))=((fq t root parts bg nb Bs g b a C st).map (aN [0,1,2,3,4,5,6,7,8,9])).map some:=by rw[akq];rfl
  rw[h2,BP];rfl
 ·rw[L3];exact hk
end
end Go.Proofs.YtjjfioalgbecmaaGreat
