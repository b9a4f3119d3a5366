/- A part of the proof (O7 O9). -/
import Derived.Test.YtfmdmlfhigocaaaOF30
set_option linter.unusedSimpArgs false
set_option linter.unusedVariables false
set_option maxRecDepth 100000
set_option maxHeartbeats 80000000
namespace Go.Proofs.Ytfmdmlfhigocaaa
open Go.VL
section
variable (t:List Int) (root parts:D) (bg nb:Nat) (Bs:List (List Bool)) (g b a:Nat) (C:List av) (p:Nat) (Lt:List Bool)
omit t root parts bg nb Bs g b a C p Lt in
theorem fi (l:List Bool) (n:Nat) (x:Bool):(l.map fun x=>[V.d (D.sc (Value.bool x))]).set n [V.d (D.sc (Value.bool x))]=(l.set n x).map fun x=>[V.d (D.sc (Value.bool x))]:=by rw[List.map_set]
theorem dm {f:FuncId}{args:List V}{r:V}{s:List VL.Obj}{K:V->List VL.Obj->Prop} (h:aq Try.prog f args [cV t root parts bg nb,ez bg Bs] fun v s=>v=r/\s=[cV t root parts bg nb,ez bg Bs])
  (ha:args=args.map (aJ [0,1])) (z8:ah.go 2 args=true) (hr:aJ [0,1] r=r) (h0:s[0]?=some (cV t root parts bg nb)) (h1:s[1]?=some (ez bg Bs)) (hk:K r s):aq Try.prog f args s K:=by
 have e0:aP [0,1] (cV t root parts bg nb)=cV t root parts bg nb:=rfl
 refine dk [0,1] h (by decide) rfl ?_ ha z8 ?_ hr ?_
 ·simp only[List.map_cons,List.map_nil,e0,er,h0,h1]
 ·have:=fe 2 bg Bs
  simp only[List.all_cons,List.all_nil,aQ,List.length_cons,List.length_nil,Nat.reduceAdd,this,Bool.and_true]
  rfl
 ·simp only[List.map_cons,List.map_nil,e0,er,aH]
  have e1:s.set 0 (cV t root parts bg nb)=s:=by
   apply List.ext_getElem?
   intro j
   by_cases hj:j=0
   ·subst hj;rw[List.getElem?_set_self (List.getElem?_eq_some_iff.1 h0).1,h0]
   ·rw[List.getElem?_set_ne (Ne.symm hj)]
  have e2:s.set 1 (ez bg Bs)=s:=by
   apply List.ext_getElem?
   intro j
   by_cases hj:j=1
   ·subst hj;rw[List.getElem?_set_self (List.getElem?_eq_some_iff.1 h1).1,h1]
   ·rw[List.getElem?_set_ne (Ne.symm hj)]
  rw[e1,e2]
  exact hk
theorem AZ (hg:lg t Bs C) (ly:nb=Bs.length) (ht:t.length<=1000000) (hp:p<=t.length) (Mr:Lt.length=C.length) (k:Nat) (IH:∀j,j+1=k->Tr t root parts bg nb Bs g b a C p Lt j):Tr t root parts bg nb Bs g b a C p Lt k:=by
 intro n st hn h1 h2 hu
 have fU:(n:Int)<(C.length:Int):=by omega
 have fl:(0:Int)<=(n:Int):=by omega
 have iA:n<st.kn.length:=by omega
 have te:n<st.nw.length:=by omega
 have fP:=fe 11 bg Bs
 have iY:((cV t root parts bg nb).au.all fun e=>e.all (ah 11))=true:=rfl
 have NP:((cr g b a C).au.all fun e=>e.all (ah 11))=true:=iP 11 g b a (by omega) C
 have ji:((C.map (av.cells b a)).all fun e=>e.all (ah 11))=true:=iP 11 g b a (by omega) C
 have hB:∀l:List Bool,((l.map fun b=>[V.d (D.sc (Value.bool b))]).all fun e=>e.all (ah 11))=true:=fun l=>xN 11 0 l
 obtain⟨kb,nK⟩:∃kb,st.kn[n]?=some kb:=⟨_,List.getElem?_eq_getElem iA⟩
 obtain⟨wb,wF⟩:∃wb,st.nw[n]?=some wb:=⟨_,List.getElem?_eq_getElem te⟩
 obtain⟨i,hi⟩:∃i,C[n]?=some i:=⟨_,List.getElem?_eq_getElem hn⟩
 have jh:db C n=i:=by unfold db;rw[List.getD_eq_getElem?_getD,hi];rfl
 cases kb with
 |true =>
  have hr:bn t Bs C p Lt (k+1) n st=(wb,st):=by
   rw[bn,if_pos (by rw[List.getD_eq_getElem?_getD,nK];rfl),List.getD_eq_getElem?_getD,wF];rfl
  rw[hr]
  unfold cQ jo
  refine an Try.func83 rfl Try.ntmps83 Try.results83 rfl 11 134219647 (by simp) (by simp) ?_
  simp only[zX,Nat.reduceShiftRight,Nat.reduceMod,Nat.reduceLT,Nat.reduceMul,Nat.reduceSub,Int.reduceToNat,Int.reduceNeg,Int.reduceLT,Int.reduceLE,Int.reduceEq,Nat.reduceEqDiff,Nat.reduceAdd,Nat.reduceLeDiff,reduceIte,reduceCtorEq,Nat.reduceBEq,i64,bV,iD,bD,cQ,jo,bK,aG,cM,bT,tG,fU,fl,iA,te,hn,h1,h2,Int.toNat_natCast,List.length_map,List.getElem?_map,nK,wF,Option.map_some,Nat.zero_add,iY,fP,NP,hB,Bool.and_true]
 |false =>
  have WR:=Hi nK
  by_cases o0:i.op=0
  ·have hr:bn t Bs C p Lt (k+1) n st=(true,⟨st.kn.set n true,st.nw.set n true⟩):=by
    rw[bn,if_neg (by rw[List.getD_eq_getElem?_getD,nK];simp),jh]
    simp only[o0,if_true]
   rw[hr]
   unfold cQ jo
   refine an Try.func83 rfl Try.ntmps83 Try.results83 rfl 11 134219647 (by simp) (by simp) ?_
   simp only[zX,Nat.reduceShiftRight,Nat.reduceMod,Nat.reduceLT,Nat.reduceMul,Nat.reduceSub,Int.reduceToNat,Int.reduceNeg,Int.reduceLT,Int.reduceLE,Int.reduceEq,Nat.reduceEqDiff,Nat.reduceAdd,Nat.reduceLeDiff,reduceIte,reduceCtorEq,Nat.reduceBEq,i64,bV,iD,bD,cQ,jo,bK,aG,cM,bT,tG,cr,fU,fl,iA,te,hn,h1,h2,Int.toNat_natCast,List.length_map,List.getElem?_map,nK,wF,hi,Option.map_some,Nat.zero_add,av.cells,o0,fi,iY,fP,ji,hB,Bool.and_true]
  by_cases o3:i.op=3
  ·obtain⟨x0,x1⟩:=hg.jump n hn (by rw[jh];exact o3)
   rw[jh]at x0 x1
   obtain⟨X,hX⟩:∃X:Nat,i.x=X:=⟨i.x.toNat,by omega⟩
   have xc:X<C.length:=by omega
   obtain⟨j,rfl⟩:∃j,k=j+1:=⟨k-1,by have:=uH nK;omega⟩
   have hc:=fun K hk=>ke (IH j rfl) (n:=X) (st:=⟨st.kn.set n true,st.nw⟩) xc (by simpa using h1) h2 (by simp only;omega) (tl:=[⟨0,true,5,[[i64 3,i64 X,i64 i.y,i64 i.n,bQ b a i.node]]⟩]) (K:=K) hk
   have hr:bn t Bs C p Lt (j+1+1) n st=((bn t Bs C p Lt (j+1) X ⟨st.kn.set n true,st.nw⟩).1,⟨(bn t Bs C p Lt (j+1) X ⟨st.kn.set n true,st.nw⟩).2.kn,(bn t Bs C p Lt (j+1) X ⟨st.kn.set n true,st.nw⟩).2.nw.set n (bn t Bs C p Lt (j+1) X ⟨st.kn.set n true,st.nw⟩).1⟩):=by
    rw[bn,if_neg (by rw[List.getD_eq_getElem?_getD,nK];simp),jh]
    simp only[o3,hX,Int.toNat_natCast]
    rfl
   rw[hr]
   have hlen:=kD t Bs C p Lt (j+1) X ⟨st.kn.set n true,st.nw⟩
   generalize bn t Bs C p Lt (j+1) X ⟨st.kn.set n true,st.nw⟩=R at *
   have pL:n<R.2.nw.length:=by rw[hlen.2.1];exact te
   obtain⟨wr,hwr⟩:∃wr,R.2.nw[n]?=some wr:=⟨_,List.getElem?_eq_getElem pL⟩
   unfold cQ jo at hc
   unfold cQ jo
   refine an Try.func83 rfl Try.ntmps83 Try.results83 rfl 11 134219647 (by simp) (by simp) ?_
   simp only[zX,Nat.reduceShiftRight,Nat.reduceMod,Nat.reduceLT,Nat.reduceMul,Nat.reduceSub,Int.reduceToNat,Int.reduceNeg,Int.reduceLT,Int.reduceLE,Int.reduceEq,Nat.reduceEqDiff,Nat.reduceAdd,Nat.reduceLeDiff,reduceIte,reduceCtorEq,Nat.reduceBEq,i64,bV,iD,bD,cQ,jo,bK,aG,cM,bT,tG,cr,fU,fl,iA,te,hn,h1,h2,Int.toNat_natCast,List.length_map,List.getElem?_map,nK,wF,hi,Option.map_some,Nat.zero_add,av.cells,o3,hX,fi,iY,fP,ji,hB,Bool.and_true,List.cons_append,List.nil_append,List.length_set]
   refine hc _ ?_
   simp only[zX,Nat.reduceShiftRight,Nat.reduceMod,Nat.reduceLT,Nat.reduceMul,Nat.reduceSub,Int.reduceToNat,Int.reduceNeg,Int.reduceLT,Int.reduceLE,Int.reduceEq,Nat.reduceEqDiff,Nat.reduceAdd,Nat.reduceLeDiff,reduceIte,reduceCtorEq,Nat.reduceBEq,i64,bV,iD,bD,cQ,jo,bK,aG,cM,bT,tG,cr,fU,fl,iA,te,pL,hwr,hlen.2.1,hn,h1,h2,Int.toNat_natCast,List.length_map,List.getElem?_map,nK,wF,hi,Option.map_some,Nat.zero_add,av.cells,o3,hX,fi,iY,fP,ji,hB,Bool.and_true,List.cons_append,List.nil_append,List.length_set]
  by_cases o4:i.op=4
  ·have xc:=hg.next n hn (by rw[jh];exact .inr (.inl o4))
   have hw:IntKind.i64.wrap ((n:Int)+1)=((n+1:Nat):Int):=by have:=hg.len;rw[br _ (by omega)];rfl
   obtain⟨j,rfl⟩:∃j,k=j+1:=⟨k-1,by have:=uH nK;omega⟩
   have hc:=fun K hk=>ke (IH j rfl) (n:=n+1) (st:=⟨st.kn.set n true,st.nw⟩) xc (by simpa using h1) h2 (by simp only;omega) (tl:=[⟨0,true,5,[[i64 4,i64 i.x,i64 i.y,i64 i.n,bQ b a i.node]]⟩]) (K:=K) hk
   have hr:bn t Bs C p Lt (j+1+1) n st=((bn t Bs C p Lt (j+1) (n+1) ⟨st.kn.set n true,st.nw⟩).1,⟨(bn t Bs C p Lt (j+1) (n+1) ⟨st.kn.set n true,st.nw⟩).2.kn,(bn t Bs C p Lt (j+1) (n+1) ⟨st.kn.set n true,st.nw⟩).2.nw.set n (bn t Bs C p Lt (j+1) (n+1) ⟨st.kn.set n true,st.nw⟩).1⟩):=by
    rw[bn,if_neg (by rw[List.getD_eq_getElem?_getD,nK];simp),jh]
    simp only[o4]
    rfl
   rw[hr]
   have hlen:=kD t Bs C p Lt (j+1) (n+1) ⟨st.kn.set n true,st.nw⟩
   generalize bn t Bs C p Lt (j+1) (n+1) ⟨st.kn.set n true,st.nw⟩=R at *
   have pL:n<R.2.nw.length:=by rw[hlen.2.1];exact te
   obtain⟨wr,hwr⟩:∃wr,R.2.nw[n]?=some wr:=⟨_,List.getElem?_eq_getElem pL⟩
   unfold cQ jo at hc
   unfold cQ jo
   refine an Try.func83 rfl Try.ntmps83 Try.results83 rfl 11 134219647 (by simp) (by simp) ?_
   simp only[zX,Nat.reduceShiftRight,Nat.reduceMod,Nat.reduceLT,Nat.reduceMul,Nat.reduceSub,Int.reduceToNat,Int.reduceNeg,Int.reduceLT,Int.reduceLE,Int.reduceEq,Nat.reduceEqDiff,Nat.reduceAdd,Nat.reduceLeDiff,reduceIte,reduceCtorEq,Nat.reduceBEq,i64,bV,iD,bD,cQ,jo,bK,aG,cM,bT,tG,cr,fU,fl,iA,te,hn,h1,h2,Int.toNat_natCast,List.length_map,List.getElem?_map,nK,wF,hi,Option.map_some,Nat.zero_add,av.cells,o4,hw,fi,iY,fP,ji,hB,Bool.and_true,List.cons_append,List.nil_append,List.length_set]
   refine hc _ ?_
   simp only[zX,Nat.reduceShiftRight,Nat.reduceMod,Nat.reduceLT,Nat.reduceMul,Nat.reduceSub,Int.reduceToNat,Int.reduceNeg,Int.reduceLT,Int.reduceLE,Int.reduceEq,Nat.reduceEqDiff,Nat.reduceAdd,Nat.reduceLeDiff,reduceIte,reduceCtorEq,Nat.reduceBEq,i64,bV,iD,bD,cQ,jo,bK,aG,cM,bT,tG,cr,fU,fl,iA,te,pL,hwr,hlen.2.1,hn,h1,h2,Int.toNat_natCast,List.length_map,List.getElem?_map,nK,wF,hi,Option.map_some,Nat.zero_add,av.cells,o4,hw,fi,iY,fP,ji,hB,Bool.and_true,List.cons_append,List.nil_append,List.length_set]
  by_cases o1:i.op=1
  ·obtain⟨re,k',lM,u4,eO⟩:=hg.set n hn (by rw[jh];exact o1)
   rw[jh]at lM
   have xc:=hg.next n hn (by rw[jh];exact .inl o1)
   have hw:IntKind.i64.wrap ((n:Int)+1)=((n+1:Nat):Int):=by have:=hg.len;rw[br _ (by omega)];rfl
   have TD:((n+1:Nat):Int)<(C.length:Int):=by omega
   have Tl:(0:Int)<=((n+1:Nat):Int):=by omega
   have Ta:n+1<C.length:=xc
   obtain⟨lv,RJ⟩:∃lv,Lt[n+1]?=some lv:=⟨_,List.getElem?_eq_getElem (by omega)⟩
   have pg:=ym t root parts bg nb Bs b a re k' p (by omega) eO ht
   have kU:i.pass t Bs p=(decide ((p:Int)<t.length)&&Ba re.set (kW t p)):=by unfold av.pass;rw[lM];simp only[u4,if_true]
   have hr:bn t Bs C p Lt (k+1) n st=(i.pass t Bs p&&lv,⟨st.kn.set n true,st.nw.set n (i.pass t Bs p&&lv)⟩):=by
    rw[bn,if_neg (by rw[List.getD_eq_getElem?_getD,nK];simp),jh]
    simp only[o1,List.getD_eq_getElem?_getD,RJ,Option.getD_some]
    rfl
   rw[hr,kU]
   generalize (decide ((p:Int)<t.length)&&Ba re.set (kW t p))=y at *
   unfold cQ jo
   cases y with
   |true =>
    refine an Try.func83 rfl Try.ntmps83 Try.results83 rfl 11 134219647 (by simp) (by simp) ?_
    simp only[zX,Nat.reduceShiftRight,Nat.reduceMod,Nat.reduceLT,Nat.reduceMul,Nat.reduceSub,Int.reduceToNat,Int.reduceNeg,Int.reduceLT,Int.reduceLE,Int.reduceEq,Nat.reduceEqDiff,Nat.reduceAdd,Nat.reduceLeDiff,reduceIte,reduceCtorEq,Nat.reduceBEq,i64,bV,iD,bD,cQ,jo,bK,aG,cM,bT,tG,cr,fU,fl,iA,te,hn,h1,h2,Int.toNat_natCast,List.length_map,List.getElem?_map,nK,wF,hi,Option.map_some,Nat.zero_add,av.cells,o1,lM,u4,bQ,mB,nB,if_true,hw,RJ,Mr,TD,Tl,Ta,fi,iY,fP,ji,hB,Bool.and_true,List.cons_append,List.nil_append,List.length_set]
    refine dm t root parts bg nb Bs pg rfl rfl rfl rfl rfl ?_
    simp only[zX,Nat.reduceShiftRight,Nat.reduceMod,Nat.reduceLT,Nat.reduceMul,Nat.reduceSub,Int.reduceToNat,Int.reduceNeg,Int.reduceLT,Int.reduceLE,Int.reduceEq,Nat.reduceEqDiff,Nat.reduceAdd,Nat.reduceLeDiff,reduceIte,reduceCtorEq,Nat.reduceBEq,i64,bV,iD,bD,cQ,jo,bK,aG,cM,bT,tG,cr,fU,fl,iA,te,hn,h1,h2,Int.toNat_natCast,List.length_map,List.getElem?_map,nK,wF,hi,Option.map_some,Nat.zero_add,av.cells,o1,lM,u4,bQ,mB,nB,if_true,hw,RJ,Mr,TD,Tl,Ta,fi,iY,fP,ji,hB,Bool.and_true,List.cons_append,List.nil_append,List.length_set]
   |false =>
    refine an Try.func83 rfl Try.ntmps83 Try.results83 rfl 11 134219647 (by simp) (by simp) ?_
    simp only[zX,Nat.reduceShiftRight,Nat.reduceMod,Nat.reduceLT,Nat.reduceMul,Nat.reduceSub,Int.reduceToNat,Int.reduceNeg,Int.reduceLT,Int.reduceLE,Int.reduceEq,Nat.reduceEqDiff,Nat.reduceAdd,Nat.reduceLeDiff,reduceIte,reduceCtorEq,Nat.reduceBEq,i64,bV,iD,bD,cQ,jo,bK,aG,cM,bT,tG,cr,fU,fl,iA,te,hn,h1,h2,Int.toNat_natCast,List.length_map,List.getElem?_map,nK,wF,hi,Option.map_some,Nat.zero_add,av.cells,o1,lM,u4,bQ,mB,nB,if_true,hw,RJ,Mr,TD,Tl,Ta,fi,iY,fP,ji,hB,Bool.and_true,List.cons_append,List.nil_append,List.length_set]
    refine dm t root parts bg nb Bs pg rfl rfl rfl rfl rfl ?_
    simp only[zX,Nat.reduceShiftRight,Nat.reduceMod,Nat.reduceLT,Nat.reduceMul,Nat.reduceSub,Int.reduceToNat,Int.reduceNeg,Int.reduceLT,Int.reduceLE,Int.reduceEq,Nat.reduceEqDiff,Nat.reduceAdd,Nat.reduceLeDiff,reduceIte,reduceCtorEq,Nat.reduceBEq,i64,bV,iD,bD,cQ,jo,bK,aG,cM,bT,tG,cr,fU,fl,iA,te,hn,h1,h2,Int.toNat_natCast,List.length_map,List.getElem?_map,nK,wF,hi,Option.map_some,Nat.zero_add,av.cells,o1,lM,u4,bQ,mB,nB,if_true,hw,RJ,Mr,TD,Tl,Ta,fi,iY,fP,ji,hB,Bool.and_true,List.cons_append,List.nil_append,List.length_set]
    exact⟨rfl,rfl⟩
  by_cases o5:i.op=5
  ·obtain⟨re,k',lM,u4,Ru,CO⟩:=hg.ask n hn (by rw[jh];exact o5)
   rw[jh]at lM
   have xc:=hg.next n hn (by rw[jh];exact .inr (.inr o5))
   have hw:IntKind.i64.wrap ((n:Int)+1)=((n+1:Nat):Int):=by have:=hg.len;rw[br _ (by omega)];rfl
   by_cases kt:re.op=11
   ·have pg:=sr t root parts bg nb Bs b a re k' p (by omega) (by omega) (Ru kt).1 (Ru kt).2 ht
    have kU:i.pass t Bs p=bP re.n t p:=by unfold av.pass;rw[lM];simp only[kt];rfl
    generalize bP re.n t p=y at *
    cases y with
    |true =>
     obtain⟨j,rfl⟩:∃j,k=j+1:=⟨k-1,by have:=uH nK;omega⟩
     have hc:=fun K hk=>ke (IH j rfl) (n:=n+1) (st:=⟨st.kn.set n true,st.nw⟩) xc (by simpa using h1) h2 (by simp only;omega) (tl:=[⟨0,true,5,[[i64 5,i64 i.x,i64 i.y,i64 i.n,.cl (.func 59) [] [nB re k',mB b a]]]⟩]) (K:=K) hk
     have hr:bn t Bs C p Lt (j+1+1) n st=((bn t Bs C p Lt (j+1) (n+1) ⟨st.kn.set n true,st.nw⟩).1,⟨(bn t Bs C p Lt (j+1) (n+1) ⟨st.kn.set n true,st.nw⟩).2.kn,(bn t Bs C p Lt (j+1) (n+1) ⟨st.kn.set n true,st.nw⟩).2.nw.set n (bn t Bs C p Lt (j+1) (n+1) ⟨st.kn.set n true,st.nw⟩).1⟩):=by
      rw[bn,if_neg (by rw[List.getD_eq_getElem?_getD,nK];simp),jh]
      simp only[o5,kU,if_true]
      rfl
     rw[hr]
     have hlen:=kD t Bs C p Lt (j+1) (n+1) ⟨st.kn.set n true,st.nw⟩
     generalize bn t Bs C p Lt (j+1) (n+1) ⟨st.kn.set n true,st.nw⟩=R at *
     have pL:n<R.2.nw.length:=by rw[hlen.2.1];exact te
     obtain⟨wr,hwr⟩:∃wr,R.2.nw[n]?=some wr:=⟨_,List.getElem?_eq_getElem pL⟩
     unfold cQ jo at hc
     unfold cQ jo
     refine an Try.func83 rfl Try.ntmps83 Try.results83 rfl 11 134219647 (by simp) (by simp) ?_
     simp only[zX,Nat.reduceShiftRight,Nat.reduceMod,Nat.reduceLT,Nat.reduceMul,Nat.reduceSub,Int.reduceToNat,Int.reduceNeg,Int.reduceLT,Int.reduceLE,Int.reduceEq,Nat.reduceEqDiff,Nat.reduceAdd,Nat.reduceLeDiff,reduceIte,reduceCtorEq,Nat.reduceBEq,i64,bV,iD,bD,cQ,jo,bK,aG,cM,bT,tG,cr,fU,fl,iA,te,hn,h1,h2,Int.toNat_natCast,List.length_map,List.getElem?_map,nK,wF,hi,Option.map_some,Nat.zero_add,av.cells,o5,lM,u4,bQ,mB,nB,if_true,if_false,hw,fi,iY,fP,ji,hB,Bool.and_true,List.cons_append,List.nil_append,List.length_set,kt]
     refine dm t root parts bg nb Bs pg rfl rfl rfl rfl rfl ?_
     simp only[zX,Nat.reduceShiftRight,Nat.reduceMod,Nat.reduceLT,Nat.reduceMul,Nat.reduceSub,Int.reduceToNat,Int.reduceNeg,Int.reduceLT,Int.reduceLE,Int.reduceEq,Nat.reduceEqDiff,Nat.reduceAdd,Nat.reduceLeDiff,reduceIte,reduceCtorEq,Nat.reduceBEq,i64,bV,iD,bD,cQ,jo,bK,aG,cM,bT,tG,cr,fU,fl,iA,te,hn,h1,h2,Int.toNat_natCast,List.length_map,List.getElem?_map,nK,wF,hi,Option.map_some,Nat.zero_add,av.cells,o5,lM,u4,bQ,mB,nB,if_true,if_false,hw,fi,iY,fP,ji,hB,Bool.and_true,List.cons_append,List.nil_append,List.length_set,kt]
     refine hc _ ?_
     simp only[zX,Nat.reduceShiftRight,Nat.reduceMod,Nat.reduceLT,Nat.reduceMul,Nat.reduceSub,Int.reduceToNat,Int.reduceNeg,Int.reduceLT,Int.reduceLE,Int.reduceEq,Nat.reduceEqDiff,Nat.reduceAdd,Nat.reduceLeDiff,reduceIte,reduceCtorEq,Nat.reduceBEq,i64,bV,iD,bD,cQ,jo,bK,aG,cM,bT,tG,cr,fU,fl,iA,te,hn,h1,h2,Int.toNat_natCast,List.length_map,List.getElem?_map,nK,wF,hi,Option.map_some,Nat.zero_add,av.cells,o5,lM,u4,bQ,mB,nB,if_true,if_false,hw,fi,iY,fP,ji,hB,Bool.and_true,List.cons_append,List.nil_append,List.length_set,kt,pL,hwr,hlen.2.1]
    |false =>
     have hr:bn t Bs C p Lt (k+1) n st=(false,⟨st.kn.set n true,st.nw.set n false⟩):=by
      rw[bn,if_neg (by rw[List.getD_eq_getElem?_getD,nK];simp),jh]
      simp only[o5,kU]
      rfl
     rw[hr]
     unfold cQ jo
     refine an Try.func83 rfl Try.ntmps83 Try.results83 rfl 11 134219647 (by simp) (by simp) ?_
     simp only[zX,Nat.reduceShiftRight,Nat.reduceMod,Nat.reduceLT,Nat.reduceMul,Nat.reduceSub,Int.reduceToNat,Int.reduceNeg,Int.reduceLT,Int.reduceLE,Int.reduceEq,Nat.reduceEqDiff,Nat.reduceAdd,Nat.reduceLeDiff,reduceIte,reduceCtorEq,Nat.reduceBEq,i64,bV,iD,bD,cQ,jo,bK,aG,cM,bT,tG,cr,fU,fl,iA,te,hn,h1,h2,Int.toNat_natCast,List.length_map,List.getElem?_map,nK,wF,hi,Option.map_some,Nat.zero_add,av.cells,o5,lM,u4,bQ,mB,nB,if_true,if_false,hw,fi,iY,fP,ji,hB,Bool.and_true,List.cons_append,List.nil_append,List.length_set,kt]
     refine dm t root parts bg nb Bs pg rfl rfl rfl rfl rfl ?_
     simp only[zX,Nat.reduceShiftRight,Nat.reduceMod,Nat.reduceLT,Nat.reduceMul,Nat.reduceSub,Int.reduceToNat,Int.reduceNeg,Int.reduceLT,Int.reduceLE,Int.reduceEq,Nat.reduceEqDiff,Nat.reduceAdd,Nat.reduceLeDiff,reduceIte,reduceCtorEq,Nat.reduceBEq,i64,bV,iD,bD,cQ,jo,bK,aG,cM,bT,tG,cr,fU,fl,iA,te,hn,h1,h2,Int.toNat_natCast,List.length_map,List.getElem?_map,nK,wF,hi,Option.map_some,Nat.zero_add,av.cells,o5,lM,u4,bQ,mB,nB,if_true,if_false,hw,fi,iY,fP,ji,hB,Bool.and_true,List.cons_append,List.nil_append,List.length_set,kt]
   ·obtain⟨l,zw,AE⟩:=CO kt
    obtain⟨y,hy⟩:∃y,l[p]?=some y:=⟨_,List.getElem?_eq_getElem (by omega)⟩
    have pg:=wy t root parts bg nb Bs b a re k' p ly zw hy
    have kU:i.pass t Bs p=y:=by unfold av.pass;rw[lM];simp only[u4,kt,if_false,List.getD_eq_getElem?_getD,zw,Option.getD_some,hy]
    cases y with
    |true =>
     obtain⟨j,rfl⟩:∃j,k=j+1:=⟨k-1,by have:=uH nK;omega⟩
     have hc:=fun K hk=>ke (IH j rfl) (n:=n+1) (st:=⟨st.kn.set n true,st.nw⟩) xc (by simpa using h1) h2 (by simp only;omega) (tl:=[⟨0,true,5,[[i64 5,i64 i.x,i64 i.y,i64 i.n,.cl (.func 61) [] [mB b a,nB re k']]]⟩]) (K:=K) hk
     have hr:bn t Bs C p Lt (j+1+1) n st=((bn t Bs C p Lt (j+1) (n+1) ⟨st.kn.set n true,st.nw⟩).1,⟨(bn t Bs C p Lt (j+1) (n+1) ⟨st.kn.set n true,st.nw⟩).2.kn,(bn t Bs C p Lt (j+1) (n+1) ⟨st.kn.set n true,st.nw⟩).2.nw.set n (bn t Bs C p Lt (j+1) (n+1) ⟨st.kn.set n true,st.nw⟩).1⟩):=by
      rw[bn,if_neg (by rw[List.getD_eq_getElem?_getD,nK];simp),jh]
      simp only[o5,kU,if_true]
      rfl
     rw[hr]
     have hlen:=kD t Bs C p Lt (j+1) (n+1) ⟨st.kn.set n true,st.nw⟩
     generalize bn t Bs C p Lt (j+1) (n+1) ⟨st.kn.set n true,st.nw⟩=R at *
     have pL:n<R.2.nw.length:=by rw[hlen.2.1];exact te
     obtain⟨wr,hwr⟩:∃wr,R.2.nw[n]?=some wr:=⟨_,List.getElem?_eq_getElem pL⟩
     unfold cQ jo at hc
     unfold cQ jo
     refine an Try.func83 rfl Try.ntmps83 Try.results83 rfl 11 134219647 (by simp) (by simp) ?_
     simp only[zX,Nat.reduceShiftRight,Nat.reduceMod,Nat.reduceLT,Nat.reduceMul,Nat.reduceSub,Int.reduceToNat,Int.reduceNeg,Int.reduceLT,Int.reduceLE,Int.reduceEq,Nat.reduceEqDiff,Nat.reduceAdd,Nat.reduceLeDiff,reduceIte,reduceCtorEq,Nat.reduceBEq,i64,bV,iD,bD,cQ,jo,bK,aG,cM,bT,tG,cr,fU,fl,iA,te,hn,h1,h2,Int.toNat_natCast,List.length_map,List.getElem?_map,nK,wF,hi,Option.map_some,Nat.zero_add,av.cells,o5,lM,u4,bQ,mB,nB,if_true,if_false,hw,fi,iY,fP,ji,hB,Bool.and_true,List.cons_append,List.nil_append,List.length_set,kt]
     refine dm t root parts bg nb Bs pg rfl rfl rfl rfl rfl ?_
     simp only[zX,Nat.reduceShiftRight,Nat.reduceMod,Nat.reduceLT,Nat.reduceMul,Nat.reduceSub,Int.reduceToNat,Int.reduceNeg,Int.reduceLT,Int.reduceLE,Int.reduceEq,Nat.reduceEqDiff,Nat.reduceAdd,Nat.reduceLeDiff,reduceIte,reduceCtorEq,Nat.reduceBEq,i64,bV,iD,bD,cQ,jo,bK,aG,cM,bT,tG,cr,fU,fl,iA,te,hn,h1,h2,Int.toNat_natCast,List.length_map,List.getElem?_map,nK,wF,hi,Option.map_some,Nat.zero_add,av.cells,o5,lM,u4,bQ,mB,nB,if_true,if_false,hw,fi,iY,fP,ji,hB,Bool.and_true,List.cons_append,List.nil_append,List.length_set,kt]
     refine hc _ ?_
     simp only[zX,Nat.reduceShiftRight,Nat.reduceMod,Nat.reduceLT,Nat.reduceMul,Nat.reduceSub,Int.reduceToNat,Int.reduceNeg,Int.reduceLT,Int.reduceLE,Int.reduceEq,Nat.reduceEqDiff,Nat.reduceAdd,Nat.reduceLeDiff,reduceIte,reduceCtorEq,Nat.reduceBEq,i64,bV,iD,bD,cQ,jo,bK,aG,cM,bT,tG,cr,fU,fl,iA,te,hn,h1,h2,Int.toNat_natCast,List.length_map,List.getElem?_map,nK,wF,hi,Option.map_some,Nat.zero_add,av.cells,o5,lM,u4,bQ,mB,nB,if_true,if_false,hw,fi,iY,fP,ji,hB,Bool.and_true,List.cons_append,List.nil_append,List.length_set,kt,pL,hwr,hlen.2.1]
    |false =>
     have hr:bn t Bs C p Lt (k+1) n st=(false,⟨st.kn.set n true,st.nw.set n false⟩):=by
      rw[bn,if_neg (by rw[List.getD_eq_getElem?_getD,nK];simp),jh]
      simp only[o5,kU]
      rfl
     rw[hr]
     unfold cQ jo
     refine an Try.func83 rfl Try.ntmps83 Try.results83 rfl 11 134219647 (by simp) (by simp) ?_
     simp only[zX,Nat.reduceShiftRight,Nat.reduceMod,Nat.reduceLT,Nat.reduceMul,Nat.reduceSub,Int.reduceToNat,Int.reduceNeg,Int.reduceLT,Int.reduceLE,Int.reduceEq,Nat.reduceEqDiff,Nat.reduceAdd,Nat.reduceLeDiff,reduceIte,reduceCtorEq,Nat.reduceBEq,i64,bV,iD,bD,cQ,jo,bK,aG,cM,bT,tG,cr,fU,fl,iA,te,hn,h1,h2,Int.toNat_natCast,List.length_map,List.getElem?_map,nK,wF,hi,Option.map_some,Nat.zero_add,av.cells,o5,lM,u4,bQ,mB,nB,if_true,if_false,hw,fi,iY,fP,ji,hB,Bool.and_true,List.cons_append,List.nil_append,List.length_set,kt]
     refine dm t root parts bg nb Bs pg rfl rfl rfl rfl rfl ?_
     simp only[zX,Nat.reduceShiftRight,Nat.reduceMod,Nat.reduceLT,Nat.reduceMul,Nat.reduceSub,Int.reduceToNat,Int.reduceNeg,Int.reduceLT,Int.reduceLE,Int.reduceEq,Nat.reduceEqDiff,Nat.reduceAdd,Nat.reduceLeDiff,reduceIte,reduceCtorEq,Nat.reduceBEq,i64,bV,iD,bD,cQ,jo,bK,aG,cM,bT,tG,cr,fU,fl,iA,te,hn,h1,h2,Int.toNat_natCast,List.length_map,List.getElem?_map,nK,wF,hi,Option.map_some,Nat.zero_add,av.cells,o5,lM,u4,bQ,mB,nB,if_true,if_false,hw,fi,iY,fP,ji,hB,Bool.and_true,List.cons_append,List.nil_append,List.length_set,kt]
  by_cases o2:i.op=2
  ·obtain⟨x0,x1,y0,y1⟩:=hg.split n hn (by rw[jh];exact o2)
   rw[jh]at x0 x1 y0 y1
   obtain⟨X,hX⟩:∃X:Nat,i.x=X:=⟨i.x.toNat,by omega⟩
   obtain⟨Y,hY⟩:∃Y:Nat,i.y=Y:=⟨i.y.toNat,by omega⟩
   have xc:X<C.length:=by omega
   have SH:Y<C.length:=by omega
   obtain⟨j,rfl⟩:∃j,k=j+1:=⟨k-1,by have:=uH nK;omega⟩
   have hc:=fun K hk=>ke (IH j rfl) (n:=X) (st:=⟨st.kn.set n true,st.nw⟩) xc (by simpa using h1) h2 (by simp only;omega) (tl:=[⟨0,true,5,[[i64 2,i64 X,i64 Y,i64 i.n,bQ b a i.node]]⟩]) (K:=K) hk
   have hlen:=kD t Bs C p Lt (j+1) X ⟨st.kn.set n true,st.nw⟩
   have hr:bn t Bs C p Lt (j+1+1) n st=(if (bn t Bs C p Lt (j+1) X ⟨st.kn.set n true,st.nw⟩).1=true then ((bn t Bs C p Lt (j+1) X ⟨st.kn.set n true,st.nw⟩).1,⟨(bn t Bs C p Lt (j+1) X ⟨st.kn.set n true,st.nw⟩).2.kn,(bn t Bs C p Lt (j+1) X ⟨st.kn.set n true,st.nw⟩).2.nw.set n (bn t Bs C p Lt (j+1) X ⟨st.kn.set n true,st.nw⟩).1⟩)
     else ((bn t Bs C p Lt (j+1) Y (bn t Bs C p Lt (j+1) X ⟨st.kn.set n true,st.nw⟩).2).1,⟨(bn t Bs C p Lt (j+1) Y (bn t Bs C p Lt (j+1) X ⟨st.kn.set n true,st.nw⟩).2).2.kn,(bn t Bs C p Lt (j+1) Y (bn t Bs C p Lt (j+1) X ⟨st.kn.set n true,st.nw⟩).2).2.nw.set n (bn t Bs C p Lt (j+1) Y (bn t Bs C p Lt (j+1) X ⟨st.kn.set n true,st.nw⟩).2).1⟩)):=by
    rw[bn,if_neg (by rw[List.getD_eq_getElem?_getD,nK];simp),jh]
    simp only[o2,hX,hY,Int.toNat_natCast]
    generalize bn t Bs C p Lt (j+1) X ⟨st.kn.set n true,st.nw⟩=A
    by_cases hh:A.1=true <;> simp [hh]
   rw[hr]
   clear hr
   generalize bn t Bs C p Lt (j+1) X ⟨st.kn.set n true,st.nw⟩=R at *
   have rQ:=fun K hk=>ke (IH j rfl) (n:=Y) (st:=R.2) SH (by rw[hlen.1];simpa using h1) (by rw[hlen.2.1];exact h2) (Nat.le_trans hlen.2.2 (by simp only;omega)) (tl:=[⟨0,true,5,[[i64 2,i64 X,i64 Y,i64 i.n,bQ b a i.node]]⟩]) (K:=K) hk
   have LD:=kD t Bs C p Lt (j+1) Y R.2
   generalize bn t Bs C p Lt (j+1) Y R.2=R2 at *
   have pL:n<R.2.nw.length:=by rw[hlen.2.1];exact te
   have Rl:n<R2.2.nw.length:=by rw[LD.2.1];exact pL
   obtain⟨wr,hwr⟩:∃wr,R.2.nw[n]?=some wr:=⟨_,List.getElem?_eq_getElem pL⟩
   obtain⟨ZB,VR⟩:∃wr,R2.2.nw[n]?=some wr:=⟨_,List.getElem?_eq_getElem Rl⟩
   obtain⟨r1,ZD⟩:=R
   simp only at hc rQ hlen LD pL hwr ⊢
   unfold cQ jo at hc rQ
   unfold cQ jo
   cases r1 with
   |true =>
    rw[if_pos rfl]
    refine an Try.func83 rfl Try.ntmps83 Try.results83 rfl 11 134219647 (by simp) (by simp) ?_
    simp only[zX,Nat.reduceShiftRight,Nat.reduceMod,Nat.reduceLT,Nat.reduceMul,Nat.reduceSub,Int.reduceToNat,Int.reduceNeg,Int.reduceLT,Int.reduceLE,Int.reduceEq,Nat.reduceEqDiff,Nat.reduceAdd,Nat.reduceLeDiff,reduceIte,reduceCtorEq,Nat.reduceBEq,i64,bV,iD,bD,cQ,jo,bK,aG,cM,bT,tG,cr,fU,fl,iA,te,hn,h1,h2,Int.toNat_natCast,List.length_map,List.getElem?_map,nK,wF,hi,Option.map_some,Nat.zero_add,av.cells,o2,hX,hY,fi,iY,fP,ji,hB,Bool.and_true,List.cons_append,List.nil_append,List.length_set]
    refine hc _ ?_
    simp only[zX,Nat.reduceShiftRight,Nat.reduceMod,Nat.reduceLT,Nat.reduceMul,Nat.reduceSub,Int.reduceToNat,Int.reduceNeg,Int.reduceLT,Int.reduceLE,Int.reduceEq,Nat.reduceEqDiff,Nat.reduceAdd,Nat.reduceLeDiff,reduceIte,reduceCtorEq,Nat.reduceBEq,i64,bV,iD,bD,cQ,jo,bK,aG,cM,bT,tG,cr,fU,fl,iA,te,hn,h1,h2,Int.toNat_natCast,List.length_map,List.getElem?_map,nK,wF,hi,Option.map_some,Nat.zero_add,av.cells,o2,hX,hY,fi,iY,fP,ji,hB,Bool.and_true,List.cons_append,List.nil_append,List.length_set,pL,hwr,hlen.2.1]
   |false =>
    rw[if_neg (by simp)]
    refine an Try.func83 rfl Try.ntmps83 Try.results83 rfl 11 134219647 (by simp) (by simp) ?_
    simp only[zX,Nat.reduceShiftRight,Nat.reduceMod,Nat.reduceLT,Nat.reduceMul,Nat.reduceSub,Int.reduceToNat,Int.reduceNeg,Int.reduceLT,Int.reduceLE,Int.reduceEq,Nat.reduceEqDiff,Nat.reduceAdd,Nat.reduceLeDiff,reduceIte,reduceCtorEq,Nat.reduceBEq,i64,bV,iD,bD,cQ,jo,bK,aG,cM,bT,tG,cr,fU,fl,iA,te,hn,h1,h2,Int.toNat_natCast,List.length_map,List.getElem?_map,nK,wF,hi,Option.map_some,Nat.zero_add,av.cells,o2,hX,hY,fi,iY,fP,ji,hB,Bool.and_true,List.cons_append,List.nil_append,List.length_set]
    refine hc _ ?_
    simp only[zX,Nat.reduceShiftRight,Nat.reduceMod,Nat.reduceLT,Nat.reduceMul,Nat.reduceSub,Int.reduceToNat,Int.reduceNeg,Int.reduceLT,Int.reduceLE,Int.reduceEq,Nat.reduceEqDiff,Nat.reduceAdd,Nat.reduceLeDiff,reduceIte,reduceCtorEq,Nat.reduceBEq,i64,bV,iD,bD,cQ,jo,bK,aG,cM,bT,tG,cr,fU,fl,iA,te,hn,h1,h2,Int.toNat_natCast,List.length_map,List.getElem?_map,nK,wF,hi,Option.map_some,Nat.zero_add,av.cells,o2,hX,hY,fi,iY,fP,ji,hB,Bool.and_true,List.cons_append,List.nil_append,List.length_set,pL,hwr,hlen.2.1]
    refine rQ _ ?_
    simp only[zX,Nat.reduceShiftRight,Nat.reduceMod,Nat.reduceLT,Nat.reduceMul,Nat.reduceSub,Int.reduceToNat,Int.reduceNeg,Int.reduceLT,Int.reduceLE,Int.reduceEq,Nat.reduceEqDiff,Nat.reduceAdd,Nat.reduceLeDiff,reduceIte,reduceCtorEq,Nat.reduceBEq,i64,bV,iD,bD,cQ,jo,bK,aG,cM,bT,tG,cr,fU,fl,iA,te,hn,h1,h2,Int.toNat_natCast,List.length_map,List.getElem?_map,nK,wF,hi,Option.map_some,Nat.zero_add,av.cells,o2,hX,hY,fi,iY,fP,ji,hB,Bool.and_true,List.cons_append,List.nil_append,List.length_set,Rl,VR,hlen.2.1,LD.2.1]
  have Om:=hg.ops n hn
  rw[jh]at Om
  omega
theorem AT (hg:lg t Bs C) (ly:nb=Bs.length) (ht:t.length<=1000000) (hp:p<=t.length) (Mr:Lt.length=C.length):∀k,Tr t root parts bg nb Bs g b a C p Lt k
 |0=>AZ t root parts bg nb Bs g b a C p Lt hg ly ht hp Mr 0 (fun j h=>by omega)
 |k+1=>AZ t root parts bg nb Bs g b a C p Lt hg ly ht hp Mr (k+1) (fun j h=>by
  have:j=k:=by omega
  subst this
  exact AT hg ly ht hp Mr j)
end
structure tU where
 ad:List Nat
 ho:List Bool
 rd:List Nat
 gn:Nat
def gl (p:Nat) (l:List Nat):Nat:=l.countP fun x=>x != p+1
def fE (t:List Int) (Bs:List (List Bool)) (C:List av) (p:Nat):Nat->Nat->tU->tU
 |0,_,st=>st
 |k+1,n,st =>
  if st.ad[n]?=none\/st.ad[n]?=some (p+1) then st else
  let jn:tU:=⟨st.ad.set n (p+1),st.ho,st.rd,st.gn⟩
  let i:=db C n
  if i.op=0 then ⟨jn.ad,jn.ho.set p true,jn.rd,jn.gn⟩
  else if i.op=1 then (if i.pass t Bs p=true then ⟨jn.ad,jn.ho,jn.rd++[n],jn.gn+1⟩ else jn)
  else if i.op=2 then fE t Bs C p k i.y.toNat (fE t Bs C p k i.x.toNat jn)
  else if i.op=3 then fE t Bs C p k i.x.toNat jn
  else if i.op=4 then fE t Bs C p k (n+1) jn
  else if i.op=5 then (if i.pass t Bs p=true then fE t Bs C p k (n+1) jn else jn)
  else jn
theorem uo {p n:Nat}{l:List Nat}{x:Nat} (h:l[n]?=some x) (hx:x≠p+1):gl p (l.set n (p+1))+1=gl p l:=by
 unfold gl
 have hn:=(List.getElem?_eq_some_iff.1 h).1
 have he:l[n]=x:=(List.getElem?_eq_some_iff.1 h).2
 have hp:0<l.countP fun x=>x != p+1:=List.countP_pos_iff.2 ⟨x,List.mem_of_getElem? h,by simp [hx]⟩
 rw[List.countP_set hn,he]
 simp [hx]
 omega
theorem DM {p n:Nat}{l:List Nat}{x:Nat} (h:l[n]?=some x) (hx:x≠p+1):0<gl p l:=List.countP_pos_iff.2 ⟨x,List.mem_of_getElem? h,by simp [hx]⟩
section
variable (t:List Int) (Bs:List (List Bool)) (C:List av) (p:Nat)
def oO (st st':tU):Prop:=st'.ad.length=st.ad.length/\st'.ho.length=st.ho.length/\gl p st'.ad<=gl p st.ad/\st'.rd.length+gl p st'.ad<=st.rd.length+gl p st.ad/\∀e∈st'.rd,e∈st.rd\/(db C e).op=1
variable {C p}
theorem oO.refl (st:tU):oO C p st st:=⟨rfl,rfl,Nat.le_refl _,Nat.le_refl _,fun _ h=>.inl h⟩
theorem oO.trans {a b c:tU} (h:oO C p a b) (k:oO C p b c):oO C p a c :=
 ⟨k.1.trans h.1,k.2.1.trans h.2.1,Nat.le_trans k.2.2.1 h.2.2.1,Nat.le_trans k.2.2.2.1 h.2.2.2.1,fun e he=>(k.2.2.2.2 e he).elim (fun h'=>h.2.2.2.2 e h') .inr⟩
variable (C p)
theorem xx:∀(k n:Nat) (st:tU),oO C p st (fE t Bs C p k n st)
 |0,_,st=>.refl st
 |k+1,n,st=>by
  have ih:=xx k
  rw[fE]
  split
  ·exact .refl st
  ·rename_i hk
   obtain⟨x,hx⟩:∃x,st.ad[n]?=some x:=by
    cases h:st.ad[n]? with
    |none=>exact absurd (.inl h) hk
    |some x=>exact⟨x,rfl⟩
   have Li:x≠p+1:=fun h=>hk (.inr (by rw[hx,h]))
   have hu:=uo hx Li
   have key:oO C p st ⟨st.ad.set n (p+1),st.ho,st.rd,st.gn⟩:=⟨by simp,rfl,by simp only;omega,by simp only;omega,fun _ h=>.inl h⟩
   simp only
   split
   ·exact key.trans ⟨rfl,by simp,Nat.le_refl _,Nat.le_refl _,fun _ h=>.inl h⟩
   split
   ·split
    ·rename_i h1 _
     refine⟨by simp,rfl,by simp only;omega,by simp only[List.length_append,List.length_singleton];omega,fun e he=>?_⟩
     rcases List.mem_append.1 he with h|h
     ·exact .inl h
     ·rw[List.mem_singleton.1 h];exact .inr h1
    ·exact key
   split
   ·exact(key.trans (ih _ _)).trans (ih _ _)
   split
   ·exact key.trans (ih _ _)
   split
   ·exact key.trans (ih _ _)
   split
   ·split
    ·exact key.trans (ih _ _)
    ·exact key
   ·exact key
end
def bd (q:Nat) (l:List Nat):VL.Obj:=⟨q,true,1,l.map fun (x:Nat)=>[i64 (x:Int)]⟩
def cK (k q n:Nat):VL.Obj:=⟨0,true,1,[[.so k q 0 n]]⟩
def wU (g N:Nat):V:=.cl (.func 85) [] [.rf 4 0 0 0,.bx (.so 2 g 0 N),.rf 6 0 0 0,.rf 8 0 0 0,.rf 9 0 0 0]
def ep (t:List Int) (root parts:D) (bg nb:Nat) (Bs:List (List Bool)) (g b a:Nat) (C:List av) (st:tU):List VL.Obj :=
 [cV t root parts bg nb,ez bg Bs,cr g b a C,bd 0 st.ad,cM 0 3 C.length,bT 0 st.ho,cM 0 5 (t.length+1),bd st.gn st.rd,cK 7 st.gn st.rd.length,⟨0,true,1,[[wU g C.length]]⟩]
def dH (g N n p:Nat):List V:=[i64 n,i64 p,.rf 4 0 0 0,.bx (.so 2 g 0 N),.rf 6 0 0 0,.rf 8 0 0 0,.rf 9 0 0 0]
theorem lO (ρ:List Nat) (q:Nat) (l:List Nat):aP ρ (bd q l)=bd q l:=by
 unfold aP bd
 simp only[List.map_map]
 congr 1
theorem ll (n q:Nat) (l:List Nat):aQ n (bd q l)=true:=by
 unfold aQ bd
 rw[List.all_eq_true]
 intro e he
 obtain⟨i,_,rfl⟩:=List.mem_map.1 he
 rfl
theorem nH (t:List Int) (root parts:D) (bg nb:Nat) (Bs:List (List Bool)) (b a:Nat) (C:List av) (hg:lg t Bs C) (ly:nb=Bs.length) (ht:t.length<=1000000) {n:Nat} (hn:n<C.length) (ho:(db C n).op=1\/(db C n).op=5) (p:Nat) (hp:p<=t.length) :
  ∃Ns ai,bQ b a (db C n).node=.cl (.func Ns) [] ai/\ah.go 2 ai=true/\ai.map (aJ [0,1])=ai /\
   aq Try.prog Ns (i64 (p:Int)::ai) [cV t root parts bg nb,ez bg Bs] fun v s=>v=bV ((db C n).pass t Bs p)/\s=[cV t root parts bg nb,ez bg Bs]:=by
 rcases ho with o|o
 ·obtain⟨re,k,h1,h2,h3⟩:=hg.set n hn o
  have pg:=ym t root parts bg nb Bs b a re k p (by omega) h3 ht
  rw[h1]
  refine⟨57,[mB b a,nB re k],by unfold bQ;simp only[h2,if_true],?_,?_,?_⟩
  ·simp [ah,ah.go,mB,nB]
  ·simp [aJ,aJ.go,mB,nB]
  ·have:(db C n).pass t Bs p=(decide ((p:Int)<t.length)&&Ba re.set (kW t p)):=by unfold av.pass;rw[h1];simp only[h2,if_true]
   rw[this];exact pg
 ·obtain⟨re,k,h1,h2,h3,h4⟩:=hg.ask n hn o
  rw[h1]
  by_cases kt:re.op=11
  ·have pg:=sr t root parts bg nb Bs b a re k p (by omega) (by omega) (h3 kt).1 (h3 kt).2 ht
   refine⟨59,[nB re k,mB b a],by unfold bQ;simp only[kt];rfl,?_,?_,?_⟩
   ·simp [ah,ah.go,mB,nB]
   ·simp [aJ,aJ.go,mB,nB]
   ·have:(db C n).pass t Bs p=bP re.n t p:=by unfold av.pass;rw[h1];simp only[kt];rfl
    rw[this];exact pg
  ·obtain⟨l,zw,AE⟩:=h4 kt
   obtain⟨y,hy⟩:∃y,l[p]?=some y:=⟨_,List.getElem?_eq_getElem (by omega)⟩
   have pg:=wy t root parts bg nb Bs b a re k p ly zw hy
   refine⟨61,[mB b a,nB re k],by unfold bQ;simp only[h2,kt,if_false],?_,?_,?_⟩
   ·simp [ah,ah.go,mB,nB]
   ·simp [aJ,aJ.go,mB,nB]
   ·have:(db C n).pass t Bs p=y:=by unfold av.pass;rw[h1];simp only[h2,kt,if_false,List.getD_eq_getElem?_getD,zw,Option.getD_some,hy]
    rw[this];exact pg
section
variable (t:List Int) (root parts:D) (bg nb:Nat) (Bs:List (List Bool)) (g b a:Nat) (C:List av) (p:Nat)
theorem Fz (st:tU):(ep t root parts bg nb Bs g b a C st).map (aP [0,1,2,3,4,5,6,7,8,9])=ep t root parts bg nb Bs g b a C st:=by
 simp only[ep,List.map_cons,List.map_nil,iI,uI,er,lO]
 simp [aP,cV,cM,cK,wU,aJ,aJ.go,i64]
theorem HB (st:tU):(ep t root parts bg nb Bs g b a C st).all (aQ 10)=true:=by
 have:=fe 10 bg Bs
 simp only[ep,List.all_cons,List.all_nil,iP 10 _ _ _ (by omega),xN,ll,Bool.and_true]
 simp [aQ,cV,cM,cK,wU,ah,ah.go,i64,this]
def Fp (k:Nat):Prop:=∀(n:Nat) (st:tU),n<C.length->st.ad.length=C.length->st.ho.length=t.length+1->gl p st.ad<=k->st.rd.length+gl p st.ad<=C.length ->
 aq Try.prog 85 (dH g C.length n p) (ep t root parts bg nb Bs g b a C st) fun v s=>v=.tu []/\s=ep t root parts bg nb Bs g b a C (fE t Bs C p (k+1) n st)
variable {t root parts bg nb Bs g b a C p}
theorem AB {k n:Nat}{st:tU} (h:Fp t root parts bg nb Bs g b a C p k) (hn:n<C.length) (h1:st.ad.length=C.length) (h2:st.ho.length=t.length+1) (hu:gl p st.ad<=k) (hr:st.rd.length+gl p st.ad<=C.length) {tl:List VL.Obj}{K:V->List VL.Obj->Prop}
  (hk:K (.tu []) (ep t root parts bg nb Bs g b a C (fE t Bs C p (k+1) n st)++tl)) :
  aq Try.prog 85 (dH g C.length n p) (ep t root parts bg nb Bs g b a C st++tl) K:=by
 have zv:=Fz t root parts bg nb Bs g b a C st
 refine dk [0,1,2,3,4,5,6,7,8,9] (h n st hn h1 h2 hu hr) (by decide) rfl ?_ (by rfl) (by rfl) (HB t root parts bg nb Bs g b a C st) (r':=.tu []) rfl ?_
 ·have h2:(ep t root parts bg nb Bs g b a C st).map (fun o=>some (aP [0,1,2,3,4,5,6,7,8,9] o))=((ep t root parts bg nb Bs g b a C st).map (aP [0,1,2,3,4,5,6,7,8,9])).map some:=by rw[List.map_map];rfl
  rw[h2,zv]
  rfl
 ·rw[Fz]
  exact hk
end
end Go.Proofs.Ytfmdmlfhigocaaa
