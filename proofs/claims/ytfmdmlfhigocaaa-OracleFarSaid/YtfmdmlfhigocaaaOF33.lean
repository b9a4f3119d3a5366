/- A part of the proof (O10 O1 O2 O8). -/
import Derived.RangeFuncKeeps
import Derived.RangeFuncLeaves
import Derived.Shelf.Abstract
import Derived.WalkKit
import Derived.OwnWalkIn
import Derived.TacticsInMore
import Derived.LoopNIn
import Derived.LoopIn
import Derived.Test.YtfmdmlfhigocaaaProg
import Derived.Test.YtfmdmlfhigocaaaOF13
import Derived.Test.YtfmdmlfhigocaaaOF29
import Derived.Test.YtfmdmlfhigocaaaOF32
set_option linter.unusedSimpArgs false
set_option linter.unusedVariables false
set_option maxRecDepth 100000
set_option maxHeartbeats 80000000
namespace Go.Proofs.Ytfmdmlfhigocaaa
open Go.VL
theorem gI (l:List Nat) (n:Nat) (x:Nat):(l.map fun (x:Nat)=>[V.d (D.sc (Value.int IntKind.i64 (x:Int)))]).set n [V.d (D.sc (Value.int IntKind.i64 (x:Int)))]=(l.set n x).map fun (x:Nat)=>[V.d (D.sc (Value.int IntKind.i64 (x:Int)))]:=by rw[List.map_set]
section
variable (t:List Int) (root parts:D) (bg nb:Nat) (Bs:List (List Bool)) (g b a:Nat) (C:List av) (p:Nat)
theorem C8 (hg:lg t Bs C) (ly:nb=Bs.length) (ht:t.length<=1000000) (hp:p<=t.length) (k:Nat) (IH:∀j,j+1=k->Fp t root parts bg nb Bs g b a C p j):Fp t root parts bg nb Bs g b a C p k:=by
 intro n st hn h1 h2 hu Wi
 have Rc:=hg.len
 have fU:(n:Int)<(C.length:Int):=by omega
 have fl:(0:Int)<=(n:Int):=by omega
 have iA:n<st.ad.length:=by omega
 have pn:IntKind.i64.wrap ((p:Int)+1)=((p+1:Nat):Int):=by rw[br _ (by omega)];rfl
 have fP:=fe 10 bg Bs
 have iY:((cV t root parts bg nb).au.all fun e=>e.all (ah 10))=true:=rfl
 have ji:((C.map (av.cells b a)).all fun e=>e.all (ah 10))=true:=iP 10 g b a (by omega) C
 have hB:∀l:List Bool,((l.map fun b=>[V.d (D.sc (Value.bool b))]).all fun e=>e.all (ah 10))=true:=fun l=>xN 10 0 l
 have pf:∀l:List Nat,((l.map fun (x:Nat)=>[V.d (D.sc (Value.int IntKind.i64 (x:Int)))]).all fun e=>e.all (ah 10))=true:=fun l=>ll 10 0 l
 obtain⟨x,hx⟩:∃x,st.ad[n]?=some x:=⟨_,List.getElem?_eq_getElem iA⟩
 obtain⟨i,hi⟩:∃i,C[n]?=some i:=⟨_,List.getElem?_eq_getElem hn⟩
 have jh:db C n=i:=by unfold db;rw[List.getD_eq_getElem?_getD,hi];rfl
 by_cases M6:x=p+1
 ·subst M6
  have hr:fE t Bs C p (k+1) n st=st:=by rw[fE,if_pos (.inr hx)]
  rw[hr]
  unfold dH ep
  refine an Try.func85 rfl Try.ntmps85 Try.results85 rfl 10 134218367 (by simp) (by simp) ?_
  simp only[zX,Nat.reduceShiftRight,Nat.reduceMod,Nat.reduceLT,Nat.reduceMul,Nat.reduceSub,Int.reduceToNat,Int.reduceNeg,Int.reduceLT,Int.reduceLE,Int.reduceEq,Nat.reduceEqDiff,Nat.reduceAdd,Nat.reduceLeDiff,reduceIte,reduceCtorEq,Nat.reduceBEq,i64,bV,iD,bD,dH,ep,bK,aG,cM,cK,bT,bd,wU,cr,fU,fl,iA,hn,h1,h2,Int.toNat_natCast,List.length_map,List.getElem?_map,hx,hi,Option.map_some,Nat.zero_add,av.cells,gI,fi,iY,fP,ji,hB,pf,Bool.and_true,List.cons_append,List.nil_append,List.length_set,pn]
 have rO:((x:Int)=((p+1:Nat):Int))=False:=eq_false (by omega)
 have WR:=uo hx M6
 have Vm:=DM hx M6
 have DL:fE t Bs C p (k+1) n st=(let jn:tU:=⟨st.ad.set n (p+1),st.ho,st.rd,st.gn⟩
  if i.op=0 then ⟨jn.ad,jn.ho.set p true,jn.rd,jn.gn⟩
  else if i.op=1 then (if i.pass t Bs p=true then ⟨jn.ad,jn.ho,jn.rd++[n],jn.gn+1⟩ else jn)
  else if i.op=2 then fE t Bs C p k i.y.toNat (fE t Bs C p k i.x.toNat jn)
  else if i.op=3 then fE t Bs C p k i.x.toNat jn
  else if i.op=4 then fE t Bs C p k (n+1) jn
  else if i.op=5 then (if i.pass t Bs p=true then fE t Bs C p k (n+1) jn else jn)
  else jn):=by rw[fE,if_neg (by rw[hx];rintro (h|h) <;> simp at h;exact M6 h),jh]
 simp only at DL
 rw[DL]
 by_cases o0:i.op=0
 ·have Xi:p<st.ho.length:=by omega
  have X0:(p:Int)<((t.length+1:Nat):Int):=by omega
  have XB:(0:Int)<=(p:Int):=by omega
  simp only[o0,reduceIte]
  unfold dH ep
  refine an Try.func85 rfl Try.ntmps85 Try.results85 rfl 10 134218367 (by simp) (by simp) ?_
  obtain⟨z,hz⟩:∃z,st.ho[p]?=some z:=⟨_,List.getElem?_eq_getElem Xi⟩
  simp only[zX,Nat.reduceShiftRight,Nat.reduceMod,Nat.reduceLT,Nat.reduceMul,Nat.reduceSub,Int.reduceToNat,Int.reduceNeg,Int.reduceLT,Int.reduceLE,Int.reduceEq,Nat.reduceEqDiff,Nat.reduceAdd,Nat.reduceLeDiff,reduceIte,reduceCtorEq,Nat.reduceBEq,i64,bV,iD,bD,dH,ep,bK,aG,cM,cK,bT,bd,wU,cr,fU,fl,iA,hn,h1,h2,Int.toNat_natCast,List.length_map,List.getElem?_map,hx,hi,Option.map_some,Nat.zero_add,av.cells,gI,fi,iY,fP,ji,hB,pf,Bool.and_true,List.cons_append,List.nil_append,List.length_set,pn,rO,o0,Xi,X0,XB,h1,h2,hz]
 obtain⟨j,rfl⟩:∃j,k=j+1:=⟨k-1,by omega⟩
 have MA:=fun (m:Nat) (hm:m<C.length) (tl:List VL.Obj) (K:V->List VL.Obj->Prop) hk=>AB (IH j rfl) (n:=m) (st:=⟨st.ad.set n (p+1),st.ho,st.rd,st.gn⟩) hm (by simpa using h1) h2 (by simp only;omega) (by simp only;omega) (tl:=tl) (K:=K) hk
 have hlen:=fun m=>xx t Bs C p (j+1) m ⟨st.ad.set n (p+1),st.ho,st.rd,st.gn⟩
 by_cases o3:i.op=3
 ·obtain⟨x0,x1⟩:=hg.jump n hn (by rw[jh];exact o3)
  rw[jh]at x0 x1
  obtain⟨X,hX⟩:∃X:Nat,i.x=X:=⟨i.x.toNat,by omega⟩
  have xc:X<C.length:=by omega
  have hc:=MA X xc [⟨0,true,5,[[i64 3,i64 X,i64 i.y,i64 i.n,bQ b a i.node]]⟩]
  simp only[o3,hX,Int.reduceEq,reduceIte,Int.toNat_natCast]
  generalize fE t Bs C p (j+1) X ⟨st.ad.set n (p+1),st.ho,st.rd,st.gn⟩=R at *
  unfold dH ep at hc
  unfold dH ep
  refine an Try.func85 rfl Try.ntmps85 Try.results85 rfl 10 134218367 (by simp) (by simp) ?_
  simp only[zX,Nat.reduceShiftRight,Nat.reduceMod,Nat.reduceLT,Nat.reduceMul,Nat.reduceSub,Int.reduceToNat,Int.reduceNeg,Int.reduceLT,Int.reduceLE,Int.reduceEq,Nat.reduceEqDiff,Nat.reduceAdd,Nat.reduceLeDiff,reduceIte,reduceCtorEq,Nat.reduceBEq,i64,bV,iD,bD,dH,ep,bK,aG,cM,cK,bT,bd,wU,cr,fU,fl,iA,hn,h1,h2,Int.toNat_natCast,List.length_map,List.getElem?_map,hx,hi,Option.map_some,Nat.zero_add,av.cells,gI,fi,iY,fP,ji,hB,pf,Bool.and_true,List.cons_append,List.nil_append,List.length_set,pn,rO,o3,hX]
  refine hc _ ?_
  simp only[zX,Nat.reduceShiftRight,Nat.reduceMod,Nat.reduceLT,Nat.reduceMul,Nat.reduceSub,Int.reduceToNat,Int.reduceNeg,Int.reduceLT,Int.reduceLE,Int.reduceEq,Nat.reduceEqDiff,Nat.reduceAdd,Nat.reduceLeDiff,reduceIte,reduceCtorEq,Nat.reduceBEq,i64,bV,iD,bD,dH,ep,bK,aG,cM,cK,bT,bd,wU,cr,fU,fl,iA,hn,h1,h2,Int.toNat_natCast,List.length_map,List.getElem?_map,hx,hi,Option.map_some,Nat.zero_add,av.cells,gI,fi,iY,fP,ji,hB,pf,Bool.and_true,List.cons_append,List.nil_append,List.length_set,pn,rO,o3,hX]
 by_cases o4:i.op=4
 ·have xc:=hg.next n hn (by rw[jh];exact .inr (.inl o4))
  have hw:IntKind.i64.wrap ((n:Int)+1)=((n+1:Nat):Int):=by rw[br _ (by omega)];rfl
  have hc:=MA (n+1) xc [⟨0,true,5,[[i64 4,i64 i.x,i64 i.y,i64 i.n,bQ b a i.node]]⟩]
  simp only[o4,Int.reduceEq,reduceIte]
  generalize fE t Bs C p (j+1) (n+1) ⟨st.ad.set n (p+1),st.ho,st.rd,st.gn⟩=R at *
  unfold dH ep at hc
  unfold dH ep
  refine an Try.func85 rfl Try.ntmps85 Try.results85 rfl 10 134218367 (by simp) (by simp) ?_
  simp only[zX,Nat.reduceShiftRight,Nat.reduceMod,Nat.reduceLT,Nat.reduceMul,Nat.reduceSub,Int.reduceToNat,Int.reduceNeg,Int.reduceLT,Int.reduceLE,Int.reduceEq,Nat.reduceEqDiff,Nat.reduceAdd,Nat.reduceLeDiff,reduceIte,reduceCtorEq,Nat.reduceBEq,i64,bV,iD,bD,dH,ep,bK,aG,cM,cK,bT,bd,wU,cr,fU,fl,iA,hn,h1,h2,Int.toNat_natCast,List.length_map,List.getElem?_map,hx,hi,Option.map_some,Nat.zero_add,av.cells,gI,fi,iY,fP,ji,hB,pf,Bool.and_true,List.cons_append,List.nil_append,List.length_set,pn,rO,o4,hw]
  refine hc _ ?_
  simp only[zX,Nat.reduceShiftRight,Nat.reduceMod,Nat.reduceLT,Nat.reduceMul,Nat.reduceSub,Int.reduceToNat,Int.reduceNeg,Int.reduceLT,Int.reduceLE,Int.reduceEq,Nat.reduceEqDiff,Nat.reduceAdd,Nat.reduceLeDiff,reduceIte,reduceCtorEq,Nat.reduceBEq,i64,bV,iD,bD,dH,ep,bK,aG,cM,cK,bT,bd,wU,cr,fU,fl,iA,hn,h1,h2,Int.toNat_natCast,List.length_map,List.getElem?_map,hx,hi,Option.map_some,Nat.zero_add,av.cells,gI,fi,iY,fP,ji,hB,pf,Bool.and_true,List.cons_append,List.nil_append,List.length_set,pn,rO,o4,hw]
 by_cases o1:i.op=1
 ·obtain⟨Ns,ai,kU,zu,rQ,pg⟩:=nH t root parts bg nb Bs b a C hg ly ht hn (.inl (by rw[jh];exact o1)) p hp
  rw[jh]at kU pg
  simp only[o1,Int.reduceEq,reduceIte]
  generalize i.pass t Bs p=y at *
  cases y with
  |true =>
   simp only[reduceIte]
   unfold dH ep
   refine an Try.func85 rfl Try.ntmps85 Try.results85 rfl 10 134218367 (by simp) (by simp) ?_
   simp only[zX,Nat.reduceShiftRight,Nat.reduceMod,Nat.reduceLT,Nat.reduceMul,Nat.reduceSub,Int.reduceToNat,Int.reduceNeg,Int.reduceLT,Int.reduceLE,Int.reduceEq,Nat.reduceEqDiff,Nat.reduceAdd,Nat.reduceLeDiff,reduceIte,reduceCtorEq,Nat.reduceBEq,i64,bV,iD,bD,dH,ep,bK,aG,cM,cK,bT,bd,wU,cr,fU,fl,iA,hn,h1,h2,Int.toNat_natCast,List.length_map,List.getElem?_map,hx,hi,Option.map_some,Nat.zero_add,av.cells,gI,fi,iY,fP,ji,hB,pf,Bool.and_true,List.cons_append,List.nil_append,List.length_set,pn,rO,o1,kU]
   refine dm t root parts bg nb Bs pg ?_ ?_ rfl rfl rfl ?_
   ·simp [aJ,i64,rQ]
   ·simp [ah,ah.go,i64,zu]
   simp only[zX,Nat.reduceShiftRight,Nat.reduceMod,Nat.reduceLT,Nat.reduceMul,Nat.reduceSub,Int.reduceToNat,Int.reduceNeg,Int.reduceLT,Int.reduceLE,Int.reduceEq,Nat.reduceEqDiff,Nat.reduceAdd,Nat.reduceLeDiff,reduceIte,reduceCtorEq,Nat.reduceBEq,i64,bV,iD,bD,dH,ep,bK,aG,cM,cK,bT,bd,wU,cr,fU,fl,iA,hn,h1,h2,Int.toNat_natCast,List.length_map,List.getElem?_map,hx,hi,Option.map_some,Nat.zero_add,av.cells,gI,fi,iY,fP,ji,hB,pf,Bool.and_true,List.cons_append,List.nil_append,List.length_set,pn,rO,o1,kU]
   have hT:List.take st.rd.length (st.rd.map fun (x:Nat)=>[V.d (D.sc (Value.int IntKind.i64 (x:Int)))])++[[V.d (D.sc (Value.int IntKind.i64 (n:Int)))]]=(st.rd++[n]).map fun (x:Nat)=>[V.d (D.sc (Value.int IntKind.i64 (x:Int)))]:=by
    rw[List.take_of_length_le (by rw[List.length_map];exact Nat.le_refl _)];simp
   rw[hT]
   have Tx:gl p st.ad<=st.ad.length:=List.countP_le_length
   refine⟨fun e he=>by rw[List.mem_singleton.1 he];rfl,⟨Nat.le_refl _,by omega⟩,pf _,?_⟩
   rw[List.length_append];rfl
  |false =>
   simp only[Bool.false_eq_true,reduceIte]
   unfold dH ep
   refine an Try.func85 rfl Try.ntmps85 Try.results85 rfl 10 134218367 (by simp) (by simp) ?_
   simp only[zX,Nat.reduceShiftRight,Nat.reduceMod,Nat.reduceLT,Nat.reduceMul,Nat.reduceSub,Int.reduceToNat,Int.reduceNeg,Int.reduceLT,Int.reduceLE,Int.reduceEq,Nat.reduceEqDiff,Nat.reduceAdd,Nat.reduceLeDiff,reduceIte,reduceCtorEq,Nat.reduceBEq,i64,bV,iD,bD,dH,ep,bK,aG,cM,cK,bT,bd,wU,cr,fU,fl,iA,hn,h1,h2,Int.toNat_natCast,List.length_map,List.getElem?_map,hx,hi,Option.map_some,Nat.zero_add,av.cells,gI,fi,iY,fP,ji,hB,pf,Bool.and_true,List.cons_append,List.nil_append,List.length_set,pn,rO,o1,kU]
   refine dm t root parts bg nb Bs pg ?_ ?_ rfl rfl rfl ?_
   ·simp [aJ,i64,rQ]
   ·simp [ah,ah.go,i64,zu]
   simp only[zX,Nat.reduceShiftRight,Nat.reduceMod,Nat.reduceLT,Nat.reduceMul,Nat.reduceSub,Int.reduceToNat,Int.reduceNeg,Int.reduceLT,Int.reduceLE,Int.reduceEq,Nat.reduceEqDiff,Nat.reduceAdd,Nat.reduceLeDiff,reduceIte,reduceCtorEq,Nat.reduceBEq,i64,bV,iD,bD,dH,ep,bK,aG,cM,cK,bT,bd,wU,cr,fU,fl,iA,hn,h1,h2,Int.toNat_natCast,List.length_map,List.getElem?_map,hx,hi,Option.map_some,Nat.zero_add,av.cells,gI,fi,iY,fP,ji,hB,pf,Bool.and_true,List.cons_append,List.nil_append,List.length_set,pn,rO,o1,kU]
 by_cases o5:i.op=5
 ·obtain⟨Ns,ai,kU,zu,rQ,pg⟩:=nH t root parts bg nb Bs b a C hg ly ht hn (.inr (by rw[jh];exact o5)) p hp
  have xc:=hg.next n hn (by rw[jh];exact .inr (.inr o5))
  have hw:IntKind.i64.wrap ((n:Int)+1)=((n+1:Nat):Int):=by rw[br _ (by omega)];rfl
  rw[jh]at kU pg
  have hc:=MA (n+1) xc [⟨0,true,5,[[i64 5,i64 i.x,i64 i.y,i64 i.n,.cl (.func Ns) [] ai]]⟩]
  simp only[o5,Int.reduceEq,reduceIte]
  generalize i.pass t Bs p=y at *
  cases y with
  |true =>
   simp only[reduceIte]
   generalize fE t Bs C p (j+1) (n+1) ⟨st.ad.set n (p+1),st.ho,st.rd,st.gn⟩=R at *
   unfold dH ep at hc
   unfold dH ep
   refine an Try.func85 rfl Try.ntmps85 Try.results85 rfl 10 134218367 (by simp) (by simp) ?_
   simp only[zX,Nat.reduceShiftRight,Nat.reduceMod,Nat.reduceLT,Nat.reduceMul,Nat.reduceSub,Int.reduceToNat,Int.reduceNeg,Int.reduceLT,Int.reduceLE,Int.reduceEq,Nat.reduceEqDiff,Nat.reduceAdd,Nat.reduceLeDiff,reduceIte,reduceCtorEq,Nat.reduceBEq,i64,bV,iD,bD,dH,ep,bK,aG,cM,cK,bT,bd,wU,cr,fU,fl,iA,hn,h1,h2,Int.toNat_natCast,List.length_map,List.getElem?_map,hx,hi,Option.map_some,Nat.zero_add,av.cells,gI,fi,iY,fP,ji,hB,pf,Bool.and_true,List.cons_append,List.nil_append,List.length_set,pn,rO,o5,kU,hw]
   refine dm t root parts bg nb Bs pg ?_ ?_ rfl rfl rfl ?_
   ·simp [aJ,i64,rQ]
   ·simp [ah,ah.go,i64,zu]
   simp only[zX,Nat.reduceShiftRight,Nat.reduceMod,Nat.reduceLT,Nat.reduceMul,Nat.reduceSub,Int.reduceToNat,Int.reduceNeg,Int.reduceLT,Int.reduceLE,Int.reduceEq,Nat.reduceEqDiff,Nat.reduceAdd,Nat.reduceLeDiff,reduceIte,reduceCtorEq,Nat.reduceBEq,i64,bV,iD,bD,dH,ep,bK,aG,cM,cK,bT,bd,wU,cr,fU,fl,iA,hn,h1,h2,Int.toNat_natCast,List.length_map,List.getElem?_map,hx,hi,Option.map_some,Nat.zero_add,av.cells,gI,fi,iY,fP,ji,hB,pf,Bool.and_true,List.cons_append,List.nil_append,List.length_set,pn,rO,o5,kU,hw]
   refine hc _ ?_
   simp only[zX,Nat.reduceShiftRight,Nat.reduceMod,Nat.reduceLT,Nat.reduceMul,Nat.reduceSub,Int.reduceToNat,Int.reduceNeg,Int.reduceLT,Int.reduceLE,Int.reduceEq,Nat.reduceEqDiff,Nat.reduceAdd,Nat.reduceLeDiff,reduceIte,reduceCtorEq,Nat.reduceBEq,i64,bV,iD,bD,dH,ep,bK,aG,cM,cK,bT,bd,wU,cr,fU,fl,iA,hn,h1,h2,Int.toNat_natCast,List.length_map,List.getElem?_map,hx,hi,Option.map_some,Nat.zero_add,av.cells,gI,fi,iY,fP,ji,hB,pf,Bool.and_true,List.cons_append,List.nil_append,List.length_set,pn,rO,o5,kU,hw]
  |false =>
   simp only[Bool.false_eq_true,reduceIte]
   unfold dH ep
   refine an Try.func85 rfl Try.ntmps85 Try.results85 rfl 10 134218367 (by simp) (by simp) ?_
   simp only[zX,Nat.reduceShiftRight,Nat.reduceMod,Nat.reduceLT,Nat.reduceMul,Nat.reduceSub,Int.reduceToNat,Int.reduceNeg,Int.reduceLT,Int.reduceLE,Int.reduceEq,Nat.reduceEqDiff,Nat.reduceAdd,Nat.reduceLeDiff,reduceIte,reduceCtorEq,Nat.reduceBEq,i64,bV,iD,bD,dH,ep,bK,aG,cM,cK,bT,bd,wU,cr,fU,fl,iA,hn,h1,h2,Int.toNat_natCast,List.length_map,List.getElem?_map,hx,hi,Option.map_some,Nat.zero_add,av.cells,gI,fi,iY,fP,ji,hB,pf,Bool.and_true,List.cons_append,List.nil_append,List.length_set,pn,rO,o5,kU]
   refine dm t root parts bg nb Bs pg ?_ ?_ rfl rfl rfl ?_
   ·simp [aJ,i64,rQ]
   ·simp [ah,ah.go,i64,zu]
   simp only[zX,Nat.reduceShiftRight,Nat.reduceMod,Nat.reduceLT,Nat.reduceMul,Nat.reduceSub,Int.reduceToNat,Int.reduceNeg,Int.reduceLT,Int.reduceLE,Int.reduceEq,Nat.reduceEqDiff,Nat.reduceAdd,Nat.reduceLeDiff,reduceIte,reduceCtorEq,Nat.reduceBEq,i64,bV,iD,bD,dH,ep,bK,aG,cM,cK,bT,bd,wU,cr,fU,fl,iA,hn,h1,h2,Int.toNat_natCast,List.length_map,List.getElem?_map,hx,hi,Option.map_some,Nat.zero_add,av.cells,gI,fi,iY,fP,ji,hB,pf,Bool.and_true,List.cons_append,List.nil_append,List.length_set,pn,rO,o5,kU]
 by_cases o2:i.op=2
 ·obtain⟨x0,x1,y0,y1⟩:=hg.split n hn (by rw[jh];exact o2)
  rw[jh]at x0 x1 y0 y1
  obtain⟨X,hX⟩:∃X:Nat,i.x=X:=⟨i.x.toNat,by omega⟩
  obtain⟨Y,hY⟩:∃Y:Nat,i.y=Y:=⟨i.y.toNat,by omega⟩
  have xc:X<C.length:=by omega
  have SH:Y<C.length:=by omega
  have hc:=MA X xc [⟨0,true,5,[[i64 2,i64 X,i64 Y,i64 i.n,bQ b a i.node]]⟩]
  have hl:=hlen X
  simp only[o2,hX,hY,Int.reduceEq,reduceIte,Int.toNat_natCast]
  generalize fE t Bs C p (j+1) X ⟨st.ad.set n (p+1),st.ho,st.rd,st.gn⟩=R at *
  obtain⟨l1,l2,l3,l4,_⟩:=hl
  simp only[List.length_set]at l1 l2 l3 l4
  have rQ:=fun (K:V->List VL.Obj->Prop) hk=>AB (IH j rfl) (n:=Y) (st:=R) SH (by omega) (by omega) (by omega) (by omega) (tl:=[⟨0,true,5,[[i64 2,i64 X,i64 Y,i64 i.n,bQ b a i.node]]⟩]) (K:=K) hk
  generalize fE t Bs C p (j+1) Y R=R2 at *
  unfold dH ep at hc rQ
  unfold dH ep
  refine an Try.func85 rfl Try.ntmps85 Try.results85 rfl 10 134218367 (by simp) (by simp) ?_
  simp only[zX,Nat.reduceShiftRight,Nat.reduceMod,Nat.reduceLT,Nat.reduceMul,Nat.reduceSub,Int.reduceToNat,Int.reduceNeg,Int.reduceLT,Int.reduceLE,Int.reduceEq,Nat.reduceEqDiff,Nat.reduceAdd,Nat.reduceLeDiff,reduceIte,reduceCtorEq,Nat.reduceBEq,i64,bV,iD,bD,dH,ep,bK,aG,cM,cK,bT,bd,wU,cr,fU,fl,iA,hn,h1,h2,Int.toNat_natCast,List.length_map,List.getElem?_map,hx,hi,Option.map_some,Nat.zero_add,av.cells,gI,fi,iY,fP,ji,hB,pf,Bool.and_true,List.cons_append,List.nil_append,List.length_set,pn,rO,o2,hX,hY]
  refine hc _ ?_
  simp only[zX,Nat.reduceShiftRight,Nat.reduceMod,Nat.reduceLT,Nat.reduceMul,Nat.reduceSub,Int.reduceToNat,Int.reduceNeg,Int.reduceLT,Int.reduceLE,Int.reduceEq,Nat.reduceEqDiff,Nat.reduceAdd,Nat.reduceLeDiff,reduceIte,reduceCtorEq,Nat.reduceBEq,i64,bV,iD,bD,dH,ep,bK,aG,cM,cK,bT,bd,wU,cr,fU,fl,iA,hn,h1,h2,Int.toNat_natCast,List.length_map,List.getElem?_map,hx,hi,Option.map_some,Nat.zero_add,av.cells,gI,fi,iY,fP,ji,hB,pf,Bool.and_true,List.cons_append,List.nil_append,List.length_set,pn,rO,o2,hX,hY]
  refine rQ _ ?_
  simp only[zX,Nat.reduceShiftRight,Nat.reduceMod,Nat.reduceLT,Nat.reduceMul,Nat.reduceSub,Int.reduceToNat,Int.reduceNeg,Int.reduceLT,Int.reduceLE,Int.reduceEq,Nat.reduceEqDiff,Nat.reduceAdd,Nat.reduceLeDiff,reduceIte,reduceCtorEq,Nat.reduceBEq,i64,bV,iD,bD,dH,ep,bK,aG,cM,cK,bT,bd,wU,cr,fU,fl,iA,hn,h1,h2,Int.toNat_natCast,List.length_map,List.getElem?_map,hx,hi,Option.map_some,Nat.zero_add,av.cells,gI,fi,iY,fP,ji,hB,pf,Bool.and_true,List.cons_append,List.nil_append,List.length_set,pn,rO,o2,hX,hY]
 have Om:=hg.ops n hn
 rw[jh]at Om
 omega
theorem Co (hg:lg t Bs C) (ly:nb=Bs.length) (ht:t.length<=1000000) (hp:p<=t.length):∀k,Fp t root parts bg nb Bs g b a C p k
 |0=>C8 t root parts bg nb Bs g b a C p hg ly ht hp 0 (fun j h=>by omega)
 |k+1=>C8 t root parts bg nb Bs g b a C p hg ly ht hp (k+1) (fun j h=>by
  have:j=k:=by omega
  subst this
  exact Co hg ly ht hp j)
end
open Go.RowKit Go.Shelf Go.Proofs.Try
attribute [local go_sem] Oper.semAt_some
def sj (b:Bool) (N i:Nat):Int:=if b then (N:Int)-i else i
theorem PH (F:Fence) (n:Nat) (hF:F.fn 106) (Vo:F.round=none) (hn:1<=n) (l:Nat) (a1 a2:Addr) (N:Nat) (hN:N<=1000000) (b:Bool) (J:Nat->World->Prop)
  (hM:∀i W,J i W->W.cell? a1=some (.int .i64 N)/\W.cell? a2=some (.bool b))
  (hY:∀i W,J i W->i<=N->YieldAt F (n-1) Try.prog l #[.int .i64 (sj b N i)] W fun e W'=>e=.returned (.bool true)/\J (i+1) W')
  (W:World) (h0:J 0 W):CallsIn F n Try.prog 106 #[.func (.yield l) #[] #[],.pointer (some a1),.pointer (some a2)] W fun e W'=>(∃v,e=.returned v)/\J (N+1) W':=by
 refine callsIn_of_wp Try.func106 rfl hF ?_ Vo
 simp only[Try.ntmps106,List.size_toArray,List.length_cons,List.length_nil,Nat.reduceAdd,Nat.reduceSub,Array.replicate_succ,Array.replicate_zero,List.push_toArray,List.append_toArray,List.nil_append,List.cons_append]
 gi_wp2
 gi_loopw [4] (fun p wr=>∃i:Nat,p=.int .i64 i/\i<=N+1/\J i wr) (fun p _=>match p with|.int _ i=>(N+1-i).toNat|_=>0)
 case atStart=>exact⟨0,rfl,by omega,h0⟩
 case round =>
  obtain⟨i,rfl,hi,hJ⟩:=hrel
  obtain⟨m1,m2⟩:=hM i _ hJ
  by_cases az:(i:Int)<=(N:Int)
  ·obtain⟨fn,tmps,assign,body,hy,hR⟩:=hY i _ hJ (by omega)
   have w1:IntKind.i64.wrap ((N:Int)-(i:Int))=(N:Int)-i:=br _ (by omega)
   have w2:IntKind.i64.wrap ((i:Int)+1)=(i:Int)+1:=br _ (by omega)
   cases b with
   |true =>
    simp only[sj,if_true]at hy
    gi_wp2
    refine hR.mono ?_
    rintro e W3 ⟨rfl,U2⟩
    gi_wp2
    go_roundw
    case rel=>exact⟨i+1,by push_cast;rfl,by omega,U2⟩
    case measure=>simp;omega
   |false =>
    simp only[sj,Bool.false_eq_true,if_false]at hy
    gi_wp2
    refine hR.mono ?_
    rintro e W3 ⟨rfl,U2⟩
    gi_wp2
    go_roundw
    case rel=>exact⟨i+1,by push_cast;rfl,by omega,U2⟩
    case measure=>simp;omega
  ·gi_wp2
   go_end0
   exact⟨⟨_,rfl⟩,by rw[show N+1=i by omega];exact hJ⟩
def JO (N:Nat) (b:Bool):List D:=[.el [iD N],.el [bD b]]
theorem CS (N:Nat) (hN:N<=1000000) (b:Bool):Cg Try.prog 106 (JO N b) (N+1) (sj b N):=by
 refine⟨enters_of Try.func106 (by kernel_rfl) rfl,?_⟩
 intro lb l J IG hM hY W h0
 obtain⟨lb⟩:=lb
 match lb,IG with
 |[x1,x2],_ =>
  have cell:∀{W:World}{x:Value}{c:D}{u:Value},cu (fun _=>False) W (.el [c]) x->c=.sc u->∃ad,x=.pointer (some ad)/\W.cell? ⟨ad.block,ad.off,none⟩=some u/\ad.spot=none:=by
   intro W x c u h hc
   cases h with|el cs ad f h1 h2 h3=>?_
   refine⟨ad,rfl,?_,h1⟩
   have:=(h2 0 c rfl).1
   have hv:=h3 0 c rfl
   subst hc
   cases hv
   simpa using this
  have hp:=hM 0 W h0
  obtain⟨d1,rfl,_,s1⟩:=cell (hp 0 _ rfl) rfl
  obtain⟨d2,rfl,_,s2⟩:=cell (hp 1 _ rfl) rfl
  have np:d1=⟨d1.block,d1.off,none⟩:=by cases d1;simp only at s1;subst s1;rfl
  have VH:d2=⟨d2.block,d2.off,none⟩:=by cases d2;simp only at s2;subst s2;rfl
  have:=PH (Ar none) 1 trivial rfl (Nat.le_refl _) l d1 d2 N hN b J (fun i W hJ=>by
   obtain⟨e1,h1,h2,_⟩:=cell (hM i W hJ 0 _ rfl) rfl
   obtain⟨e2,h3,h4,_⟩:=cell (hM i W hJ 1 _ rfl) rfl
   cases h1;cases h3
   rw[np,VH]
   exact⟨h2,h4⟩) (fun i W hJ hi=>hY i W hJ (by omega)) W h0
  exact⟨trivial,fun cs _=>this.2 cs (Lw _ _)⟩
theorem uX (N:Nat) (b:Bool):ba Try.prog 84 [i64 N,bV b] (.d (.cl (.func 106) [] (JO N b))):=by
 refine an Try.func84 rfl Try.ntmps84 Try.results84 rfl 0 31 (by simp) (by simp) ?_
 simp only[zX,Nat.reduceShiftRight,Nat.reduceMod,Nat.reduceLT,Nat.reduceMul,Nat.reduceSub,Int.reduceToNat,Int.reduceNeg,Int.reduceLT,Int.reduceLE,Int.reduceEq,Nat.reduceEqDiff,Nat.reduceAdd,Nat.reduceLeDiff,reduceIte,reduceCtorEq,Nat.reduceBEq,i64,bV,iD,bD]
 rfl
theorem AI {aR iX:List Nat}{e:VL.Env} (h0:∀t,iX.contains t=false->e t=.any) (h:∀t∈iX,dU aR (e t)=e t):GL aR iX e=e:=by
 funext t
 rw[yb]
 split
 ·rename_i ht
  exact h t (by simpa using ht)
 ·rename_i ht
  exact(h0 t (by simpa using ht)).symm
theorem bI.Fs {L:Nat}{e:VL.Env}{s:List VL.Obj} (aR iX:List Nat) (h:zn L aR s.length=true) (he:GL aR iX e=e):bI L e s e (jZ aR s):=by
 have:=bI.zx (L:=L) (e:=e) (s:=s) aR iX h
 rwa [he]at this
theorem jY (aR:List Nat) (q:Nat) (l:List Bool):eD aR (bT q l)=bT q l:=by
 unfold eD bT
 simp only[List.map_map]
 congr 1
theorem gP (aR:List Nat) (bg:Nat) (Bs:List (List Bool)):eD aR (ez bg Bs)=ez bg Bs:=by
 unfold eD ez
 simp only[List.map_map]
 congr 1
theorem Gq (aR:List Nat) (h:aR.idxOf? 0=some 0) (b a:Nat) (x:Option (Re×Nat)):dU aR (bQ b a x)=bQ b a x:=by
 cases x with
 |none=>rfl
 |some x =>
  obtain⟨re,k⟩:=x
  unfold bQ
  simp only
  split
  ·simp [dU,dU.go,mB,nB,h]
  ·split <;> simp [dU,dU.go,mB,nB,h]
theorem jK (aR:List Nat) (h:aR.idxOf? 0=some 0) (g b a:Nat) (C:List av):eD aR (cr g b a C)=cr g b a C:=by
 unfold eD cr
 simp only[List.map_map]
 congr 1
 apply List.map_congr_left
 intro i _
 simp [av.cells,Gq aR h,dU,dU.go,i64]
section
variable (t:List Int) (Bs:List (List Bool)) (C:List av)
def c9 (p:Nat) (Lt:List Bool) (n:Nat):HI:=(List.range n).foldl (fun st n=>(bn t Bs C p Lt (C.length+1) n st).2) ⟨List.replicate C.length false,List.replicate C.length false⟩
def eP:Nat->List Bool
 |0=>List.replicate C.length false
 |i+1=>(c9 t Bs C (t.length-i) (eP i) C.length).nw
def eL (i:Nat):List Bool:=(List.range (t.length+1)).map fun p=>decide (t.length<p+i)&&(eP t Bs C (t.length-p+1)).getD 0 false
def eI:List Bool:=(List.range (t.length+1)).map fun p=>(eP t Bs C (t.length-p+1)).getD 0 false
theorem ko (p:Nat) (Lt:List Bool) (n:Nat):c9 t Bs C p Lt (n+1)=(bn t Bs C p Lt (C.length+1) n (c9 t Bs C p Lt n)).2:=by
 unfold c9
 rw[List.range_succ,List.foldl_append]
 rfl
theorem nY (p:Nat) (Lt:List Bool):∀n,(c9 t Bs C p Lt n).kn.length=C.length/\(c9 t Bs C p Lt n).nw.length=C.length
 |0=>by simp [c9]
 |n+1=>by
  have h:=nY p Lt n
  have h2:=kD t Bs C p Lt (C.length+1) n (c9 t Bs C p Lt n)
  rw[ko]
  exact⟨h2.1.trans h.1,h2.2.1.trans h.2⟩
theorem BB:∀i,(eP t Bs C i).length=C.length
 |0=>by simp [eP]
 |i+1=>(nY t Bs C _ _ _).2
theorem x8:eL t Bs C 0=List.replicate (t.length+1) false:=by
 apply List.ext_getElem?
 intro j
 unfold eL
 rw[List.getElem?_map,List.getElem?_replicate]
 by_cases hj:j<t.length+1
 ·rw[List.getElem?_range hj,if_pos hj]
  simp only[Option.map_some]
  rw[decide_eq_false (by omega)]
  rfl
 ·rw[List.getElem?_eq_none (by simpa using hj),if_neg hj];rfl
theorem ni (i:Nat):(eL t Bs C i).length=t.length+1:=by simp [eL]
theorem zf (i:Nat) (hi:i<=t.length):(eL t Bs C i).set (t.length-i) ((eP t Bs C (i+1)).getD 0 false)=eL t Bs C (i+1):=by
 apply List.ext_getElem?
 intro j
 rw[List.getElem?_set,ni]
 unfold eL
 rw[List.getElem?_map,List.getElem?_map]
 by_cases hj:j<t.length+1
 ·rw[List.getElem?_range hj]
  simp only[Option.map_some]
  by_cases h:t.length-i=j
  ·rw[if_pos h,if_pos (by omega)]
   rw[decide_eq_true (by omega),Bool.true_and,show t.length-j+1=i+1 by omega]
  ·rw[if_neg h]
   congr 2
   exact decide_eq_decide.2 (by omega)
 ·rw[List.getElem?_eq_none (by simpa using hj),if_neg (by omega)];rfl
theorem z6:eL t Bs C (t.length+1)=eI t Bs C:=by
 unfold eL eI
 apply List.map_congr_left
 intro p hp
 rw[decide_eq_true (by omega),Bool.true_and]
end
section
variable (t:List Int) (root parts:D) (bg nb:Nat) (Bs:List (List Bool)) (g b a:Nat) (C:List av)
def Jt (T:Nat):VL.Obj:=⟨0,true,1,[[.so 11 0 0 T]]⟩
def NQ (p:Nat) (Lt:List Bool) (st:HI) (H:List Bool):List VL.Obj:=jo t root parts bg nb Bs g b a C p Lt st++[bT 0 H,Jt (t.length+1)]
theorem En (hg:lg t Bs C) (ly:nb=Bs.length) (ht:t.length<=1000000) (hC:0<C.length) :
  aq Try.prog 53 [.rf 0 0 0 0,.so 2 g 0 C.length] [cV t root parts bg nb,ez bg Bs,cr g b a C] fun v s=>v=.so 3 0 0 (t.length+1)/\s=[cV t root parts bg nb,ez bg Bs,cr g b a C,bT 0 (eI t Bs C)]:=by
 have cG:=uX t.length true
 have hlen:=hg.len
 have w1:IntKind.i64.wrap ((t.length:Int)+1)=((t.length+1:Nat):Int):=by rw[br _ (by omega)];rfl
 simp only[i64,bV]at cG
 refine Hh Try.func53 rfl Try.ntmps53 Try.results53 rfl 3 3882650439675 (by simp) (by simp) ?_
 simp only[zX,Nat.reduceShiftRight,Nat.reduceMod,Nat.reduceLT,Nat.reduceMul,Nat.reduceSub,Int.reduceToNat,Int.reduceNeg,Int.reduceLT,Int.reduceLE,Int.reduceEq,Nat.reduceEqDiff,Nat.reduceAdd,Nat.reduceLeDiff,reduceIte,reduceCtorEq,Nat.reduceBEq,gv,ny,i64,bV,iD,bD,cV,ao,bK,aG,List.length_map,w1]
 refine⟨⟨by omega,by omega,by omega⟩,?_⟩
 refine aT (bZ.M0 3 3 rfl rfl rfl rfl) ?_
 refine aT bZ.bk ?_
 refine aT bZ.bk ?_
 refine aT bZ.bk ?_
 refine aT bZ.bk ?_
 refine ar mix [] [(2,[6],[6]),(5,[7],[7]),(6,[8],[8]),(7,[9],[9]),(8,[8],[8]),(9,[9],[9])] (by rfl) ?_
 simp only[zX,Nat.reduceShiftRight,Nat.reduceMod,Nat.reduceLT,Nat.reduceMul,Nat.reduceSub,Int.reduceToNat,Int.reduceNeg,Int.reduceLT,Int.reduceLE,Int.reduceEq,Nat.reduceEqDiff,Nat.reduceAdd,Nat.reduceLeDiff,reduceIte,reduceCtorEq,Nat.reduceBEq,gv,ny,ks,ri,i64,bV,iD,bD,cV,ao,bK,aG,List.length_map,w1,hole,NN,bS]
 have YS:(cr g b a C).g=g:=rfl
 have Vi:(C.length:Int)<=C.length/\((1:Nat):Int)*C.length<=140737488355328/\(C.length:Int)<=9223372036854775807:=⟨by omega,by omega,by omega⟩
 refine⟨Vi,Vi,Vi,?_⟩
 refine al cG rfl rfl ?_
 simp only[zX,Nat.reduceShiftRight,Nat.reduceMod,Nat.reduceLT,Nat.reduceMul,Nat.reduceSub,Int.reduceToNat,Int.reduceNeg,Int.reduceLT,Int.reduceLE,Int.reduceEq,Nat.reduceEqDiff,Nat.reduceAdd,Nat.reduceLeDiff,reduceIte,reduceCtorEq,Nat.reduceBEq,gv,ny,ks,ri,i64,bV,iD,bD]
 refine oM.of 34 35 _ (JO t.length true) (t.length+1) (sj true t.length) (fun i s=>∃(kn nw:List Bool) (p:Nat),kn.length=C.length/\nw.length=C.length/\s=NQ t root parts bg nb Bs g b a C p (eP t Bs C i) ⟨kn,nw⟩ (eL t Bs C i))
  (fun e=>e 0=.any/\e 3=.bx (.so 2 g 0 C.length)/\e 5=.rf 12 0 0 0/\e 6=.rf 9 1 0 0/\e 7=.rf 6 1 0 0/\e 8=.rf 4 0 0 0/\e 9=.rf 7 0 0 0/\e 10=.rf 10 0 0 0/\e 34=.d (.cl (.func 106) [] (JO t.length true))/\∀t,[3,5,6,7,8,9,10,34].contains t=false->e t=.any)
  rfl rfl (by decide) (CS t.length ht true) ⟨_,_,bI.zx [0,1,2,10,11,7,9,12,6,8,13,4,5] [3,5,6,7,8,9,10,34] (by rfl),rfl,⟨rfl,rfl,rfl,rfl,rfl,rfl,rfl,rfl,rfl,fun t ht=>if_neg (by rw[ht];exact Bool.false_ne_true)⟩,?_⟩ ?_ ?_
 ·refine⟨List.replicate C.length false,List.replicate C.length false,0,by simp,by simp,?_⟩
  rw[x8]
  have hr:∀n q,(⟨q,true,1,List.replicate n [V.d (D.sc (Value.bool false))]⟩:VL.Obj)=bT q (List.replicate n false):=fun n q=>by simp [bT,bV,bD]
  have AA:([V.d (D.sc (Value.bool false))]::List.replicate t.length [V.d (D.sc (Value.bool false))])=List.replicate (t.length+1) [V.d (D.sc (Value.bool false))]:=rfl
  rw[AA]
  simp only[hr]
  simp only[jZ,List.map_cons,List.map_nil,List.getD_cons_zero,List.getD_cons_succ,gP,jY,jK _ (rfl:List.idxOf? 0 [0,1,2,10,11,7,9,12,6,8,13,4,5]=some 0)]
  rfl
 ·rintro e ⟨f0,f3,f5,f6,f7,f8,f9,f10,f34,fa⟩ i s hi ⟨kn,nw,p,h1,h2,rfl⟩
  have hi':i<=t.length:=by omega
  have UN:sj true t.length i=((t.length-i:Nat):Int):=by simp only[sj,if_true];omega
  rw[UN]
  have iJ:∀l:List Bool,l.length=C.length->gz (l.map fun b=>[V.d (D.sc (Value.bool b))]) 0 (List.replicate C.length [V.d (D.sc (Value.bool false))])=(List.replicate C.length false).map fun b=>[V.d (D.sc (Value.bool b))]:=fun l hl=>by simp [gz,hl]
  have z0:=iJ kn h1
  have F8:=iJ nw h2
  simp only[zX,Nat.reduceShiftRight,Nat.reduceMod,Nat.reduceLT,Nat.reduceMul,Nat.reduceSub,Int.reduceToNat,Int.reduceNeg,Int.reduceLT,Int.reduceLE,Int.reduceEq,Nat.reduceEqDiff,Nat.reduceAdd,Nat.reduceLeDiff,reduceIte,reduceCtorEq,Nat.reduceBEq,i64,bV,iD,bD,NQ,jo,f0,f3,f5,f6,f7,f8,f9,f10,cM,bT,bK,aG,List.length_map,h1,h2,mD,Nat.zero_add,Nat.le_refl,z0,F8]
  clear z0 F8
  have Rg:=BB t Bs C i
  have XZ:eP t Bs C (i+1)=(c9 t Bs C (t.length-i) (eP t Bs C i) C.length).nw:=rfl
  have S4:=zf t Bs C i hi'
  have Y7:=ni t Bs C i
  have YF:=ni t Bs C (i+1)
  rw[XZ]at S4 ⊢
  generalize eP t Bs C i=Lt at *
  generalize eL t Bs C i=H at *
  generalize eL t Bs C (i+1)=H2 at *
  generalize Mx:t.length-i=p' at *
  refine ay (fun n e' s=>∃m:Nat,n=C.length-m/\m<=C.length/\e' 0=.any/\e' 5=.rf 12 0 0 0/\e' 6=.rf 9 1 0 0/\e' 7=.rf 6 1 0 0/\e' 9=.rf 7 0 0 0/\e' 10=.rf 10 0 0 0/\e' 39=i64 C.length/\e' 40=i64 m/\s=NQ t root parts bg nb Bs g b a C p' Lt (c9 t Bs C p' Lt m) H)
   ⟨_,_,_,bI.refl,0,rfl,by omega,f0,f5,f6,f7,f9,f10,rfl,rfl,by simp only[NQ,jo,c9,List.range_zero,List.foldl_nil,cM,bT,i64,bV,bD,List.cons_append,List.nil_append]⟩ ?_
  rintro n e' s ⟨m,rfl,hm,q0,q5,q6,q7,q9,gY,RP,TQ,rfl⟩
  have MC:=nY t Bs C p' Lt m
  rcases Nat.lt_or_ge m C.length with az|ib
  ·have aK:(m:Int)<(C.length:Int):=by omega
   have hc:=fun K hk=>ke (AT t root parts bg nb Bs g b a C p' Lt hg ly ht (by omega) Rg C.length) (n:=m) (st:=c9 t Bs C p' Lt m) az MC.1 MC.2 (by unfold Jb;rw[<- MC.1];exact List.count_le_length) (tl:=[bT 0 H,Jt (t.length+1)]) (K:=K) hk
   rw[<- ko]at hc
   generalize bV (bn t Bs C p' Lt (C.length+1) m (c9 t Bs C p' Lt m)).1=rv at *
   have F4:NQ t root parts bg nb Bs g b a C p' Lt (c9 t Bs C p' Lt (m+1)) H=jo t root parts bg nb Bs g b a C p' Lt (c9 t Bs C p' Lt (m+1))++[bT 0 H,Jt (t.length+1)]:=rfl
   generalize zE:c9 t Bs C p' Lt (m+1)=E2 at *
   unfold cQ jo at hc
   simp only[zX,Nat.reduceShiftRight,Nat.reduceMod,Nat.reduceLT,Nat.reduceMul,Nat.reduceSub,Int.reduceToNat,Int.reduceNeg,Int.reduceLT,Int.reduceLE,Int.reduceEq,Nat.reduceEqDiff,Nat.reduceAdd,Nat.reduceLeDiff,reduceIte,reduceCtorEq,Nat.reduceBEq,i64,bV,iD,bD,NQ,jo,q0,q5,q6,q7,q9,gY,RP,TQ,cM,bT,tG,bK,aG,aK,List.cons_append,List.nil_append]
   refine hc _ ?_
   simp only[zX,Nat.reduceShiftRight,Nat.reduceMod,Nat.reduceLT,Nat.reduceMul,Nat.reduceSub,Int.reduceToNat,Int.reduceNeg,Int.reduceLT,Int.reduceLE,Int.reduceEq,Nat.reduceEqDiff,Nat.reduceAdd,Nat.reduceLeDiff,reduceIte,reduceCtorEq,Nat.reduceBEq,i64,bV,iD,bD,q0,q5,q6,q7,q9,gY,RP,TQ,bK,aG,aK,List.cons_append,List.nil_append]
   refine⟨C.length-(m+1),_,_,by omega,bI.refl,m+1,rfl,az,?_,?_,?_,?_,?_,?_,?_,?_,by rw[zE];rfl⟩ <;> (try simp only[zU,Nat.reduceBEq,Nat.reduceShiftRight,Nat.reduceMod,Nat.reduceEqDiff,reduceIte])
   ·exact q0
   ·exact q5
   ·exact q6
   ·exact q7
   ·exact q9
   ·exact gY
   ·exact RP
   ·rw[br _ (by omega)];rfl
  ·have LC:m=C.length:=by omega
   subst LC
   generalize c9 t Bs C p' Lt C.length=E2 at *
   obtain⟨XN,Wv⟩:=E2
   simp only at MC S4 ⊢
   have NP:(0:Int)<(C.length:Int):=by omega
   obtain⟨y,hy⟩:∃y,Wv[0]?=some y:=⟨_,List.getElem?_eq_getElem (by rw[MC.2];exact hC)⟩
   have YW:Wv.getD 0 false=y:=by rw[List.getD_eq_getElem?_getD,hy];rfl
   rw[YW]at S4
   have vK:(0:Int)<=(p':Int):=by omega
   have BX:(p':Int)<((t.length+1:Nat):Int):=by omega
   have Wq:p'<H.length:=by omega
   obtain⟨z,hz⟩:∃z,H[p']?=some z:=⟨_,List.getElem?_eq_getElem Wq⟩
   simp only[zX,Nat.reduceShiftRight,Nat.reduceMod,Nat.reduceLT,Nat.reduceMul,Nat.reduceSub,Int.reduceToNat,Int.reduceNeg,Int.reduceLT,Int.reduceLE,Int.reduceEq,Nat.reduceEqDiff,Nat.reduceAdd,Nat.reduceLeDiff,reduceIte,reduceCtorEq,Nat.reduceBEq,i64,bV,iD,bD,NQ,jo,q0,q5,q6,q7,q9,gY,RP,TQ,cM,bT,Jt,bK,aG,Int.lt_irrefl,List.cons_append,List.nil_append]
   refine ar mix [6] [] (by rfl) ?_
   simp only[zX,Nat.reduceShiftRight,Nat.reduceMod,Nat.reduceLT,Nat.reduceMul,Nat.reduceSub,Int.reduceToNat,Int.reduceNeg,Int.reduceLT,Int.reduceLE,Int.reduceEq,Nat.reduceEqDiff,Nat.reduceAdd,Nat.reduceLeDiff,reduceIte,reduceCtorEq,Nat.reduceBEq,i64,bV,iD,bD,NQ,jo,q0,q5,q6,q7,q9,gY,RP,TQ,cM,bT,Jt,bK,aG,List.cons_append,List.nil_append,NP,hC,vK,BX,Wq,Y7,hz,hy,MC.2,Option.map_some,List.length_map,List.getElem?_map,Int.toNat_natCast,Nat.zero_add,fi,S4]
   have Ay:GL [0,1,2,3,4,8,6,7,5,9,10,11,12] [3,5,6,7,8,9,10,34] e=e:=by
    refine AI fa ?_
    intro x hx
    simp only[List.mem_cons,List.not_mem_nil,or_false]at hx
    rcases hx with rfl|rfl|rfl|rfl|rfl|rfl|rfl|rfl
    ·rw[f3];rfl
    ·rw[f5];rfl
    ·rw[f6];rfl
    ·rw[f7];rfl
    ·rw[f8];rfl
    ·rw[f9];rfl
    ·rw[f10];rfl
    ·rw[f34];rfl
   refine⟨_,bI.Fs _ _ (by rfl) Ay,XN,Lt,p',MC.1,Rg,?_⟩
   have TF:∀q (l:List Bool),eD [0,1,2,3,4,8,6,7,5,9,10,11,12] ⟨q,true,1,l.map fun b=>[V.d (D.sc (Value.bool b))]⟩=⟨q,true,1,l.map fun b=>[V.d (D.sc (Value.bool b))]⟩:=fun q l=>jY _ q l
   simp only[jZ,List.map_cons,List.map_nil,List.getD_cons_zero,List.getD_cons_succ,gP,TF,jK _ (rfl:List.idxOf? 0 [0,1,2,3,4,8,6,7,5,9,10,11,12]=some 0)]
   rfl
 ·rintro e ⟨f0,f3,f5,f6,f7,f8,f9,f10,f34,fa⟩ s ⟨kn,nw,p,h1,h2,rfl⟩
  rw[z6]
  simp only[zX,Nat.reduceShiftRight,Nat.reduceMod,Nat.reduceLT,Nat.reduceMul,Nat.reduceSub,Int.reduceToNat,Int.reduceNeg,Int.reduceLT,Int.reduceLE,Int.reduceEq,Nat.reduceEqDiff,Nat.reduceAdd,Nat.reduceLeDiff,reduceIte,reduceCtorEq,Nat.reduceBEq,NQ,jo,f0,f3,f5,Jt,Bw,wT]
  refine⟨[0,1,2,11],rfl,?_⟩
  simp only[jZ,List.map_cons,List.map_nil,List.getD_cons_zero,List.getD_cons_succ,gP,jY,jK _ (rfl:List.idxOf? 0 [0,1,2,11]=some 0)]
  exact⟨rfl,rfl⟩
end
end Go.Proofs.Ytfmdmlfhigocaaa
