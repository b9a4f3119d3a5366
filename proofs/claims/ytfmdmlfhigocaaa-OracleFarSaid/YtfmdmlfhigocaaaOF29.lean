/- A part of the proof (G23 G33 O4 Vra Vrb Vrc Vrd). -/
import Derived.RangeFuncLeaves
import Derived.RangeFuncKeeps
import Derived.Test.YtfmdmlfhigocaaaOF6
import Derived.Test.YtfmdmlfhigocaaaOF11
import Derived.Test.YtfmdmlfhigocaaaOF12
import Derived.Test.YtfmdmlfhigocaaaOF14
import Derived.Test.YtfmdmlfhigocaaaOF15
import Derived.Test.YtfmdmlfhigocaaaOF28
set_option linter.unusedSimpArgs false
set_option linter.unusedVariables false
set_option maxRecDepth 100000
set_option maxHeartbeats 80000000
namespace Go.Proofs.Ytfmdmlfhigocaaa
open Go.VL Go.Proofs.Try
def K0.same (m:K0):Prop:=m.M9=true->m.own=m.t
instance (m:K0):Decidable m.same:=by unfold K0.same;infer_instance
def K0.oz (m:K0) (p:Gu):Prop:=(0<=m.steps/\m.steps<=10000000000000/\m.top<=m.Y2.length/\m.top<=1200000000000)/\(0<=p.at_/\p.at_<=m.t.length/\p.ai.length<=1000000000)/\m.t.length<=1000000/\m.same
instance (m:K0) (p:Gu):Decidable (m.oz p):=by unfold K0.oz;infer_instance
theorem Fg (x:Int):ba prog 86 [i64 x] (bV (oV x)):=by
 refine an func86 rfl ntmps86 results86 rfl 0 5 (by simp) (by simp) ?_
 simp only[zX,simprocAttr,i64]
 repeat' (first
 |(with_reducible refine And.intro (by first|omega|exact⟨by omega,by omega⟩|(simp;done)) ?_)
 |(with_reducible refine jc (fun hc=>?_) (fun hc=>?_) <;> simp only[zX,simprocAttr,i64,ge_iff_le,hc])
 |(with_reducible refine dj (fun hc=>?_) (fun hc=>?_) <;> simp only[zX,simprocAttr,i64,ge_iff_le,hc])
 |(with_reducible refine di (fun hc=>?_) (fun hc=>?_) <;> simp only[zX,simprocAttr,i64,ge_iff_le,hc])
 |(with_reducible refine cF (fun hc=>?_) (fun hc=>?_) <;> simp only[zX,simprocAttr,i64,ge_iff_le,hc])
 |(with_reducible refine cE (fun hc=>?_) (fun hc=>?_) <;> simp only[zX,simprocAttr,i64,ge_iff_le,hc])
 |(with_reducible refine fL (fun hc=>?_) (fun hc=>?_) <;> simp only[zX,simprocAttr,i64,ge_iff_le,hc])
 |(with_reducible refine df (fun hc=>?_) (fun hc=>?_) <;> simp only[zX,simprocAttr,i64,ge_iff_le,hc]))
 all_goals (simp only[oV,bV];simp [*];try omega)
theorem JI (n:Int) (t:List Int) (i:Int) (fl:0<=n) (My:n<=5) (ht:t.length<=1000000) (h0:0<=i) (h1:i<=t.length):ba prog 60 [i64 n,.d (ao t),i64 i] (bV (bP n t i)):=by
 have w1:IntKind.i64.wrap (i-1)=i-1:=br _ (by omega)
 have hw:=Fg (kW t (i-1))
 have OT:=Fg (kW t i)
 simp only[i64,bV]at hw OT
 have u1:¬i<0:=by omega
 have u2:¬(t.length:Int)<i:=by omega
 have Sn:0<i->t[(i-1).toNat]?=some (kW t (i-1)):=fun h=>lF (by omega) (by omega)
 have Q9:i<t.length->t[i.toNat]?=some (kW t i):=fun h=>lF h0 h
 have sq:n=0\/n=1\/n=2\/n=3\/n=4\/n=5:=by omega
 rcases sq with rfl|rfl|rfl|rfl|rfl|rfl
 ·refine an func60 rfl ntmps60 results60 rfl 0 9007199254872519 (by simp) (by simp) ?_
  simp only[zX,simprocAttr,i64,iD,ao,u1,u2,gt_iff_lt]
  simp [bP,bV]
 ·refine an func60 rfl ntmps60 results60 rfl 0 9007199254872519 (by simp) (by simp) ?_
  simp only[zX,simprocAttr,i64,iD,ao,u1,u2,gt_iff_lt]
  simp [bP,bV]
 ·by_cases c:i=0
  ·have e:=eq_true c
   refine an func60 rfl ntmps60 results60 rfl 0 9007199254872519 (by simp) (by simp) ?_
   simp only[zX,simprocAttr,i64,iD,ao,u1,u2,gt_iff_lt,e]
   simp [bP,bV,c]
  ·have b1:0<=i-1:=by omega
   have b2:i-1<(t.length:Int):=by omega
   have g1:=Sn (by omega)
   refine an func60 rfl ntmps60 results60 rfl 0 9007199254872519 (by simp) (by simp) ?_
   simp only[zX,simprocAttr,i64,iD,ao,u1,u2,gt_iff_lt,c,w1,b1,b2,g1]
   simp [bP,bV,c]
 ·by_cases c:i=(t.length:Int)
  ·have e:=eq_true c
   refine an func60 rfl ntmps60 results60 rfl 0 9007199254872519 (by simp) (by simp) ?_
   simp only[zX,simprocAttr,i64,iD,ao,u1,u2,gt_iff_lt,e]
   simp [bP,bV,c]
  ·have b2:i<(t.length:Int):=by omega
   have g2:=Q9 b2
   refine an func60 rfl ntmps60 results60 rfl 0 9007199254872519 (by simp) (by simp) ?_
   simp only[zX,simprocAttr,i64,iD,ao,u1,u2,gt_iff_lt,c,h0,b2,g2]
   simp [bP,bV,c]
 all_goals
  by_cases c1:0<i
  ·have b1:0<=i-1:=by omega
   have b2:i-1<(t.length:Int):=by omega
   have g1:=Sn c1
   by_cases c2:i<(t.length:Int)
   ·have g2:=Q9 c2
    refine an func60 rfl ntmps60 results60 rfl 0 9007199254872519 (by simp) (by simp) ?_
    simp only[zX,simprocAttr,i64,iD,ao,u1,u2,gt_iff_lt,c1,c2,w1,b1,b2,g1,g2,h0]
    refine al hw rfl rfl ?_
    simp only[zX,simprocAttr,i64,iD,ao,u1,u2,gt_iff_lt,c1,c2,w1,b1,b2,g1,g2,h0]
    refine al OT rfl rfl ?_
    simp only[zX,simprocAttr,i64,iD,ao,u1,u2,gt_iff_lt,c1,c2,w1,b1,b2,g1,g2,h0]
    simp [bP,bV,mC,jB,c1,c2] <;> (cases oV (kW t (i-1)) <;> cases oV (kW t i) <;> rfl)
   ·refine an func60 rfl ntmps60 results60 rfl 0 9007199254872519 (by simp) (by simp) ?_
    simp only[zX,simprocAttr,i64,iD,ao,u1,u2,gt_iff_lt,c1,c2,w1,b1,b2,g1,h0]
    refine al hw rfl rfl ?_
    simp only[zX,simprocAttr,i64,iD,ao,u1,u2,gt_iff_lt,c1,c2,w1,b1,b2,g1,h0]
    simp [bP,bV,mC,jB,c1,c2]
  ·by_cases c2:i<(t.length:Int)
   ·have g2:=Q9 c2
    refine an func60 rfl ntmps60 results60 rfl 0 9007199254872519 (by simp) (by simp) ?_
    simp only[zX,simprocAttr,i64,iD,ao,u1,u2,gt_iff_lt,c1,c2,g2,h0]
    refine al OT rfl rfl ?_
    simp only[zX,simprocAttr,i64,iD,ao,u1,u2,gt_iff_lt,c1,c2,g2,h0]
    simp [bP,bV,mC,jB,c1,c2]
   ·refine an func60 rfl ntmps60 results60 rfl 0 9007199254872519 (by simp) (by simp) ?_
    simp only[zX,simprocAttr,i64,iD,ao,u1,u2,gt_iff_lt,c1,c2,h0]
    simp [bP,bV,mC,jB,c1,c2]
theorem ym (t:List Int) (root parts:D) (bg nb:Nat) (Bs:List (List Bool)) (b a:Nat) (re:Re) (k:Nat) (i:Int) (h0:0<=i) (eO:re.set.length<=1000000) (ht:t.length<=1000000) :
  aq Try.prog 57 [i64 i,.bx (.pp 0 0 0 0 b a),.bx (.d (re.aY k))] [cV t root parts bg nb,ez bg Bs] fun v s=>v=bV (decide (i<t.length)&&Ba re.set (kW t i))/\s=[cV t root parts bg nb,ez bg Bs]:=by
 have hh:=Nc re.set (kW t i) (by omega)
 have hb:=fe 2 bg Bs
 rw[Re.dw]
 by_cases az:i<(t.length:Int)
 ·have hn:i.toNat<t.length:=by omega
  have hg:t[i.toNat]?=some (kW t i):=by unfold kW;rw[List.getD_eq_getElem?_getD,List.getElem?_eq_getElem hn];rfl
  refine an Try.func57 rfl Try.ntmps57 Try.results57 rfl 2 23 (by simp) (by simp) ?_
  simp only[zX,Nat.reduceShiftRight,Nat.reduceMod,Nat.reduceLT,Nat.reduceMul,Nat.reduceSub,Int.reduceToNat,Int.reduceNeg,Int.reduceLT,Int.reduceLE,Int.reduceEq,Nat.reduceEqDiff,Nat.reduceAdd,Nat.reduceLeDiff,reduceIte,reduceCtorEq,Nat.reduceBEq,i64,bV,iD,bD]
  refine ar mix [] [(2,[0],[]),(3,[0],[]),(4,[0],[]),(14,[0],[]),(15,[0],[]),(16,[0],[])] (by rfl) ?_
  simp only[zX,Nat.reduceShiftRight,Nat.reduceMod,Nat.reduceLT,Nat.reduceMul,Nat.reduceSub,Int.reduceToNat,Int.reduceNeg,Int.reduceLT,Int.reduceLE,Int.reduceEq,Nat.reduceEqDiff,Nat.reduceAdd,Nat.reduceLeDiff,reduceIte,reduceCtorEq,Nat.reduceBEq,i64,bV,iD,bD,bK,aG,cV,ao,List.length_map,az,h0,hn,hg,List.getElem?_map,Option.map_some]
  refine fg hh rfl rfl ?_
  simp only[zX,Nat.reduceShiftRight,Nat.reduceMod,Nat.reduceLT,Nat.reduceMul,Nat.reduceSub,Int.reduceToNat,Int.reduceNeg,Int.reduceLT,Int.reduceLE,Int.reduceEq,Nat.reduceEqDiff,Nat.reduceAdd,Nat.reduceLeDiff,reduceIte,reduceCtorEq,Nat.reduceBEq,i64,bV,iD,bD,bK,aG,cV,ao,List.length_map,az,h0,hn,hg,List.getElem?_map,Option.map_some,hb]
 ·refine an Try.func57 rfl Try.ntmps57 Try.results57 rfl 2 23 (by simp) (by simp) ?_
  simp only[zX,Nat.reduceShiftRight,Nat.reduceMod,Nat.reduceLT,Nat.reduceMul,Nat.reduceSub,Int.reduceToNat,Int.reduceNeg,Int.reduceLT,Int.reduceLE,Int.reduceEq,Nat.reduceEqDiff,Nat.reduceAdd,Nat.reduceLeDiff,reduceIte,reduceCtorEq,Nat.reduceBEq,i64,bV,iD,bD]
  refine ar mix [] [(2,[0],[]),(3,[0],[]),(4,[0],[]),(14,[0],[]),(15,[0],[]),(16,[0],[])] (by rfl) ?_
  simp only[zX,Nat.reduceShiftRight,Nat.reduceMod,Nat.reduceLT,Nat.reduceMul,Nat.reduceSub,Int.reduceToNat,Int.reduceNeg,Int.reduceLT,Int.reduceLE,Int.reduceEq,Nat.reduceEqDiff,Nat.reduceAdd,Nat.reduceLeDiff,reduceIte,reduceCtorEq,Nat.reduceBEq,i64,bV,iD,bD,bK,aG,cV,ao,List.length_map,az,h0,hb]
  rfl
theorem sr (t:List Int) (root parts:D) (bg nb:Nat) (Bs:List (List Bool)) (b a:Nat) (re:Re) (k:Nat) (i:Int) (h0:0<=i) (h1:i<=t.length) (fl:0<=re.n) (My:re.n<=5) (ht:t.length<=1000000) :
  aq Try.prog 59 [i64 i,.bx (.d (re.aY k)),.bx (.pp 0 0 0 0 b a)] [cV t root parts bg nb,ez bg Bs] fun v s=>v=bV (bP re.n t i)/\s=[cV t root parts bg nb,ez bg Bs]:=by
 have hh:=JI re.n t i fl My ht h0 h1
 have hb:=fe 2 bg Bs
 rw[Re.dw]
 refine an Try.func59 rfl Try.ntmps59 Try.results59 rfl 2 23 (by simp) (by simp) ?_
 simp only[zX,Nat.reduceShiftRight,Nat.reduceMod,Nat.reduceLT,Nat.reduceMul,Nat.reduceSub,Int.reduceToNat,Int.reduceNeg,Int.reduceLT,Int.reduceLE,Int.reduceEq,Nat.reduceEqDiff,Nat.reduceAdd,Nat.reduceLeDiff,reduceIte,reduceCtorEq,Nat.reduceBEq,i64,bV,iD,bD]
 refine ar mix [] [(6,[0],[]),(7,[0],[]),(8,[0],[])] (by rfl) ?_
 simp only[zX,Nat.reduceShiftRight,Nat.reduceMod,Nat.reduceLT,Nat.reduceMul,Nat.reduceSub,Int.reduceToNat,Int.reduceNeg,Int.reduceLT,Int.reduceLE,Int.reduceEq,Nat.reduceEqDiff,Nat.reduceAdd,Nat.reduceLeDiff,reduceIte,reduceCtorEq,Nat.reduceBEq,i64,bV,iD,bD,bK,aG,cV,ao]
 refine fg hh rfl rfl ?_
 simp only[zX,Nat.reduceShiftRight,Nat.reduceMod,Nat.reduceLT,Nat.reduceMul,Nat.reduceSub,Int.reduceToNat,Int.reduceNeg,Int.reduceLT,Int.reduceLE,Int.reduceEq,Nat.reduceEqDiff,Nat.reduceAdd,Nat.reduceLeDiff,reduceIte,reduceCtorEq,Nat.reduceBEq,i64,bV,iD,bD,bK,aG,cV,ao,hb]
theorem wy (t:List Int) (root parts:D) (bg nb:Nat) (Bs:List (List Bool)) (b a:Nat) (re:Re) (k:Nat) (i:Nat) (ly:nb=Bs.length) {l:List Bool}{y:Bool} (hl:Bs[k]?=some l) (hy:l[i]?=some y) :
  aq Try.prog 61 [i64 i,.bx (.pp 0 0 0 0 b a),.bx (.d (re.aY k))] [cV t root parts bg nb,ez bg Bs] fun v s=>v=bV y/\s=[cV t root parts bg nb,ez bg Bs]:=by
 have hb:((Bs.map fun l=>[V.d (D.sl (l.map fun b=>[D.sc (Value.bool b)]))]).all fun e=>e.all (ah 2))=true:=fe 2 bg Bs
 have hk:k<Bs.length:=(List.getElem?_eq_some_iff.1 hl).1
 have hi:i<l.length:=(List.getElem?_eq_some_iff.1 hy).1
 have c1:(k:Int)<(Bs.length:Int):=by omega
 have c2:(i:Int)<(l.length:Int):=by omega
 have c3:(0:Int)<=(k:Int):=by omega
 have c4:(0:Int)<=(i:Int):=by omega
 rw[Re.dw]
 subst ly
 refine an Try.func61 rfl Try.ntmps61 Try.results61 rfl 2 23 (by simp) (by simp) ?_
 simp only[zX,Nat.reduceShiftRight,Nat.reduceMod,Nat.reduceLT,Nat.reduceMul,Nat.reduceSub,Int.reduceToNat,Int.reduceNeg,Int.reduceLT,Int.reduceLE,Int.reduceEq,Nat.reduceEqDiff,Nat.reduceAdd,Nat.reduceLeDiff,reduceIte,reduceCtorEq,Nat.reduceBEq,i64,bV,iD,bD]
 refine ar mix [] [(1,[0],[]),(2,[0],[]),(3,[0],[]),(8,[1],[]),(9,[1],[])] (by rfl) ?_
 simp only[zX,Nat.reduceShiftRight,Nat.reduceMod,Nat.reduceLT,Nat.reduceMul,Nat.reduceSub,Int.reduceToNat,Int.reduceNeg,Int.reduceLT,Int.reduceLE,Int.reduceEq,Nat.reduceEqDiff,Nat.reduceAdd,Nat.reduceLeDiff,reduceIte,reduceCtorEq,Nat.reduceBEq,i64,bV,iD,bD,bK,aG,cV,ez,ao,c1,c2,c3,c4,hk,hi,Int.toNat_natCast,List.length_map,List.getElem?_map,hl,hy,Option.map_some,Nat.zero_add]
 exact hb
end Go.Proofs.Ytfmdmlfhigocaaa
namespace Go.VL
open Go.RowKit
structure Tw (B:Nat) (w w':World):Prop where
 os:w'.os=w.os
 tape:w'.tape=w.tape
 output:w'.output=w.output
 size:w.heap.size<=w'.heap.size
 same:∀(b:Nat) (o:Go.Obj),w.heap[b]?=some o->vC o=false->w'.heap[b]?=some o
 low:∀b,b<B->b<w.heap.size->w'.heap[b]?=w.heap[b]?
theorem Tw.trans {B:Nat}{w w' Jm:World} (h:Tw B w w') (k:Tw B w' Jm):Tw B w Jm :=
 ⟨k.os.trans h.os,k.tape.trans h.tape,k.output.trans h.output,Nat.le_trans h.size k.size,fun b o ho hb=>k.same b o (h.same b o ho hb) hb,
  fun b h1 h2=>(k.low b h1 (Nat.lt_of_lt_of_le h2 h.size)).trans (h.low b h1 h2)⟩
theorem Tw.alloc {B:Nat} (w:World) (o:Go.Obj):Tw B w (w.alloc o) :=
 ⟨rfl,rfl,rfl,by simp,fun b o' h _=>(Below.heap_alloc w o b (de h)).trans h,fun b _ h=>Below.heap_alloc w o b h⟩
theorem Tw.put {B:Nat}{w:World}{r:Nat}{o:Go.Obj} (o':Go.Obj) (h:w.heap[r]?=some o) (ho:vC o=true) (hB:B<=r):Tw B w (w.putObj r o') :=
 ⟨rfl,rfl,rfl,by simp,fun b o2 hb h2=>by
  by_cases e:b=r
  ·subst e;rw[h]at hb;cases hb;rw[ho]at h2;cases h2
  ·exact(World.putObj_heap_other e).trans hb,
  fun b h1 _=>World.putObj_heap_other (by omega)⟩
variable {B:Nat}{w w':World}
theorem Tw.cell (h:Tw B w w') {a:Addr}{u:Value} (hc:w.cell? a=some u):w'.cell? a=some u:=by
 obtain⟨o,ho,j0⟩:=cells_of_cell hc
 have:w'.heap[a.block]?=w.heap[a.block]?:=(h.same _ o ho (by cases o <;> simp_all [Obj.isCells,vC])).trans ho.symm
 rw[World.cell?_of_block this]
 exact hc
theorem cu.tw {O:Nat->Prop} (h:Tw B w w') {x:D}{u:Value} (hr:cu O w x u):cu O w' x u:=by
 induction hr with
 |sc v hv=>exact .sc v hv
 |nil=>exact .nil
 |sl au a cap sz f h1 h2 h3 h4 _ ih=>exact .sl au a cap sz f h1 h2 h3 (fun i j x hx=>⟨h.cell (h4 i j x hx).1,(h4 i j x hx).2⟩) ih
 |el cs a f h1 h2 _ ih=>exact .el cs a f h1 (fun j x hx=>⟨h.cell (h2 j x hx).1,(h2 j x hx).2⟩) ih
 |cl h1 _ h3 _ u9 u5=>exact .cl h1 u9 h3 u5
 |ub b=>exact .ub b
theorem Bp.tw (h:Tw B w w') {b:Nat} (hc:Bp w b):Bp w' b:=by
 obtain⟨arr,E,hh⟩:=hc
 exact⟨arr,E,h.same _ _ hh rfl⟩
theorem JS.tw (h:Tw B w w') {b:Nat} (hc:JS w b):JS w' b:=by
 obtain⟨es,c,hh⟩:=hc
 exact⟨es,c,h.same _ _ hh rfl⟩
theorem vu.tw {σ:Gh} (h:Tw B w w') {id:Nat}{o:Obj}{lo n:Nat}{u:Value} (hk:vu σ w id o lo n u):vu σ w' id o lo n u:=by
 rcases hk with h1|⟨b,base,cap,E,arr,h1,h2,h3⟩
 ·exact .inl h1
 ·exact .inr ⟨b,base,cap,E,arr,h1,h.same _ _ h2 rfl,h3⟩
theorem aw.tw {σ:Gh}{s:List Obj} (h:Tw B w w') {x:V}{u:Value} (hr:aw σ s w x u):aw σ s w' x u:=by
 induction hr with
 |d hx=>exact .d (hx.tw h)
 |ag h1 h2 _ ih=>exact .ag h1 h2 ih
 |tu h1 _ ih=>exact .tu h1 ih
 |fu hx=>exact .fu (hx.tw h)
 |so o ho hg hu hk=>exact .so o ho hg hu fun he=>(hk he).tw h
 |rf o ho hg hu hk =>
  refine .rf o ho hg hu fun he=>?_
  obtain⟨b,base,k1,kc,k2⟩:=hk he
  exact⟨b,base,k1,kc.tw h,k2⟩
 |pp o ho hg hk =>
  refine .pp o ho hg fun he=>?_
  obtain⟨base,k1,kc,k2⟩:=hk he
  exact⟨base,k1,kc.tw h,k2⟩
 |mp o ho hg hu hk =>
  refine .mp o ho hg hu fun he=>?_
  obtain⟨b,k1,kc,k2⟩:=hk he
  exact⟨b,k1,kc.tw h,k2⟩
 |cap h1 _ ih=>exact .cap h1 ih
 |bx h1 h2 h3 hu _ ih=>exact .bx h1 (h.cell h2) h3 hu ih
 |cl h1 _ h3 _ u9 u5=>exact .cl h1 u9 h3 u5
 |un=>exact .un
 |any=>exact .any
theorem Inv.tw {σ:Gh}{s:List Obj} (h:Tw B w w') (hI:Inv σ s w):Inv σ s w':=by
 refine⟨fun id o ho=>?_,hI.inj,fun b hb=>Nat.lt_of_lt_of_le (hI.low b hb) h.size,hI.apart⟩
 rcases hI.content id o ho with h0|⟨b,base,arr,E,h1,h2,h3,h4,h5⟩
 ·refine .inl ?_
  rcases h0 with h0|⟨b,es,c,h1,h2,h3⟩
  ·exact .inl h0
  ·exact .inr ⟨b,es,c,h1,h.same _ _ h2 rfl,h3⟩
 ·refine .inr ⟨b,base,arr,E,h1,h.same _ _ h2 rfl,h3,h4,fun i j x hx=>?_⟩
  obtain⟨u,k1,k2,k3⟩:=h5 i j x hx
  exact⟨u,k1,k2,k3.tw h⟩
theorem dt.tw {σ:Gh}{s:List Obj}{N:Nat}{e:Nat->V}{a:Act} (h:Tw B w w') (hR:dt σ s w N e a):dt σ s w' N e a :=
 ⟨hR.1,hR.2.1,fun t=>(hR.2.2 t).tw h⟩
theorem aA.tw {σ0 σ:Gh}{s0 s:List Obj}{w0:World} (h:Tw B w w') (hB:w0.heap.size<=B) (hE:aA σ0 s0 w0 σ s w):aA σ0 s0 w0 σ s w':=by
 refine⟨h.os.trans hE.os,h.tape.trans hE.tape,h.output.trans hE.output,Nat.le_trans hE.size h.size,fun b hb ho=>?_,fun b arr E ho hh=>?_,fun b ho hm=>(hE.nk b ho hm).tw h,hE.own,hE.uY,hE.base,fun b hb hf=>?_⟩
 ·exact(h.low b (by omega) (Nat.lt_of_lt_of_le hb hE.size)).trans (hE.aR b hb ho)
 ·obtain⟨b9,h1,h2⟩:=hE.shape b arr E ho hh
  exact⟨b9,h.same _ _ h1 rfl,h2⟩
 ·exact(h.low b (by omega) (Nat.lt_of_lt_of_le hb hE.size)).trans (hE.eT b hb hf)
open Go.RowKit
theorem aA.both {σ σ':Gh}{s s':List Obj}{w w':World} (h:aA σ s w σ' s' w') {l:Nat}{o:Go.Obj} (ho:vC o=true) (h1:l<w.heap.size) (h2:l<w'.heap.size):aA σ s (w.putObj l o) σ' s' (w'.putObj l o):=by
 have key:∀b,(b≠l->w'.heap[b]?=w.heap[b]?)->(w'.putObj l o).heap[b]?=(w.putObj l o).heap[b]?:=fun b hb=>by
  by_cases e:b=l
  ·subst e;rw[World.putObj_heap_same h1,World.putObj_heap_same h2]
  ·rw[World.putObj_heap_other e,World.putObj_heap_other e];exact hb e
 refine⟨h.os,h.tape,h.output,by simpa using h.size,fun b hb hO=>key b fun _=>h.aR b (by simpa using hb) hO,fun b arr E hO hh=>?_,fun b hO hm=>?_,fun b hb=>by simpa using h.own b hb,h.uY,h.base,fun b hb hf=>key b fun _=>h.eT b (by simpa using hb) hf⟩
 ·by_cases e:b=l
  ·subst e;rw[World.putObj_heap_same h1]at hh;cases hh;cases ho
  ·rw[World.putObj_heap_other e]at hh ⊢;exact h.shape b arr E hO hh
 ·by_cases e:b=l
  ·subst e
   obtain⟨es,c,hh⟩:=hm
   rw[World.putObj_heap_same h1]at hh;cases hh;cases ho
  ·obtain⟨es,c,hh⟩:=hm
   rw[World.putObj_heap_other e]at hh
   obtain⟨XU,c',O7⟩:=h.nk b hO ⟨es,c,hh⟩
   exact⟨XU,c',by rw[World.putObj_heap_other e];exact O7⟩
def Cg (P:Program) (gf:Nat) (l6:List D) (FO:Nat) (v:Nat->Int):Prop :=
 (∀args w,(callFunc gf args).run P w=.ok (.enter gf args) w) /\
 ∀(lb:Array Value) (l:Nat) (J:Nat->World->Prop),lb.size=l6.length->(∀i W,J i W->∀j x,l6[j]?=some x->cu (fun _=>False) W x (lb.getD j undef)) ->
  (∀i W,J i W->i<FO->YieldAt (Ar none) 0 P l #[.int .i64 (v i)] W fun e W'=>e=.returned (.bool true)/\J (i+1) W') ->
  ∀W,J 0 W->CallsIn (Ar none) 0 P gf (#[.func (.yield l) #[] #[]]++lb) W fun e W'=>(∃u,e=.returned u)/\J FO W'
theorem D7 {P:Program}{N L M:Nat}{σ0:Gh}{s0:List Obj}{w0:World} (hL:s0.length<=L) {tf p:Nat}{assign body:Code}{gf:Nat}{l6:List D}{FO:Nat}{v:Nat->Int} (S0:Cg P gf l6 FO v) (I:Nat->List Obj->Prop)
  {e:Env}{s:List Obj}{σ:Gh}{w:World}{a:Act} (hE:aA σ0 s0 w0 σ s w) (hI:Inv σ s w) (hR:dt σ s w N e a) (hg:e tf=.d (.cl (.func gf) [] l6)) (hp:p<N) (h0:I 0 s)
  (hround:∀i s,i<FO->I i s->codeWp P N s.length M (.seq assign body) (fun ex _ s'=>ex=.normal/\∃xi,bI L e s' e xi/\I (i+1) xi) (bB e p (.d (.sc (.int .i64 (v i))))) s)
  {Q:Exit->Act->World->Prop} (hQ:∀(D:Nat) (w':World) (σ':Gh) (s':List Obj),w0.heap.size<=D->w'.heap[D]?=some (.deferred (some []))->aA σ0 s0 w0 σ' s' w'->Inv σ' s' w'->dt σ' s' w' N e a->I FO s' ->
   Q .normal (Act.wD a [{ target:=.collected D,args:=#[] }]) w') :
  (Code.rangeFunc (.tmp tf) #[p] assign body).wpIn (Ar none) 0 P Q a w:=by
 have iJ:∀{σ:Gh}{s:List Obj}{w:World},dt σ s w N e a->∃lb:Array Value,a.eval (.tmp tf)=.func (.func gf) #[] lb/\lb.size=l6.length/\∀j x,l6[j]?=some x->cu (fun _=>False) w x (lb.getD j undef):=by
  intro σ s w hR
  have h:=hR.2.2 tf
  rw[hg]at h
  show ∃lb,a.tmps.getD tf undef=_/\_
  generalize a.tmps.getD tf undef=u at h
  cases h with|d h=>?_
  cases h with|@cl _ _ _ f' c' h1 h2 h3 h4=>?_
  have:f'=#[]:=Array.eq_empty_of_size_eq_zero (by simpa using h1)
  subst this
  exact⟨c',rfl,h3,fun j x hx=>(h4 j x hx).own fun _ hf=>hf.elim⟩
 obtain⟨lb,IG,UQ,_⟩:=iJ hR
 refine wpIn_rangeFunc ?_
 intro fn Qz
 obtain⟨rec,rN⟩:∃rec:LoopState->Option Code->Loop,rec=fun st pe=>{ state:=st,pending:=pe,fn,tmps:=a.tmps,params:=#[p],assign,body,defers:=w.heap.size }:=⟨_,rfl⟩
 obtain⟨W1,Tv⟩:∃W1,(w.alloc (.deferred (some []))).alloc (.loop (rec .ready none))=W1:=⟨_,rfl⟩
 have XO:W1.heap[w.heap.size+1]?=some (.loop (rec .ready none)):=by
  rw[<- Tv];have:=World.alloc_heap_new (w.alloc (.deferred (some []))) (.loop (rec .ready none));rwa [World.size_alloc]at this
 have NU:W1.heap[w.heap.size]?=some (.deferred (some [])):=by
  rw[<- Tv];exact(Below.heap_alloc _ _ _ (by simp)).trans (World.alloc_heap_new w _)
 have T2:Tw w0.heap.size w W1:=by rw[<- Tv];exact(Tw.alloc _ _).trans (Tw.alloc _ _)
 have fo:=hE.size
 refine⟨w.heap.size+1,[{ target:=.collected w.heap.size,args:=#[] }],W1,{ target:=.fn (.func gf) lb,args:=#[.func (.yield (w.heap.size+1)) #[] #[]] },W1,gf,
  #[.func (.yield (w.heap.size+1)) #[] #[]]++lb,W1,?_,?_,?_,?_,fun h=>by simp [Ar,Fence.wide]at h,?_⟩
 ·rw[<- Tv,rN];exact run_enterLoop_outer _ _ _ _ _
 ·simp only[resolve,IG]
  simp [go_sem]
 ·intro f' Zn;exact trivial
 ·simp [invoke,go_sem,S0.1]
 refine((S0.2 lb (w.heap.size+1) (fun i W=>∃σ s,aA σ0 s0 w0 σ s W/\Inv σ s W/\dt σ s W N e a/\I i s/\W.heap[w.heap.size+1]?=some (.loop (rec .ready none))/\W.heap[w.heap.size]?=some (.deferred (some []))) UQ
  (fun i W ⟨σ,s,_,_,hR,_⟩=>by
   obtain⟨ZG,h1,_,h3⟩:=iJ hR
   rw[IG]at h1;cases h1;exact h3) ?_ W1 ⟨σ,s,hE.tw T2 (Nat.le_refl _),hI.tw T2,hR.tw T2,h0,XO,NU⟩)).mono ?_
 ·
  rintro i W ⟨σ1,s1,Lj,MD,Ms,hi,hl,hk⟩ az
  have hy:=run_yield (P:=P) (args:=#[.int .i64 (v i)]) hl (by rw[rN];rfl)
  have T1:w.heap.size+1<W.heap.size:=de hl
  have YV:vC (.loop { rec .ready none with state:=.busy })=true:=rfl
  have u4:rec .ready none={ state:=.ready,pending:=none,fn,tmps:=a.tmps,params:=#[p],assign,body,defers:=w.heap.size }:=by rw[rN]
  rw[rN]at hy
  refine⟨fn,_,assign,body,hy,roundIn_of_wpIn Qz ?_⟩
  have hd:=hround i s1 az hi
  have Ql:dt σ1 s1 W N (bB e p (.d (.sc (.int .i64 (v i))))) (a.put (some p) (.int .i64 (v i))):=dt.put Ms (d:=some p) hp (.d (.sc _ rfl))
  have hs:=bY (L:=s1.length) (M:=M) (Nat.le_refl _) assign _ _ s1 σ1 W _ (.refl _ _ _) MD Ql hd (some (w.heap.size+1)) []
  have Vh:({ tmps:=(#[p].zip #[Value.int .i64 (v i)]).foldl (fun t (p,v)=>t.setIfInBounds p v) a.tmps,defers:=[] }:Act)=Act.wD (a.put (some p) (.int .i64 (v i))) []:=by
   simp [Act.wD,Act.put]
  simp only at hy ⊢
  rw[Vh]
  refine wpIn_mono (F:=Ar (some (w.heap.size+1))) hs ?_
  rintro ex a1 w1 ⟨np,z0,e1,σ2,s2,zE,N6,Uw,hq⟩
  cases ex with
  |normal =>
   have zw:=z0 _ _ hl rfl
   have SE:=de zw
   refine⟨_,run_beginRound zw (by rw[rN]),?_⟩
   have WE:∀B,B<=w.heap.size+1->Tw B w1 (w1.putObj (w.heap.size+1) (.loop { rec .ready none with state:=.busy })):=fun B hB=>.put _ zw rfl hB
   have W9:∀B,B<=w.heap.size+1->Tw B W (W.putObj (w.heap.size+1) (.loop { rec .ready none with state:=.busy })):=fun B hB=>.put _ hl rfl hB
   have OL:=bY (L:=s1.length) (M:=M) (Nat.le_refl _) body _ e1 s2 σ2 _ _ (zE.both YV T1 SE) (N6.tw (WE 0 (by omega))) (Uw.tw (WE 0 (by omega))) hq (some (w.heap.size+1)) []
   rw[KD np]at OL
   refine wpIn_mono (F:=Ar (some (w.heap.size+1))) OL ?_
   rintro ex a2 w3 ⟨VH,F8,e3,σ3,s3,TG,VN,WL,rfl,s4,hc,XH⟩
   have NI:=F8 _ _ (World.putObj_heap_same SE) rfl
   have BZ:=F8 _ _ ((World.putObj_heap_other (by omega)).trans (z0 _ _ hk rfl)) rfl
   have UO:=de NI
   refine⟨_,_,run_endRound none NI,rfl,?_⟩
   have Ub:∀B,B<=w.heap.size+1->Tw B w3 (w3.putObj (w.heap.size+1) (.loop (rec .ready none))):=fun B hB=>.put _ NI rfl hB
   have T9:({ ({ rec .ready none with state:=.busy }:Loop) with state:=if (none:Option Code).isNone then .ready else .done,pending:=none }:Loop)=rec .ready none:=by rw[rN];rfl
   rw[T9]
   have Y5:aA σ0 s0 w0 σ3 s3 w3:=(Lj.tw (W9 w0.heap.size (by omega)) (Nat.le_refl _)).trans TG
   have Yr:dt σ3 s3 w3 N e a:=(Ms.tw (W9 0 (by omega))).aO TG
   obtain⟨σ4,k1,k2,k3⟩:=hc σ0 s0 w0 σ3 _ N a hL (Y5.tw (Ub w0.heap.size (by omega)) (Nat.le_refl _)) (VN.tw (Ub 0 (by omega))) (Yr.tw (Ub 0 (by omega)))
   exact⟨σ4,s4,k1,k2,k3,XH,World.putObj_heap_same UO,(World.putObj_heap_other (by omega)).trans BZ⟩
  |exit id=>exact absurd hq.1 (by simp)
  |goto t=>exact absurd hq.1 (by simp)
  |ret=>exact absurd hq.1 (by simp)
  |panic c=>exact absurd hq.1 (by simp)
  |outgrown=>exact absurd hq.1 (by simp)
 ·
  rintro e2 w2 ⟨⟨u,rfl⟩,σ2,s2,zE,N6,Ql,hi,hl,hk⟩
  have OT:=de hl
  have hT:∀B,B<=w.heap.size+1->Tw B w2 (w2.putObj (w.heap.size+1) (.loop { rec .ready none with state:=.exhausted })):=fun B hB=>.put _ hl rfl hB
  have ct:(rec .ready none).state≠.busy:=by rw[rN];intro h;cases h
  have RX:(rec .ready none).pending=none:=by rw[rN]
  have zQ:=run_endLoop (P:=P) hl ct
  refine⟨none,w2.putObj (w.heap.size+1) (.loop { rec .ready none with state:=.exhausted }),by rw[zQ];exact congrArg (fun x=>Result.ok x _) RX,?_⟩
  have:=hQ w.heap.size _ σ2 s2 fo ((World.putObj_heap_other (by omega)).trans hk) (zE.tw (hT w0.heap.size (by omega)) (Nat.le_refl _)) (N6.tw (hT 0 (by omega))) (Ql.tw (hT 0 (by omega))) hi
  have ha:({ a with defers:=[{ target:=.collected w.heap.size,args:=#[] }]++a.defers }:Act)=Act.wD a [{ target:=.collected w.heap.size,args:=#[] }]:=by
   rw[hR.1];rfl
  rw[ha]
  exact this
open Go.RowKit
def oM (P:Program) (N L M:Nat) (g:Operand) (ps:Array Tmp) (assign body:Code) (e:Env) (s:List Obj) (K:Env->List Obj->Prop):Prop :=
 ∃(tf p gf:Nat) (l6:List D) (FO:Nat) (v:Nat->Int) (I:Nat->List Obj->Prop) (e1:Env) (s1:List Obj),g=.tmp tf/\ps=#[p]/\p<N/\e1 tf=.d (.cl (.func gf) [] l6)/\Cg P gf l6 FO v/\bI L e s e1 s1/\I 0 s1 /\
  (∀i s,i<FO->I i s->codeWp P N s.length M (.seq assign body) (fun ex _ s'=>ex=.normal/\∃xi,bI L e1 s' e1 xi/\I (i+1) xi) (bB e1 p (.d (.sc (.int .i64 (v i))))) s)/\∀s,I FO s->K e1 s
theorem oM.of {P:Program}{N L M:Nat}{g:Operand}{ps:Array Tmp}{assign body:Code}{e:Env}{s:List Obj}{K:Env->List Obj->Prop} (tf p gf:Nat) (l6:List D) (FO:Nat) (v:Nat->Int) (I:Nat->List Obj->Prop) (F:Env->Prop)
  (hg:g=.tmp tf) (pg:ps=#[p]) (hp:p<N) (hi:Cg P gf l6 FO v) (h0:∃e1 s1,bI L e s e1 s1/\e1 tf=.d (.cl (.func gf) [] l6)/\F e1/\I 0 s1)
  (h:∀e1,F e1->∀i s,i<FO->I i s->codeWp P N s.length M (.seq assign body) (fun ex _ s'=>ex=.normal/\∃xi,bI L e1 s' e1 xi/\I (i+1) xi) (bB e1 p (.d (.sc (.int .i64 (v i))))) s)
  (hK:∀e1,F e1->∀s,I FO s->K e1 s):oM P N L M g ps assign body e s K:=by
 obtain⟨e1,s1,h1,h2,h3,h4⟩:=h0
 exact⟨tf,p,gf,l6,FO,v,I,e1,s1,hg,pg,hp,h2,hi,h1,h4,h e1 h3,hK e1 h3⟩
def m8 (P:Program) (N L M:Nat):Code->(Exit->Env->List Obj->Prop)->Env->List Obj->Prop
 |.seq x y,Q,e,s=>match x with
  |.seq x1 (.block _ (.rangeFunc g ps assign body))=>codeWp P N L M x1 (fun ex e s=>ex=.normal/\oM P N L M g ps assign body e s fun e s=>codeWp P N s.length M y Q e s) e s
  |x=>codeWp P N L M x (fun ex e s=>ex=.normal/\m8 P N L M y Q e s) e s
 |_,_,_,_=>False
def GK (P:Program) (N L M:Nat) (y:Code) (Q:Exit->Env->List Obj->Prop) (ex:Exit) (e:Env) (s:List Obj):Prop:=ex=.normal/\m8 P N L M y Q e s
def RK (P:Program) (N L M:Nat) (g:Operand) (ps:Array Tmp) (assign body y:Code) (Q:Exit->Env->List Obj->Prop) (ex:Exit) (e:Env) (s:List Obj):Prop:=ex=.normal/\oM P N L M g ps assign body e s fun e s=>codeWp P N s.length M y Q e s
theorem ny {P:Program}{N L M:Nat}{y:Code}{Q:Exit->Env->List Obj->Prop}{e:Env}{s:List Obj}:GK P N L M y Q .normal e s=m8 P N L M y Q e s:=propext ⟨fun h=>h.2,fun h=>⟨rfl,h⟩⟩
theorem ri {P:Program}{N L M:Nat}{g:Operand}{ps:Array Tmp}{assign body y:Code}{Q:Exit->Env->List Obj->Prop}{e:Env}{s:List Obj}:RK P N L M g ps assign body y Q .normal e s=oM P N L M g ps assign body e s fun e s=>codeWp P N s.length M y Q e s:=propext ⟨fun h=>h.2,fun h=>⟨rfl,h⟩⟩
theorem gv {P:Program}{N L M:Nat}{id:Nat}{ops:Array Oper}{dr:Bool}{y:Code}{Q:Exit->Env->List Obj->Prop}{e:Env}{s:List Obj} :
  m8 P N L M (.seq (.region id ops dr) y) Q e s=codeWp P N L M (.region id ops dr) (GK P N L M y Q) e s:=(rfl)
theorem ks {P:Program}{N L M:Nat}{i:Nat}{x1 assign body y:Code}{g:Operand}{ps:Array Tmp}{Q:Exit->Env->List Obj->Prop}{e:Env}{s:List Obj} :
  m8 P N L M (.seq (.seq x1 (.block i (.rangeFunc g ps assign body))) y) Q e s=codeWp P N L M x1 (RK P N L M g ps assign body y Q) e s:=(rfl)
def QG (σ0:Gh) (s0:List Obj) (w0:World) (N:Nat) (Q:Exit->Env->List Obj->Prop):Exit->Act->World->Prop :=
 fun ex a w=>∃D:Nat,w0.heap.size<=D/\a.defers=[{ target:=.collected D,args:=#[] }]/\w.heap[D]?=some (.deferred (some []))/\QX σ0 s0 w0 N Q ex (Act.wD a []) w
theorem r8 {P:Program}{N L M:Nat}{σ0:Gh}{s0:List Obj}{w0:World} (hL:s0.length<=L):∀(c:Code) (Q:Exit->Env->List Obj->Prop) (e:Env) (s:List Obj) (σ:Gh) (w:World) (a:Act),
  aA σ0 s0 w0 σ s w->Inv σ s w->dt σ s w N e a->m8 P N L M c Q e s->c.wpIn (Ar none) 0 P (QG σ0 s0 w0 N Q) a w
 |.seq x y,Q,e,s,σ,w,a,hE,hI,hR,h=>by
  simp only[m8]at h
  split at h
  ·rename_i x1 i g ps assign body
   refine wpIn_seq (wpIn_seq ?_)
   have h1:=bY hL x1 _ e s σ w a hE hI hR h none []
   rw[pA hR.1]at h1
   refine wpIn_mono h1 ?_
   rintro ex a1 w1 ⟨np,_,e1,σ1,s1,Lj,MD,Ms,rfl,hr⟩
   rw[pA np]at Ms
   obtain⟨tf,p,gf,l6,FO,v,I,e2,s2,rfl,rfl,hp,hg,S0,hc,h0,hround,hK⟩:=hr
   obtain⟨σ2,zE,N6,Ql⟩:=hc σ0 s0 w0 σ1 w1 N a1 hL Lj MD Ms
   refine wpIn_block (D7 hL S0 I zE N6 Ql hg hp h0 hround ?_)
   intro D w3 σ3 s3 hD hH TG VN Uw hi
   have h3:=bY (L:=s3.length) (Nat.le_refl _) y Q e2 s3 σ3 w3 a1 (.refl _ _ _) VN Uw (hK s3 hi) none [{ target:=.collected D,args:=#[] }]
   refine wpIn_mono h3 ?_
   rintro ex a4 w4 ⟨WK,W2,e4,σ4,s4,Yb,Za,WL,hq⟩
   exact⟨D,hD,WK,W2 _ _ hH rfl,e4,σ4,s4,TG.trans Yb,Za,WL,hq⟩
  ·refine wpIn_seq ?_
   have h1:=bY hL x _ e s σ w a hE hI hR h none []
   rw[pA hR.1]at h1
   refine wpIn_mono h1 ?_
   rintro ex a1 w1 ⟨np,_,e1,σ1,s1,Lj,MD,Ms,rfl,hr⟩
   rw[pA np]at Ms
   exact r8 hL y Q e1 s1 σ1 w1 a1 Lj MD Ms hr
 |.skip,_,_,_,_,_,_,_,_,_,h=>h.elim
 |.region ..,_,_,_,_,_,_,_,_,_,h=>h.elim
 |.cond ..,_,_,_,_,_,_,_,_,_,h=>h.elim
 |.block ..,_,_,_,_,_,_,_,_,_,h=>h.elim
 |.loop ..,_,_,_,_,_,_,_,_,_,h=>h.elim
 |.exit ..,_,_,_,_,_,_,_,_,_,h=>h.elim
 |.ret,_,_,_,_,_,_,_,_,_,h=>h.elim
 |.rangeFunc ..,_,_,_,_,_,_,_,_,_,h=>h.elim
 |.scope _,_,_,_,_,_,_,_,_,_,h=>h.elim
 |.label _,_,_,_,_,_,_,_,_,_,h=>h.elim
 |.goto _,_,_,_,_,_,_,_,_,_,h=>h.elim
 |.refuse _,_,_,_,_,_,_,_,_,_,h=>h.elim
theorem Hh {P : Program} {f : FuncId} {fn : Func} {c : Code} {args : List V} {exts : List Obj} {K : V → List Obj → Prop} (hf : P.funcs[f]? = some fn) (hb : fn.body = some c) {N : Nat} (hN : fn.ntmps = N) {rs : Array ResultVar} (Pp : fn.results = rs) (hn : (fn.name != "runtime.NumGoroutine") = true)
  (lim M:Nat) (hl:exts.length<=lim) (ha:args.length<=N)
  (h:m8 P N lim M c (Bw P rs.toList lim K) (ie args) exts):aq P f args exts K:=by
 subst hN;subst Pp
 refine⟨by simp only[G7,hf,hn,hb,Option.isSome_some,Bool.and_self],fun σ w vals hI PV hv=>?_⟩
 refine callsIn_wide.1 (callsIn_of_wp_marks (F:=Fence.wide) (n:=0) hf hb trivial ?_ rfl)
 have hR:dt σ exts w fn.ntmps (ie args) { tmps:=vals++Array.replicate (fn.ntmps-vals.size) undef,defers:=[] }:=by
  refine⟨rfl,by simp;omega,fun t=>?_⟩
  rw[nO]
  by_cases ht:t<args.length
  ·have h1:=hv t args[t] (by simp [ht])
   have:(vals++Array.replicate (fn.ntmps-vals.size) undef).getD t undef=vals.getD t undef:=by
    rw[Array.getD_eq_getD_getElem?,Array.getElem?_append_left (by omega),Array.getD_eq_getD_getElem?]
   rw[this]
   simpa [ht]using h1
  ·have:(vals++Array.replicate (fn.ntmps-vals.size) undef).getD t undef=undef:=by
    rw[Array.getD_eq_getD_getElem?,Array.getElem?_append_right (by omega),Array.getElem?_replicate]
    split <;> rfl
   rw[this]
   simp [ht]
   exact .un
 refine wpIn_mono (F:=Ar none) (r8 hl c _ (ie args) exts σ w _ (aA.refl _ _ _) hI hR h) ?_
 rintro ex a' w' ⟨D,hD,hd,hH,e',σ',s',hE,im,nI,hex,hq⟩
 have hT:Tw w.heap.size w' (w'.putObj D (.deferred none)):=.put _ hH rfl hD
 have zE:=hE.tw hT (Nat.le_refl _)
 have N6:=im.tw hT
 obtain⟨v,u,k1,k2,k3⟩:=my N6 (nI.tw hT) hq
 obtain⟨aR,h0,hK⟩:=k3
 obtain⟨h1,h2,h3⟩:=qc h0
 have fin:LeavesInM Fence.wide 0 P fn a'.tmps (fun e Jm=>∃u v σ' s',e=.returned u/\aA σ exts w σ' s' Jm/\Inv σ' s' Jm/\aw σ' s' Jm v u/\K v s') a'.defers .returning w':=by
  rw[hd]
  refine⟨by simp,.inl ⟨D,_,rfl,run_takeDeferred hH,?_⟩⟩
  exact⟨u,k1,u,_,_,_,rfl,zE.zx h2 (fun id cL=>h3 id (by omega)),N6.zx h2 h1,k2.zx h2,hK⟩
 rcases rI hex with rfl|rfl
 ·exact fin
 ·exact fin
theorem bZ.M0 {e:Env}{s:List Obj}{o:Obj}{v:V} (k t:Nat) (he:e t=.rf k o.g 0 0) (ho:s[k]?=some o) (hl:o.live=true) (fv:o.au=[[v]]):bZ e s (bB e t (.bx v)) (bS s k):=by
 intro σ0 s0 w0 σ w N a hE hI hR
 obtain⟨h1,h2⟩:=qa hI k
 refine⟨σ,hE.trans h1,h2,hR.1,hR.2.1,fun t'=>?_⟩
 unfold bB
 split
 ·rename_i ht
  subst ht
  have hr:=hR.2.2 t'
  rw[he]at hr
  generalize a.tmps.getD t' undef=u at hr
  cases hr with|rf o' gE hg hu hk=>?_
  rw[ho]at gE;cases gE
  obtain⟨b,base,hs,hc,rfl⟩:=hk rfl
  rcases hI.content k o ho with h0|⟨b',bp,arr,E,k1,k2,k3,k4,k5⟩
  ·exact(h0.xr hs hc).elim
  rw[hs]at k1;cases k1
  obtain⟨u',g1,g2,g3⟩:=k5 0 0 v (by rw[fv];rfl)
  have nL:w.cell? ⟨b,base+0*o.sz+0,none⟩=some u':=by
   simp only[World.cell?,k2]
   simpa using g1
  refine .bx rfl nL ?_ g2 (g3.aO h1)
  rintro (hb|⟨id,o2,wW,l1,l2,l3⟩)
  ·exact hI.apart k o b base ho hs hb
  ·obtain⟨o3,m1,_,_,_,m5⟩:=hU l1
   have:id=k:=hI.inj id k o3 o b wW base m1 ho (m5 l2) l3 hs
   subst this
   unfold bS at l1
   rw[ho]at l1
   simp only at l1
   rw[List.getElem?_set_self (List.getElem?_eq_some_iff.1 ho).1]at l1
   cases l1
   cases l2
 ·exact(hR.2.2 t').aO h1
end Go.VL
