/- A part of the proof (G23 G33 O4 Vra Vrb Vrc Vrd). -/
import Derived.RangeFuncLeaves
import Derived.RangeFuncKeeps
import Derived.Test.YtfmdmlfhigocaaaON6
import Derived.Test.YtfmdmlfhigocaaaON11
import Derived.Test.YtfmdmlfhigocaaaON12
import Derived.Test.YtfmdmlfhigocaaaON14
import Derived.Test.YtfmdmlfhigocaaaON15
import Derived.Test.YtfmdmlfhigocaaaON26
set_option linter.unusedSimpArgs false
set_option linter.unusedVariables false
open Nat renaming reduceShiftRight → cQ, reduceMod → dx, reduceLT → dB, reduceMul → dC, reduceSub → dD, reduceEqDiff → eI, reduceAdd → eJ, reduceLeDiff → fX, reduceBEq → gj
open Int renaming reduceToNat → gl, reduceNeg → ja, reduceLT → jg, reduceLE → jk, reduceEq → mA
set_option maxRecDepth 100000
set_option maxHeartbeats 80000000
namespace Go.Proofs.Ytfmdmlfhigocaaa
open Go.VL Go.Proofs.Try
def PZ.same (m:PZ):Prop:=m.So=true->m.own=m.t
instance (m:PZ):Decidable m.same:=by unfold PZ.same;infer_instance
def PZ.qi (m:PZ) (p:KM):Prop:=(0<=m.steps/\m.steps<=10000000000000/\m.top<=m.stk.length/\m.top<=1200000000000)/\(0<=p.at_/\p.at_<=m.t.length/\p.ak.length<=1000000000)/\m.t.length<=1000000/\m.same
instance (m:PZ) (p:KM):Decidable (m.qi p):=by unfold PZ.qi;infer_instance
theorem JB (x:Int):aO prog 86 [i64 x] (bV (rE x)):=by
 refine an func86 rfl ntmps86 results86 rfl 0 5 (by simp) (by simp) ?_;simp only[zX,simprocAttr,i64]
 repeat' (first
 |(with_reducible refine And.intro (by first|omega|exact⟨by omega,by omega⟩|(simp;done)) ?_)
 |(with_reducible first|refine kB (λhc=>?_) (λhc=>?_)|refine dM (λhc=>?_) (λhc=>?_)|refine dL (λhc=>?_) (λhc=>?_)|refine cX (λhc=>?_) (λhc=>?_)|refine cW (λhc=>?_) (λhc=>?_)|refine g8 (λhc=>?_) (λhc=>?_)|refine dG (λhc=>?_) (λhc=>?_))<;>simp only[zX,simprocAttr,i64,ge_iff_le,hc])
 all_goals (simp only[rE,bV];simp [*];try omega)
theorem Ol (n:Int) (t:List Int) (i:Int) (gp:0<=n) (RJ:n<=5) (ht:t.length<=1000000) (h0:0<=i) (h1:i<=t.length):aO prog 60 [i64 n,.d (al t),i64 i] (bV (bX n t i)):=by
 have w1:IntKind.i64.wrap (i-1)=i-1:=bd _ (by omega);have hw:=JB (n7 t (i-1));have Ur:=JB (n7 t i);simp only[i64,bV]at hw Ur;have u1:¬i<0:=by omega
 have u2:¬(t.length:Int)<i:=by omega
 have XU:0<i->t[(i-1).toNat]?=some (n7 t (i-1)):=λh=>rp (by omega) (by omega);have Wz:i<t.length->t[i.toNat]?=some (n7 t i):=λh=>rp h0 h;have rM:n=0\/n=1\/n=2\/n=3\/n=4\/n=5:=by omega
 rcases rM with rfl|rfl|rfl|rfl|rfl|rfl
 ·refine an func60 rfl ntmps60 results60 rfl 0 9007199254872519 (by simp) (by simp) ?_;simp only[zX,simprocAttr,i64,iD,al,u1,u2,gt_iff_lt];simp [bX,bV]
 ·refine an func60 rfl ntmps60 results60 rfl 0 9007199254872519 (by simp) (by simp) ?_;simp only[zX,simprocAttr,i64,iD,al,u1,u2,gt_iff_lt];simp [bX,bV]
 ·by_cases c:i=0
  ·have e:=eq_true c;refine an func60 rfl ntmps60 results60 rfl 0 9007199254872519 (by simp) (by simp) ?_;simp only[zX,simprocAttr,i64,iD,al,u1,u2,gt_iff_lt,e];simp [bX,bV,c]
  ·have b1:0<=i-1:=by omega
   have b2:i-1<(t.length:Int):=by omega
   have g1:=XU (by omega);refine an func60 rfl ntmps60 results60 rfl 0 9007199254872519 (by simp) (by simp) ?_;simp only[zX,simprocAttr,i64,iD,al,u1,u2,gt_iff_lt,c,w1,b1,b2,g1];simp [bX,bV,c]
 ·by_cases c:i=(t.length:Int)
  ·have e:=eq_true c;refine an func60 rfl ntmps60 results60 rfl 0 9007199254872519 (by simp) (by simp) ?_;simp only[zX,simprocAttr,i64,iD,al,u1,u2,gt_iff_lt,e];simp [bX,bV,c]
  ·have b2:i<(t.length:Int):=by omega
   have g2:=Wz b2;refine an func60 rfl ntmps60 results60 rfl 0 9007199254872519 (by simp) (by simp) ?_;simp only[zX,simprocAttr,i64,iD,al,u1,u2,gt_iff_lt,c,h0,b2,g2];simp [bX,bV,c]
 all_goals
  by_cases c1:0<i
  ·have b1:0<=i-1:=by omega
   have b2:i-1<(t.length:Int):=by omega
   have g1:=XU c1;by_cases c2:i<(t.length:Int)
   ·have g2:=Wz c2;refine an func60 rfl ntmps60 results60 rfl 0 9007199254872519 (by simp) (by simp) ?_;simp only[zX,simprocAttr,i64,iD,al,u1,u2,gt_iff_lt,c1,c2,w1,b1,b2,g1,g2,h0];refine aj hw rfl rfl ?_;simp only[zX,simprocAttr,i64,iD,al,u1,u2,gt_iff_lt,c1,c2,w1,b1,b2,g1,g2,h0];refine aj Ur rfl rfl ?_;simp only[zX,simprocAttr,i64,iD,al,u1,u2,gt_iff_lt,c1,c2,w1,b1,b2,g1,g2,h0];simp [bX,bV,oL,lj,c1,c2] <;> (cases rE (n7 t (i-1)) <;> cases rE (n7 t i) <;> rfl)
   ·refine an func60 rfl ntmps60 results60 rfl 0 9007199254872519 (by simp) (by simp) ?_;simp only[zX,simprocAttr,i64,iD,al,u1,u2,gt_iff_lt,c1,c2,w1,b1,b2,g1,h0];refine aj hw rfl rfl ?_;simp only[zX,simprocAttr,i64,iD,al,u1,u2,gt_iff_lt,c1,c2,w1,b1,b2,g1,h0];simp [bX,bV,oL,lj,c1,c2]
  ·by_cases c2:i<(t.length:Int)
   ·have g2:=Wz c2;refine an func60 rfl ntmps60 results60 rfl 0 9007199254872519 (by simp) (by simp) ?_;simp only[zX,simprocAttr,i64,iD,al,u1,u2,gt_iff_lt,c1,c2,g2,h0];refine aj Ur rfl rfl ?_;simp only[zX,simprocAttr,i64,iD,al,u1,u2,gt_iff_lt,c1,c2,g2,h0];simp [bX,bV,oL,lj,c1,c2]
   ·refine an func60 rfl ntmps60 results60 rfl 0 9007199254872519 (by simp) (by simp) ?_;simp only[zX,simprocAttr,i64,iD,al,u1,u2,gt_iff_lt,c1,c2,h0];simp [bX,bV,oL,lj,c1,c2]
theorem BC (t:List Int) (root parts:D) (bg nb:Nat) (Bs:List (List Bool)) (b a:Nat) (re:Re) (k:Nat) (i:Int) (h0:0<=i) (fx:re.set.length<=1000000) (ht:t.length<=1000000) :
  aq Try.prog 57 [i64 i,.bx (.pp 0 0 0 0 b a),.bx (.d (re.bj k))] [dp t root parts bg nb,fr bg Bs] λv s=>v=bV (decide (i<t.length)&&E3 re.set (n7 t i))/\s=[dp t root parts bg nb,fr bg Bs]:=by
 have hh:=St re.set (n7 t i) (by omega);have hb:=gr 2 bg Bs;rw[Re.dV];by_cases az:i<(t.length:Int)
 ·have hn:i.toNat<t.length:=by omega
  have hg:t[i.toNat]?=some (n7 t i):=by unfold n7;rw[af9,afP hn];rfl
  refine an Try.func57 rfl Try.ntmps57 Try.results57 rfl 2 23 (by simp) (by simp) ?_;simp only[zX,cQ,dx,dB,dC,dD,gl,ja,jg,jk,mA,eI,eJ,fX,reduceIte,reduceCtorEq,gj,i64,bV,iD,bD];refine ar mix [] [(2,[0],[]),(3,[0],[]),(4,[0],[]),(14,[0],[]),(15,[0],[]),(16,[0],[])] (by rfl) ?_;simp only[zX,cQ,dx,dB,dC,dD,gl,ja,jg,jk,mA,eI,eJ,fX,reduceIte,reduceCtorEq,gj,i64,bV,iD,bD,bU,aP,dp,al,afN,az,h0,hn,hg,afO,afV];refine bp hh rfl rfl ?_;simp only[zX,cQ,dx,dB,dC,dD,gl,ja,jg,jk,mA,eI,eJ,fX,reduceIte,reduceCtorEq,gj,i64,bV,iD,bD,bU,aP,dp,al,afN,az,h0,hn,hg,afO,afV,hb]
 ·refine an Try.func57 rfl Try.ntmps57 Try.results57 rfl 2 23 (by simp) (by simp) ?_;simp only[zX,cQ,dx,dB,dC,dD,gl,ja,jg,jk,mA,eI,eJ,fX,reduceIte,reduceCtorEq,gj,i64,bV,iD,bD];refine ar mix [] [(2,[0],[]),(3,[0],[]),(4,[0],[]),(14,[0],[]),(15,[0],[]),(16,[0],[])] (by rfl) ?_;simp only[zX,cQ,dx,dB,dC,dD,gl,ja,jg,jk,mA,eI,eJ,fX,reduceIte,reduceCtorEq,gj,i64,bV,iD,bD,bU,aP,dp,al,afN,az,h0,hb];rfl
theorem vz (t:List Int) (root parts:D) (bg nb:Nat) (Bs:List (List Bool)) (b a:Nat) (re:Re) (k:Nat) (i:Int) (h0:0<=i) (h1:i<=t.length) (gp:0<=re.n) (RJ:re.n<=5) (ht:t.length<=1000000) :
  aq Try.prog 59 [i64 i,.bx (.d (re.bj k)),.bx (.pp 0 0 0 0 b a)] [dp t root parts bg nb,fr bg Bs] λv s=>v=bV (bX re.n t i)/\s=[dp t root parts bg nb,fr bg Bs]:=by
 have hh:=Ol re.n t i gp RJ ht h0 h1;have hb:=gr 2 bg Bs;rw[Re.dV];refine an Try.func59 rfl Try.ntmps59 Try.results59 rfl 2 23 (by simp) (by simp) ?_;simp only[zX,cQ,dx,dB,dC,dD,gl,ja,jg,jk,mA,eI,eJ,fX,reduceIte,reduceCtorEq,gj,i64,bV,iD,bD];refine ar mix [] [(6,[0],[]),(7,[0],[]),(8,[0],[])] (by rfl) ?_;simp only[zX,cQ,dx,dB,dC,dD,gl,ja,jg,jk,mA,eI,eJ,fX,reduceIte,reduceCtorEq,gj,i64,bV,iD,bD,bU,aP,dp,al];refine bp hh rfl rfl ?_;simp only[zX,cQ,dx,dB,dC,dD,gl,ja,jg,jk,mA,eI,eJ,fX,reduceIte,reduceCtorEq,gj,i64,bV,iD,bD,bU,aP,dp,al,hb]
theorem zw (t:List Int) (root parts:D) (bg nb:Nat) (Bs:List (List Bool)) (b a:Nat) (re:Re) (k:Nat) (i:Nat) (nr:nb=Bs.length) {l:List Bool}{y:Bool} (hl:Bs[k]?=some l) (hy:l[i]?=some y) :
  aq Try.prog 61 [i64 i,.bx (.pp 0 0 0 0 b a),.bx (.d (re.bj k))] [dp t root parts bg nb,fr bg Bs] λv s=>v=bV y/\s=[dp t root parts bg nb,fr bg Bs]:=by
 have hb:((Bs.map λl=>[V.d (D.sl (l.map λb=>[D.sc (Value.bool b)]))]).all λe=>e.all (ah 2))=true:=gr 2 bg Bs;have hk:k<Bs.length:=(List.getElem?_eq_some_iff.1 hl).1;have hi:i<l.length:=(List.getElem?_eq_some_iff.1 hy).1;have c1:(k:Int)<(Bs.length:Int):=by omega
 have c2:(i:Int)<(l.length:Int):=by omega
 have c3:(0:Int)<=(k:Int):=by omega
 have c4:(0:Int)<=(i:Int):=by omega
 rw[Re.dV];subst nr;refine an Try.func61 rfl Try.ntmps61 Try.results61 rfl 2 23 (by simp) (by simp) ?_;simp only[zX,cQ,dx,dB,dC,dD,gl,ja,jg,jk,mA,eI,eJ,fX,reduceIte,reduceCtorEq,gj,i64,bV,iD,bD];refine ar mix [] [(1,[0],[]),(2,[0],[]),(3,[0],[]),(8,[1],[]),(9,[1],[])] (by rfl) ?_;simp only[zX,cQ,dx,dB,dC,dD,gl,ja,jg,jk,mA,eI,eJ,fX,reduceIte,reduceCtorEq,gj,i64,bV,iD,bD,bU,aP,dp,fr,al,c1,c2,c3,c4,hk,hi,afT,afN,afO,hl,hy,afV,afX];exact hb
end Go.Proofs.Ytfmdmlfhigocaaa
namespace Go.VL
open Go.RowKit
variable{B:Nat}{w:World}
structure Tw (B:Nat) (w w':World):Prop where
 os:w'.os=w.os
 tape:w'.tape=w.tape
 output:w'.output=w.output
 size:w.heap.size<=w'.heap.size
 same:∀(b:Nat) (o:Go.Obj),w.heap[b]?=some o->yU o=false->w'.heap[b]?=some o
 low:∀b,b<B->b<w.heap.size->w'.heap[b]?=w.heap[b]?
theorem Tw.trans{w' NZ:World} (h:Tw B w w') (k:Tw B w' NZ):Tw B w NZ :=
 ⟨k.os.trans h.os,k.tape.trans h.tape,k.output.trans h.output,ag4 h.size k.size,λb o ho hb=>k.same b o (h.same b o ho hb) hb,
  λb h1 h2=>(k.low b h1 (ahc h2 h.size)).trans (h.low b h1 h2)⟩
theorem Tw.alloc (w:World) (o:Go.Obj):Tw B w (w.alloc o) :=
 ⟨rfl,rfl,rfl,by simp,λb o' h _=>(Below.heap_alloc w o b (dF h)).trans h,λb _ h=>Below.heap_alloc w o b h⟩
theorem Tw.put{r:Nat}{o:Go.Obj} (o':Go.Obj) (h:w.heap[r]?=some o) (ho:yU o=true) (hB:B<=r):Tw B w (w.putObj r o') :=
 ⟨rfl,rfl,rfl,by simp,λb o2 hb h2=>by
  by_cases e:b=r
  ·subst e;rw[h]at hb;cases hb;rw[ho]at h2;cases h2
  ·exact(World.putObj_heap_other e).trans hb,
  λb h1 _=>World.putObj_heap_other (by omega)⟩
variable {B:Nat}{w w':World}
variable{u:Value}{σ:Gh}{s:List Obj}
theorem Tw.cell (h:Tw B w w') {a:Addr} (hc:w.cell? a=some u):w'.cell? a=some u:=by obtain⟨o,ho,lU⟩:=cells_of_cell hc;have:w'.heap[a.block]?=w.heap[a.block]?:=(h.same _ o ho (by cases o <;> simp_all [Obj.isCells,yU])).trans ho.symm;rw[World.cell?_of_block this];exact hc
theorem cJ.tw {O:Nat->Prop} (h:Tw B w w') {x:D} (hr:cJ O w x u):cJ O w' x u:=by
 induction hr with
 |sc v hv=>exact .sc v hv
 |nil=>exact .nil
 |sl aw a cap sz f h1 h2 h3 h4 _ ih=>exact .sl aw a cap sz f h1 h2 h3 (λi j x hx=>⟨h.cell (h4 i j x hx).1,(h4 i j x hx).2⟩) ih
 |el cs a f h1 h2 _ ih=>exact .el cs a f h1 (λj x hx=>⟨h.cell (h2 j x hx).1,(h2 j x hx).2⟩) ih
 |cl h1 _ h3 _ yp ym=>exact .cl h1 yp h3 ym
 |ub b=>exact .ub b
theorem Fs.tw (h:Tw B w w') {b:Nat} (hc:Fs w b):Fs w' b:=by obtain⟨arr,E,hh⟩:=hc;exact⟨arr,E,h.same _ _ hh rfl⟩
theorem OE.tw (h:Tw B w w') {b:Nat} (hc:OE w b):OE w' b:=by obtain⟨es,c,hh⟩:=hc;exact⟨es,c,h.same _ _ hh rfl⟩
theorem yN.tw (h:Tw B w w') {id:Nat}{o:Obj}{lo n:Nat} (hk:yN σ w id o lo n u):yN σ w' id o lo n u:=by
 rcases hk with h1|⟨b,base,cap,E,arr,h1,h2,h3⟩
 ·exact .inl h1
 ·exact .inr ⟨b,base,cap,E,arr,h1,h.same _ _ h2 rfl,h3⟩
theorem aA.tw (h:Tw B w w') {x:V} (hr:aA σ s w x u):aA σ s w' x u:=by
 induction hr with
 |d hx=>exact .d (hx.tw h)
 |ag h1 h2 _ ih=>exact .ag h1 h2 ih
 |tu h1 _ ih=>exact .tu h1 ih
 |fu hx=>exact .fu (hx.tw h)
 |so o ho hg hu hk=>exact .so o ho hg hu λhe=>(hk he).tw h
 |rf o ho hg hu hk =>
  refine .rf o ho hg hu λhe=>?_;obtain⟨b,base,k1,kc,k2⟩:=hk he;exact⟨b,base,k1,kc.tw h,k2⟩
 |pp o ho hg hk =>
  refine .pp o ho hg λhe=>?_;obtain⟨base,k1,kc,k2⟩:=hk he;exact⟨base,k1,kc.tw h,k2⟩
 |mp o ho hg hu hk =>
  refine .mp o ho hg hu λhe=>?_;obtain⟨b,k1,kc,k2⟩:=hk he;exact⟨b,k1,kc.tw h,k2⟩
 |cap h1 _ ih=>exact .cap h1 ih
 |bx h1 h2 h3 hu _ ih=>exact .bx h1 (h.cell h2) h3 hu ih
 |cl h1 _ h3 _ yp ym=>exact .cl h1 yp h3 ym
 |un=>exact .un
 |any=>exact .any
theorem Inv.tw (h:Tw B w w') (hI:Inv σ s w):Inv σ s w':=by
 refine⟨λid o ho=>?_,hI.inj,λb hb=>ahc (hI.low b hb) h.size,hI.apart⟩;rcases hI.content id o ho with h0|⟨b,base,arr,E,h1,h2,h3,h4,h5⟩
 ·refine .inl ?_;rcases h0 with h0|⟨b,es,c,h1,h2,h3⟩
  ·exact .inl h0
  ·exact .inr ⟨b,es,c,h1,h.same _ _ h2 rfl,h3⟩
 ·refine .inr ⟨b,base,arr,E,h1,h.same _ _ h2 rfl,h3,h4,λi j x hx=>?_⟩;obtain⟨u,k1,k2,k3⟩:=h5 i j x hx;exact⟨u,k1,k2,k3.tw h⟩
theorem dQ.tw{N:Nat}{e:Nat->V}{a:Act} (h:Tw B w w') (hR:dQ σ s w N e a):dQ σ s w' N e a :=
 ⟨hR.1,hR.2.1,λt=>(hR.2.2 t).tw h⟩
theorem aF.tw {σ0:Gh}{s0:List Obj}{w0:World} (h:Tw B w w') (hB:w0.heap.size<=B) (hE:aF σ0 s0 w0 σ s w):aF σ0 s0 w0 σ s w':=by
 refine⟨h.os.trans hE.os,h.tape.trans hE.tape,h.output.trans hE.output,ag4 hE.size h.size,λb hb ho=>?_,λb arr E ho hh=>?_,λb ho hm=>(hE.pN b ho hm).tw h,hE.own,hE.yk,hE.base,λb hb hf=>?_⟩
 ·exact(h.low b (by omega) (ahc hb hE.size)).trans (hE.aY b hb ho)
 ·obtain⟨cf,h1,h2⟩:=hE.shape b arr E ho hh;exact⟨cf,h.same _ _ h1 rfl,h2⟩
 ·exact(h.low b (by omega) (ahc hb hE.size)).trans (hE.fW b hb hf)
open Go.RowKit
theorem aF.both {σ σ':Gh}{s s':List Obj}{w w':World} (h:aF σ s w σ' s' w') {l:Nat}{o:Go.Obj} (ho:yU o=true) (h1:l<w.heap.size) (h2:l<w'.heap.size):aF σ s (w.putObj l o) σ' s' (w'.putObj l o):=by
 have key:∀b,(b≠l->w'.heap[b]?=w.heap[b]?)->(w'.putObj l o).heap[b]?=(w.putObj l o).heap[b]?:=λb hb=>by
  by_cases e:b=l
  ·subst e;rw[World.putObj_heap_same h1,World.putObj_heap_same h2]
  ·rw[World.putObj_heap_other e,World.putObj_heap_other e];exact hb e
 refine⟨h.os,h.tape,h.output,by simpa using h.size,λb hb hO=>key b λ_=>h.aY b (by simpa using hb) hO,λb arr E hO hh=>?_,λb hO hm=>?_,λb hb=>by simpa using h.own b hb,h.yk,h.base,λb hb hf=>key b λ_=>h.fW b (by simpa using hb) hf⟩
 ·by_cases e:b=l
  ·subst e;rw[World.putObj_heap_same h1]at hh;cases hh;cases ho
  ·rw[World.putObj_heap_other e]at hh ⊢;exact h.shape b arr E hO hh
 ·by_cases e:b=l
  ·subst e;obtain⟨es,c,hh⟩:=hm;rw[World.putObj_heap_same h1]at hh;cases hh;cases ho
  ·obtain⟨es,c,hh⟩:=hm;rw[World.putObj_heap_other e]at hh;obtain⟨es',c',UA⟩:=h.pN b hO ⟨es,c,hh⟩;exact⟨es',c',by rw[World.putObj_heap_other e];exact UA⟩
def Gk (P:Program) (gf:Nat) (nZ:List D) (Kd:Nat) (v:Nat->Int):Prop :=
 (∀args w,(callFunc gf args).run P w=.ok (.enter gf args) w) /\
 ∀(lb:Array Value) (l:Nat) (J:Nat->World->Prop),lb.size=nZ.length->(∀i W,J i W->∀j x,nZ[j]?=some x->cJ (λ_=>False) W x (lb.getD j undef)) ->
  (∀i W,J i W->i<Kd->YieldAt (D0 none) 0 P l #[.int .i64 (v i)] W λe W'=>e=.returned (.bool true)/\J (i+1) W') ->
  ∀W,J 0 W->CallsIn (D0 none) 0 P gf (#[.func (.yield l) #[] #[]]++lb) W λe W'=>(∃u,e=.returned u)/\J Kd W'
theorem Ir {P:Program}{N L M:Nat}{σ0:Gh}{s0:List Obj}{w0:World} (hL:s0.length<=L) {tf p:Nat}{assign body:Code}{gf:Nat}{nZ:List D}{Kd:Nat}{v:Nat->Int} (Yx:Gk P gf nZ Kd v) (I:Nat->List Obj->Prop)
  {e:Env}{s:List Obj}{σ:Gh}{w:World}{a:Act} (hE:aF σ0 s0 w0 σ s w) (hI:Inv σ s w) (hR:dQ σ s w N e a) (hg:e tf=.d (.cl (.func gf) [] nZ)) (hp:p<N) (h0:I 0 s)
  (hround:∀i s,i<Kd->I i s->codeWp P N s.length M (.seq assign body) (λex _ s'=>ex=.normal/\∃Am,br L e s' e Am/\I (i+1) Am) (bz e p (.d (.sc (.int .i64 (v i))))) s)
  {Q:Exit->Act->World->Prop} (hQ:∀(D:Nat) (w':World) (σ':Gh) (s':List Obj),w0.heap.size<=D->w'.heap[D]?=some (.deferred (some []))->aF σ0 s0 w0 σ' s' w'->Inv σ' s' w'->dQ σ' s' w' N e a->I Kd s' ->
   Q .normal (Act.wD a [{ target:=.collected D,args:=#[] }]) w') :
  (Code.rangeFunc (.tmp tf) #[p] assign body).wpIn (D0 none) 0 P Q a w:=by
 have fK:∀{σ:Gh}{s:List Obj}{w:World},dQ σ s w N e a->∃lb:Array Value,a.eval (.tmp tf)=.func (.func gf) #[] lb/\lb.size=nZ.length/\∀j x,nZ[j]?=some x->cJ (λ_=>False) w x (lb.getD j undef):=by
  intro σ s w hR;have h:=hR.2.2 tf;rw[hg]at h;show ∃lb,a.tmps.getD tf undef=_/\_;generalize a.tmps.getD tf undef=u at h;cases h with|d h=>?_
  cases h with|@cl _ _ _ f' c' h1 h2 h3 h4=>?_
  have:f'=#[]:=Array.eq_empty_of_size_eq_zero (by simpa using h1);subst this;exact⟨c',rfl,h3,λj x hx=>(h4 j x hx).own λ_ hf=>hf.elim⟩
 obtain⟨lb,GN,aai,_⟩:=fK hR;refine wpIn_rangeFunc ?_;intro fn V0;obtain⟨rec,uV⟩:∃rec:LoopState->Option Code->Loop,rec=λst pe=>{ state:=st,pending:=pe,fn,tmps:=a.tmps,params:=#[p],assign,body,defers:=w.heap.size }:=⟨_,rfl⟩
 obtain⟨W1,Y1⟩:∃W1,(w.alloc (.deferred (some []))).alloc (.loop (rec .ready none))=W1:=⟨_,rfl⟩
 have hL1:W1.heap[w.heap.size+1]?=some (.loop (rec .ready none)):=by rw[<- Y1];have:=World.alloc_heap_new (w.alloc (.deferred (some []))) (.loop (rec .ready none));rwa [World.size_alloc]at this
 have Rw:W1.heap[w.heap.size]?=some (.deferred (some [])):=by rw[<- Y1];exact(Below.heap_alloc _ _ _ (by simp)).trans (World.alloc_heap_new w _)
 have Zo:Tw w0.heap.size w W1:=by rw[<- Y1];exact(Tw.alloc _ _).trans (Tw.alloc _ _)
 have fF:=hE.size;refine⟨w.heap.size+1,[{ target:=.collected w.heap.size,args:=#[] }],W1,{ target:=.fn (.func gf) lb,args:=#[.func (.yield (w.heap.size+1)) #[] #[]] },W1,gf,
  #[.func (.yield (w.heap.size+1)) #[] #[]]++lb,W1,?_,?_,?_,?_,λh=>by simp [D0,Fence.wide]at h,?_⟩
 ·rw[<- Y1,uV];exact run_enterLoop_outer _ _ _ _ _
 ·simp only[resolve,GN];simp [go_sem]
 ·intro f' hf';exact trivial
 ·simp [invoke,go_sem,Yx.1]
 refine((Yx.2 lb (w.heap.size+1) (λi W=>∃σ s,aF σ0 s0 w0 σ s W/\Inv σ s W/\dQ σ s W N e a/\I i s/\W.heap[w.heap.size+1]?=some (.loop (rec .ready none))/\W.heap[w.heap.size]?=some (.deferred (some []))) aai
  (λi W ⟨σ,s,_,_,hR,_⟩=>by
   obtain⟨lb',h1,_,h3⟩:=fK hR;rw[GN]at h1;cases h1;exact h3) ?_ W1 ⟨σ,s,hE.tw Zo (af3 _),hI.tw Zo,hR.tw Zo,h0,hL1,Rw⟩)).mono ?_
 ·
  rintro i W ⟨σ1,s1,Qk,RP,RE,hi,hl,hk⟩ az;have hy:=run_yield (P:=P) (args:=#[.int .i64 (v i)]) hl (by rw[uV];rfl);have Zn:w.heap.size+1<W.heap.size:=dF hl;have hbz:yU (.loop { rec .ready none with state:=.busy })=true:=rfl;have wE:rec .ready none={ state:=.ready,pending:=none,fn,tmps:=a.tmps,params:=#[p],assign,body,defers:=w.heap.size }:=by rw[uV]
  rw[uV]at hy;refine⟨fn,_,assign,body,hy,roundIn_of_wpIn V0 ?_⟩;have hd:=hround i s1 az hi;have VO:dQ σ1 s1 W N (bz e p (.d (.sc (.int .i64 (v i))))) (a.put (some p) (.int .i64 (v i))):=dQ.put RE (d:=some p) hp (.d (.sc _ rfl));have hs:=ca (L:=s1.length) (M:=M) (af3 _) assign _ _ s1 σ1 W _ (.refl _ _ _) RP VO hd (some (w.heap.size+1)) [];have aaE:({ tmps:=(#[p].zip #[Value.int .i64 (v i)]).foldl (λt (p,v)=>t.setIfInBounds p v) a.tmps,defers:=[] }:Act)=Act.wD (a.put (some p) (.int .i64 (v i))) []:=by simp [Act.wD,Act.put]
  simp only at hy ⊢;rw[aaE];refine wpIn_mono (F:=D0 (some (w.heap.size+1))) hs ?_;rintro ex a1 w1 ⟨pQ,Cd,e1,σ2,s2,AB,TC,ZV,hq⟩;cases ex with
  |normal =>
   have vu:=Cd _ _ hl rfl;have Yf:=dF vu;refine⟨_,run_beginRound vu (by rw[uV]),?_⟩;have hT2:∀B,B<=w.heap.size+1->Tw B w1 (w1.putObj (w.heap.size+1) (.loop { rec .ready none with state:=.busy })):=λB hB=>.put _ vu rfl hB;have hT3:∀B,B<=w.heap.size+1->Tw B W (W.putObj (w.heap.size+1) (.loop { rec .ready none with state:=.busy })):=λB hB=>.put _ hl rfl hB;have Uh:=ca (L:=s1.length) (M:=M) (af3 _) body _ e1 s2 σ2 _ _ (AB.both hbz Zn Yf) (TC.tw (hT2 0 (by omega))) (ZV.tw (hT2 0 (by omega))) hq (some (w.heap.size+1)) [];rw[Px pQ]at Uh;refine wpIn_mono (F:=D0 (some (w.heap.size+1))) Uh ?_;rintro ex a2 w3 ⟨hd2,FF,e3,σ3,s3,Y8,hI3,hR4,rfl,s4,hc,hi4⟩;have S8:=FF _ _ (World.putObj_heap_same Yf) rfl;have F5:=FF _ _ ((World.putObj_heap_other (by omega)).trans (Cd _ _ hk rfl)) rfl;have aag:=dF S8;refine⟨_,_,run_endRound none S8,rfl,?_⟩;have Zz:∀B,B<=w.heap.size+1->Tw B w3 (w3.putObj (w.heap.size+1) (.loop (rec .ready none))):=λB hB=>.put _ S8 rfl hB;have Zw:({ ({ rec .ready none with state:=.busy }:Loop) with state:=if (none:Option Code).isNone then .ready else .done,pending:=none }:Loop)=rec .ready none:=by rw[uV];rfl
   rw[Zw];have hEa:aF σ0 s0 w0 σ3 s3 w3:=(Qk.tw (hT3 w0.heap.size (by omega)) (af3 _)).trans Y8;have hRa:dQ σ3 s3 w3 N e a:=(RE.tw (hT3 0 (by omega))).aX Y8;obtain⟨σ4,k1,k2,k3⟩:=hc σ0 s0 w0 σ3 _ N a hL (hEa.tw (Zz w0.heap.size (by omega)) (af3 _)) (hI3.tw (Zz 0 (by omega))) (hRa.tw (Zz 0 (by omega)));exact⟨σ4,s4,k1,k2,k3,hi4,World.putObj_heap_same aag,(World.putObj_heap_other (by omega)).trans F5⟩
  |exit id=>exact absurd hq.1 (by simp)
  |goto t=>exact absurd hq.1 (by simp)
  |ret=>exact absurd hq.1 (by simp)
  |panic c=>exact absurd hq.1 (by simp)
  |outgrown=>exact absurd hq.1 (by simp)
 ·
  rintro e2 w2 ⟨⟨u,rfl⟩,σ2,s2,AB,TC,VO,hi,hl,hk⟩;have Ur:=dF hl;have hT:∀B,B<=w.heap.size+1->Tw B w2 (w2.putObj (w.heap.size+1) (.loop { rec .ready none with state:=.exhausted })):=λB hB=>.put _ hl rfl hB;have cI:(rec .ready none).state≠.busy:=by rw[uV];intro h;cases h
  have Xt:(rec .ready none).pending=none:=by rw[uV]
  have mR:=run_endLoop (P:=P) hl cI;refine⟨none,w2.putObj (w.heap.size+1) (.loop { rec .ready none with state:=.exhausted }),by rw[mR];exact congrArg (λx=>Result.ok x _) Xt,?_⟩;have:=hQ w.heap.size _ σ2 s2 fF ((World.putObj_heap_other (by omega)).trans hk) (AB.tw (hT w0.heap.size (by omega)) (af3 _)) (TC.tw (hT 0 (by omega))) (VO.tw (hT 0 (by omega))) hi;have ha:({ a with defers:=[{ target:=.collected w.heap.size,args:=#[] }]++a.defers }:Act)=Act.wD a [{ target:=.collected w.heap.size,args:=#[] }]:=by rw[hR.1];rfl
  rw[ha];exact this
open Go.RowKit
variable{assign:Code}{body:Code}{e:Env}{N:Nat}{M:Nat}{P:Program}{s:List Obj}{g:Operand}{L:Nat}{y:Code}{Q:Exit->Env->List Obj->Prop}
def rl (P:Program) (N L M:Nat) (g:Operand) (ps:Array Tmp) (assign body:Code) (e:Env) (s:List Obj) (K:Env->List Obj->Prop):Prop :=
 ∃(tf p gf:Nat) (nZ:List D) (Kd:Nat) (v:Nat->Int) (I:Nat->List Obj->Prop) (e1:Env) (s1:List Obj),g=.tmp tf/\ps=#[p]/\p<N/\e1 tf=.d (.cl (.func gf) [] nZ)/\Gk P gf nZ Kd v/\br L e s e1 s1/\I 0 s1 /\
  (∀i s,i<Kd->I i s->codeWp P N s.length M (.seq assign body) (λex _ s'=>ex=.normal/\∃Am,br L e1 s' e1 Am/\I (i+1) Am) (bz e1 p (.d (.sc (.int .i64 (v i))))) s)/\∀s,I Kd s->K e1 s
theorem rl.of{ps:Array Tmp}{K:Env->List Obj->Prop} (tf p gf:Nat) (nZ:List D) (Kd:Nat) (v:Nat->Int) (I:Nat->List Obj->Prop) (F:Env->Prop)
  (hg:g=.tmp tf) (rS:ps=#[p]) (hp:p<N) (hi:Gk P gf nZ Kd v) (h0:∃e1 s1,br L e s e1 s1/\e1 tf=.d (.cl (.func gf) [] nZ)/\F e1/\I 0 s1)
  (h:∀e1,F e1->∀i s,i<Kd->I i s->codeWp P N s.length M (.seq assign body) (λex _ s'=>ex=.normal/\∃Am,br L e1 s' e1 Am/\I (i+1) Am) (bz e1 p (.d (.sc (.int .i64 (v i))))) s)
  (hK:∀e1,F e1->∀s,I Kd s->K e1 s):rl P N L M g ps assign body e s K:=by
 obtain⟨e1,s1,h1,h2,h3,h4⟩:=h0;exact⟨tf,p,gf,nZ,Kd,v,I,e1,s1,hg,rS,hp,h2,hi,h1,h4,h e1 h3,hK e1 h3⟩
def pA (P:Program) (N L M:Nat):Code->(Exit->Env->List Obj->Prop)->Env->List Obj->Prop
 |.seq x y,Q,e,s=>match x with
  |.seq x1 (.block _ (.rangeFunc g ps assign body))=>codeWp P N L M x1 (λex e s=>ex=.normal/\rl P N L M g ps assign body e s λe s=>codeWp P N s.length M y Q e s) e s
  |x=>codeWp P N L M x (λex e s=>ex=.normal/\pA P N L M y Q e s) e s
 |_,_,_,_=>False
def GK (P:Program) (N L M:Nat) (y:Code) (Q:Exit->Env->List Obj->Prop) (ex:Exit) (e:Env) (s:List Obj):Prop:=ex=.normal/\pA P N L M y Q e s
def RK (P:Program) (N L M:Nat) (g:Operand) (ps:Array Tmp) (assign body y:Code) (Q:Exit->Env->List Obj->Prop) (ex:Exit) (e:Env) (s:List Obj):Prop:=ex=.normal/\rl P N L M g ps assign body e s λe s=>codeWp P N s.length M y Q e s
theorem pX:GK P N L M y Q .normal e s=pA P N L M y Q e s:=propext ⟨λh=>h.2,λh=>⟨rfl,h⟩⟩
theorem uj{ps:Array Tmp}:RK P N L M g ps assign body y Q .normal e s=rl P N L M g ps assign body e s λe s=>codeWp P N s.length M y Q e s:=propext ⟨λh=>h.2,λh=>⟨rfl,h⟩⟩
theorem iU{id:Nat}{ops:Array Oper}{dr:Bool} :
  pA P N L M (.seq (.region id ops dr) y) Q e s=codeWp P N L M (.region id ops dr) (GK P N L M y Q) e s:=(rfl)
theorem me{i:Nat}{x1:Code}{ps:Array Tmp} :
  pA P N L M (.seq (.seq x1 (.block i (.rangeFunc g ps assign body))) y) Q e s=codeWp P N L M x1 (RK P N L M g ps assign body y Q) e s:=(rfl)
def QG (σ0:Gh) (s0:List Obj) (w0:World) (N:Nat) (Q:Exit->Env->List Obj->Prop):Exit->Act->World->Prop :=
 λex a w=>∃D:Nat,w0.heap.size<=D/\a.defers=[{ target:=.collected D,args:=#[] }]/\w.heap[D]?=some (.deferred (some []))/\QX σ0 s0 w0 N Q ex (Act.wD a []) w
theorem vi {P:Program}{N L M:Nat}{σ0:Gh}{s0:List Obj}{w0:World} (hL:s0.length<=L):∀(c:Code) (Q:Exit->Env->List Obj->Prop) (e:Env) (s:List Obj) (σ:Gh) (w:World) (a:Act),
  aF σ0 s0 w0 σ s w->Inv σ s w->dQ σ s w N e a->pA P N L M c Q e s->c.wpIn (D0 none) 0 P (QG σ0 s0 w0 N Q) a w
 |.seq x y,Q,e,s,σ,w,a,hE,hI,hR,h=>by
  simp only[pA]at h;split at h
  ·rename_i x1 i g ps assign body;refine wpIn_seq (wpIn_seq ?_);have h1:=ca hL x1 _ e s σ w a hE hI hR h none [];rw[sa hR.1]at h1;refine wpIn_mono h1 ?_;rintro ex a1 w1 ⟨pQ,_,e1,σ1,s1,Qk,RP,RE,rfl,hr⟩;rw[sa pQ]at RE;obtain⟨tf,p,gf,nZ,Kd,v,I,e2,s2,rfl,rfl,hp,hg,Yx,hc,h0,hround,hK⟩:=hr;obtain⟨σ2,AB,TC,VO⟩:=hc σ0 s0 w0 σ1 w1 N a1 hL Qk RP RE;refine wpIn_block (Ir hL Yx I AB TC VO hg hp h0 hround ?_);intro D w3 σ3 s3 hD hH Y8 hI3 ZV hi;have h3:=ca (L:=s3.length) (af3 _) y Q e2 s3 σ3 w3 a1 (.refl _ _ _) hI3 ZV (hK s3 hi) none [{ target:=.collected D,args:=#[] }];refine wpIn_mono h3 ?_;rintro ex a4 w4 ⟨hd4,hk4,e4,σ4,s4,hE4,hI4,hR4,hq⟩;exact⟨D,hD,hd4,hk4 _ _ hH rfl,e4,σ4,s4,Y8.trans hE4,hI4,hR4,hq⟩
  ·refine wpIn_seq ?_;have h1:=ca hL x _ e s σ w a hE hI hR h none [];rw[sa hR.1]at h1;refine wpIn_mono h1 ?_;rintro ex a1 w1 ⟨pQ,_,e1,σ1,s1,Qk,RP,RE,rfl,hr⟩;rw[sa pQ]at RE;exact vi hL y Q e1 s1 σ1 w1 a1 Qk RP RE hr
 |.skip,_,_,_,_,_,_,_,_,_,h=>h.elim
 |.region ..,_,_,_,_,_,_,_,_,_,h=>h.elim
 |.cond ..,_,_,_,_,_,_,_,_,_,h=>h.elim
 |.block ..,_,_,_,_,_,_,_,_,_,h=>h.elim
 |.loop ..,_,_,_,_,_,_,_,_,_,h=>h.elim
 |.exit ..,_,_,_,_,_,_,_,_,_,h=>h.elim
 |.ret,_,_,_,_,_,_,_,_,_,h=>h.elim
 |.rangeFunc ..,_,_,_,_,_,_,_,_,_,h=>h.elim
 |.scope _,_,_,_,_,_,_,_,_,_,h=>h.elim
 |.label _,_,_,_,_,_,_,_,_,_,h=>h.elim
 |.goto _,_,_,_,_,_,_,_,_,_,h=>h.elim
 |.refuse _,_,_,_,_,_,_,_,_,_,h=>h.elim
theorem LH {P : Program} {f : FuncId} {fn : Func} {c : Code} {args : List V} {exts : List Obj} {K : V → List Obj → Prop} (hf : P.funcs[f]? = some fn) (hb : fn.body = some c) {N : Nat} (hN : fn.ntmps = N) {rs : Array ResultVar} (PA : fn.results = rs) (hn : (fn.name != "runtime.NumGoroutine") = true)
  (lim M:Nat) (hl:exts.length<=lim) (ha:args.length<=N)
  (h:pA P N lim M c (sg P rs.toList lim K) (im args) exts):aq P f args exts K:=by
 subst hN;subst PA;refine⟨by simp only[Jz,hf,hn,hb,Option.isSome_some,ag3],λσ w vals hI Uc hv=>?_⟩;refine callsIn_wide.1 (callsIn_of_wp_marks (F:=Fence.wide) (n:=0) hf hb trivial ?_ rfl);have hR:dQ σ exts w fn.ntmps (im args) { tmps:=vals++Array.replicate (fn.ntmps-vals.size) undef,defers:=[] }:=by
  refine⟨rfl,by simp;omega,λt=>?_⟩;rw[nI];by_cases ht:t<args.length
  ·have h1:=hv t args[t] (by simp [ht]);have:(vals++Array.replicate (fn.ntmps-vals.size) undef).getD t undef=vals.getD t undef:=by rw[agh,ag1 (by omega),agh]
   rw[this];simpa [ht]using h1
  ·have:(vals++Array.replicate (fn.ntmps-vals.size) undef).getD t undef=undef:=by rw[agh,ag6 (by omega),Array.getElem?_replicate];split <;> rfl
   rw[this];simp [ht];exact .un
 refine wpIn_mono (F:=D0 none) (vi hl c _ (im args) exts σ w _ (aF.refl _ _ _) hI hR h) ?_;rintro ex a' w' ⟨D,hD,hd,hH,e',σ',s',hE,jo,oR,hex,hq⟩;have hT:Tw w.heap.size w' (w'.putObj D (.deferred none)):=.put _ hH rfl hD;have AB:=hE.tw hT (af3 _);have TC:=jo.tw hT;obtain⟨v,u,k1,k2,k3⟩:=my TC (oR.tw hT) hq;obtain⟨aY,h0,hK⟩:=k3;obtain⟨h1,h2,h3⟩:=sX h0;have fin:LeavesInM Fence.wide 0 P fn a'.tmps (λe NZ=>∃u v σ' s',e=.returned u/\aF σ exts w σ' s' NZ/\Inv σ' s' NZ/\aA σ' s' NZ v u/\K v s') a'.defers .returning w':=by rw[hd];refine⟨by simp,.inl ⟨D,_,rfl,run_takeDeferred hH,?_⟩⟩;exact⟨u,k1,u,_,_,_,rfl,AB.C8 h2 (λid cS=>h3 id (by omega)),TC.C8 h2 h1,k2.C8 h2,hK⟩
 rcases qq hex with rfl|rfl
 ·exact fin
 ·exact fin
theorem bO.Sd{o:Obj}{v:V} (k t:Nat) (he:e t=.rf k o.g 0 0) (ho:s[k]?=some o) (hl:o.live=true) (fP:o.aw=[[v]]):bO e s (bz e t (.bx v)) (bM s k):=by
 intro σ0 s0 w0 σ w N a hE hI hR;obtain⟨h1,h2⟩:=sW hI k;refine⟨σ,hE.trans h1,h2,hR.1,hR.2.1,λt'=>?_⟩;unfold bz;split
 ·rename_i ht;subst ht;have hr:=hR.2.2 t';rw[he]at hr;generalize a.tmps.getD t' undef=u at hr;cases hr with|rf o' iY hg hu hk=>?_
  rw[ho]at iY;cases iY;obtain⟨b,base,hs,hc,rfl⟩:=hk rfl;rcases hI.content k o ho with h0|⟨b',bI,arr,E,k1,k2,k3,k4,k5⟩
  ·exact(h0.Ax hs hc).elim
  rw[hs]at k1;cases k1;obtain⟨u',g1,g2,g3⟩:=k5 0 0 v (by rw[fP];rfl);have qh:w.cell? ⟨b,base+0*o.sz+0,none⟩=some u':=by simp only[World.cell?,k2];simpa using g1
  refine .bx rfl qh ?_ g2 (g3.aX h1);rintro (hb|⟨id,o2,z5,l1,l2,l3⟩)
  ·exact hI.apart k o b base ho hs hb
  ·obtain⟨o3,m1,_,_,_,m5⟩:=jt l1;have:id=k:=hI.inj id k o3 o b z5 base m1 ho (m5 l2) l3 hs;subst this;unfold bM at l1;rw[ho]at l1;simp only at l1;rw[agc (List.getElem?_eq_some_iff.1 ho).1]at l1;cases l1;cases l2
 ·exact(hR.2.2 t').aX h1
end Go.VL
