/- A part of the proof (G23 G33 O4 Vra Vrb Vrc Vrd). -/
import Derived.RangeFuncLeaves
import Derived.RangeFuncKeeps
import Derived.Test.YtfmdmlfhigocaaaOR6
import Derived.Test.YtfmdmlfhigocaaaOR11
import Derived.Test.YtfmdmlfhigocaaaOR12
import Derived.Test.YtfmdmlfhigocaaaOR14
import Derived.Test.YtfmdmlfhigocaaaOR15
import Derived.Test.YtfmdmlfhigocaaaOR25
set_option linter.unusedSimpArgs false
set_option linter.unusedVariables false
set_option maxRecDepth 100000
set_option maxHeartbeats 80000000
namespace Go.Proofs.Ytfmdmlfhigocaaa
open Go.VL Go.Proofs.Try
def S7.same (m:S7):Prop:=m.Vr=true->m.own=m.t
instance (m:S7):Decidable m.same:=by unfold S7.same;infer_instance
def S7.qW (m:S7) (p:Ny):Prop:=(0<=m.steps/\m.steps<=10000000000000/\m.top<=m.stk.length/\m.top<=1200000000000)/\(0<=p.at_/\p.at_<=m.t.length/\p.ai.length<=1000000000)/\m.t.length<=1000000/\m.same
instance (m:S7) (p:Ny):Decidable (m.qW p):=by unfold S7.qW;infer_instance
theorem Mn (x:Int):aM prog 86 [i64 x] (bV (tx x)):=by
 refine bk func86 ntmps86 results86 0 5 ?_;simp only[zX,simprocAttr,i64]
 repeat' (first
 |(with_reducible refine And.intro sW ?_)
 |(with_reducible first|refine lI (λhc=>?_) (λhc=>?_)|refine eu (λhc=>?_) (λhc=>?_)|refine ep (λhc=>?_) (λhc=>?_)|refine dn (λhc=>?_) (λhc=>?_)|refine dm (λhc=>?_) (λhc=>?_)|refine ja (λhc=>?_) (λhc=>?_)|refine eh (λhc=>?_) (λhc=>?_))<;>simp only[zI,simprocAttr,ge_iff_le,hc])
 all_goals (simp only[tx,bV];simp [*];try omega)
theorem Rx (n:Int) (t:List Int) (i:Int) (ie:0<=n) (UI:n<=5) (ht:t.length<=1000000) (h0:0<=i) (h1:i<=t.length):aM prog 60 [i64 n,.d (an t),i64 i] (bV (bY n t i)):=by
 have w1:IntKind.i64.wrap (i-1)=i-1:=bF _ ae;have hw:=Mn (oo t (i-1));have Xq:=Mn (oo t i);simp only[i64,bV]at hw Xq;have u1:¬i<0:=ae;have u2:¬(t.length:Int)<i:=ae;have hg1:0<i->t[(i-1).toNat]?=some (oo t (i-1)):=λh=>tb ae ae;have ZJ:i<t.length->t[i.toNat]?=some (oo t i):=λh=>tb h0 h;have ov:n=0\/n=1\/n=2\/n=3\/n=4\/n=5:=ae;rcases ov with rfl|rfl|rfl|rfl|rfl|rfl
 ·refine bk func60 ntmps60 results60 0 9007199254872519 ?_;simp only[zI,simprocAttr,iD,an,u1,u2,gt_iff_lt];simp [bY,bV]
 ·refine bk func60 ntmps60 results60 0 9007199254872519 ?_;simp only[zI,simprocAttr,iD,an,u1,u2,gt_iff_lt];simp [bY,bV]
 ·by_cases c:i=0
  ·have e:=eq_true c;refine bk func60 ntmps60 results60 0 9007199254872519 ?_;simp only[zI,simprocAttr,iD,an,u1,u2,gt_iff_lt,e];simp [bY,bV,c]
  ·have b1:0<=i-1:=by omega
   have b2:i-1<(t.length:Int):=ae;have g1:=hg1 ae;refine bk func60 ntmps60 results60 0 9007199254872519 ?_;simp only[zI,simprocAttr,iD,an,u1,u2,gt_iff_lt,c,w1,b1,b2,g1];simp [bY,bV,c]
 ·by_cases c:i=(t.length:Int)
  ·have e:=eq_true c;refine bk func60 ntmps60 results60 0 9007199254872519 ?_;simp only[zI,simprocAttr,iD,an,u1,u2,gt_iff_lt,e];simp [bY,bV,c]
  ·have b2:i<(t.length:Int):=by omega
   have g2:=ZJ b2;refine bk func60 ntmps60 results60 0 9007199254872519 ?_;simp only[zI,simprocAttr,iD,an,u1,u2,gt_iff_lt,c,h0,b2,g2];simp [bY,bV,c]
 all_goals
  by_cases c1:0<i
  ·have b1:0<=i-1:=by omega
   have b2:i-1<(t.length:Int):=ae;have g1:=hg1 c1;by_cases c2:i<(t.length:Int)
   ·have g2:=ZJ c2;refine bk func60 ntmps60 results60 0 9007199254872519 ?_;simp only[zI,simprocAttr,iD,an,u1,u2,gt_iff_lt,c1,c2,w1,b1,b2,g1,g2,h0];refine bO hw ?_;simp only[zI,simprocAttr,iD,an,u1,u2,gt_iff_lt,c1,c2,w1,b1,b2,g1,g2,h0];refine bO Xq ?_;simp only[zI,simprocAttr,iD,an,u1,u2,gt_iff_lt,c1,c2,w1,b1,b2,g1,g2,h0];simp [bY,bV,qj,mi,c1,c2] <;> (cases tx (oo t (i-1)) <;> cases tx (oo t i) <;> rfl)
   ·refine bk func60 ntmps60 results60 0 9007199254872519 ?_;simp only[zI,simprocAttr,iD,an,u1,u2,gt_iff_lt,c1,c2,w1,b1,b2,g1,h0];refine bO hw ?_;simp only[zI,simprocAttr,iD,an,u1,u2,gt_iff_lt,c1,c2,w1,b1,b2,g1,h0];simp [bY,bV,qj,mi,c1,c2]
  ·by_cases c2:i<(t.length:Int)
   ·have g2:=ZJ c2;refine bk func60 ntmps60 results60 0 9007199254872519 ?_;simp only[zI,simprocAttr,iD,an,u1,u2,gt_iff_lt,c1,c2,g2,h0];refine bO Xq ?_;simp only[zI,simprocAttr,iD,an,u1,u2,gt_iff_lt,c1,c2,g2,h0];simp [bY,bV,qj,mi,c1,c2]
   ·refine bk func60 ntmps60 results60 0 9007199254872519 ?_;simp only[zI,simprocAttr,iD,an,u1,u2,gt_iff_lt,c1,c2,h0];simp [bY,bV,qj,mi,c1,c2]
theorem DY (t:List Int) (root parts:D) (bg nb:Nat) (Bs:List (List Bool)) (b a:Nat) (re:Re) (k:Nat) (i:Int) (h0:0<=i) (gD:re.set.length<=1000000) (ht:t.length<=1000000) :
  az Try.prog 57 [i64 i,.bx (.pp 0 0 0 0 b a),.bx (.d (re.bq k))] [dK t root parts bg nb,fX bg Bs] λv s=>v=bV (decide (i<t.length)&&E7 re.set (oo t i))/\s=[dK t root parts bg nb,fX bg Bs]:=by
 have hh:=Vu re.set (oo t i) ae;have hb:=ij 2 bg Bs;rw[Re.eK];by_cases aB:i<(t.length:Int)
 ·have hn:i.toNat<t.length:=by omega
  have hg:t[i.toNat]?=some (oo t i):=by unfold oo;rw[aja,ajg hn];rfl
  refine bk Try.func57 Try.ntmps57 Try.results57 2 23 ?_;simp only[zQ,simprocAttr];refine aA mix [] [(2,[0],[]),(3,[0],[]),(4,[0],[]),(14,[0],[]),(15,[0],[]),(16,[0],[])] aN ?_;simp only[zQ,simprocAttr,cf,aQ,dK,an,aiW,aB,h0,hn,hg,aiY,ai3];refine bR hh rfl rfl ?_;simp only[zQ,simprocAttr,cf,aQ,dK,an,aiW,aB,h0,hn,hg,aiY,ai3,hb]
 ·refine bk Try.func57 Try.ntmps57 Try.results57 2 23 ?_;simp only[zQ,simprocAttr];refine aA mix [] [(2,[0],[]),(3,[0],[]),(4,[0],[]),(14,[0],[]),(15,[0],[]),(16,[0],[])] aN ?_;simp only[zQ,simprocAttr,cf,aQ,dK,an,aiW,aB,h0,hb];rfl
theorem xE (t:List Int) (root parts:D) (bg nb:Nat) (Bs:List (List Bool)) (b a:Nat) (re:Re) (k:Nat) (i:Int) (h0:0<=i) (h1:i<=t.length) (ie:0<=re.n) (UI:re.n<=5) (ht:t.length<=1000000) :
  az Try.prog 59 [i64 i,.bx (.d (re.bq k)),.bx (.pp 0 0 0 0 b a)] [dK t root parts bg nb,fX bg Bs] λv s=>v=bV (bY re.n t i)/\s=[dK t root parts bg nb,fX bg Bs]:=by
 have hh:=Rx re.n t i ie UI ht h0 h1;have hb:=ij 2 bg Bs;rw[Re.eK];refine bk Try.func59 Try.ntmps59 Try.results59 2 23 ?_;simp only[zQ,simprocAttr];refine aA mix [] [(6,[0],[]),(7,[0],[]),(8,[0],[])] aN ?_;simp only[zQ,simprocAttr,cf,aQ,dK,an];refine bR hh rfl rfl ?_;simp only[zQ,simprocAttr,cf,aQ,dK,an,hb]
theorem BA (t:List Int) (root parts:D) (bg nb:Nat) (Bs:List (List Bool)) (b a:Nat) (re:Re) (k:Nat) (i:Nat) (oM:nb=Bs.length) {l:List Bool}{y:Bool} (hl:Bs[k]?=some l) (hy:l[i]?=some y) :
  az Try.prog 61 [i64 i,.bx (.pp 0 0 0 0 b a),.bx (.d (re.bq k))] [dK t root parts bg nb,fX bg Bs] λv s=>v=bV y/\s=[dK t root parts bg nb,fX bg Bs]:=by
 have hb:((Bs.map λl=>[V.d (D.sl (l.map λb=>[D.sc (Value.bool b)]))]).all λe=>e.all (ak 2))=true:=ij 2 bg Bs;have hk:k<Bs.length:=(List.getElem?_eq_some_iff.1 hl).1;have hi:i<l.length:=(List.getElem?_eq_some_iff.1 hy).1;have c1:(k:Int)<(Bs.length:Int):=ae;have c2:(i:Int)<(l.length:Int):=ae;have c3:(0:Int)<=(k:Int):=ae;have c4:(0:Int)<=(i:Int):=ae;rw[Re.eK];subst oM;refine bk Try.func61 Try.ntmps61 Try.results61 2 23 ?_;simp only[zQ,simprocAttr];refine aA mix [] [(1,[0],[]),(2,[0],[]),(3,[0],[]),(8,[1],[]),(9,[1],[])] aN ?_;simp only[zQ,simprocAttr,cf,aQ,dK,fX,an,c1,c2,c3,c4,hk,hi,ai1,aiW,aiY,hl,hy,ai3,ai7];exact hb
end Go.Proofs.Ytfmdmlfhigocaaa
namespace Go.VL
open Go.RowKit
variable{B:Nat}{w:World}
structure Tw (B:Nat) (w w':World):Prop where
 os:w'.os=w.os
 tape:w'.tape=w.tape
 output:w'.output=w.output
 size:w.heap.size<=w'.heap.size
 same:∀(b:Nat) (o:Go.Obj),w.heap[b]?=some o->AR o=false->w'.heap[b]?=some o
 low:∀b,b<B->b<w.heap.size->w'.heap[b]?=w.heap[b]?
theorem Tw.trans{w' Rb:World} (h:Tw B w w') (k:Tw B w' Rb):Tw B w Rb :=
 ⟨k.os.trans h.os,k.tape.trans h.tape,k.output.trans h.output,aj0 h.size k.size,λb o ho hb=>k.same b o (h.same b o ho hb) hb,
  λb h1 h2=>(k.low b h1 (ako h2 h.size)).trans (h.low b h1 h2)⟩
theorem Tw.alloc (w:World) (o:Go.Obj):Tw B w (w.alloc o) :=
 ⟨rfl,rfl,rfl,aj,λb o' h _=>(Below.heap_alloc w o b (eg h)).trans h,λb _ h=>Below.heap_alloc w o b h⟩
theorem Tw.put{r:Nat}{o:Go.Obj} (o':Go.Obj) (h:w.heap[r]?=some o) (ho:AR o=true) (hB:B<=r):Tw B w (w.putObj r o') :=
 ⟨rfl,rfl,rfl,aj,λb o2 hb h2=>by
  by_cases e:b=r
  ·subst e;rw[h]at hb;cases hb;rw[ho]at h2;cases h2
  ·exact(World.putObj_heap_other e).trans hb,
  λb h1 _=>World.putObj_heap_other ae⟩
variable {B:Nat}{w w':World}
variable{u:Value}{σ:Gh}{s:List Obj}
theorem Tw.cell (h:Tw B w w') {a:Addr} (hc:w.cell? a=some u):w'.cell? a=some u:=by obtain⟨o,ho,mW⟩:=cells_of_cell hc;have:w'.heap[a.block]?=w.heap[a.block]?:=(h.same _ o ho (by cases o <;> simp_all [Obj.isCells,AR])).trans ho.symm;rw[World.cell?_of_block this];exact hc
theorem cY.tw {O:Nat->Prop} (h:Tw B w w') {x:D} (hr:cY O w x u):cY O w' x u:=by
 induction hr with
 |sc v hv=>exact .sc v hv
 |nil=>exact .nil
 |sl aw a cap sz f h1 h2 h3 h4 _ ih=>exact .sl aw a cap sz f h1 h2 h3 (λi j x hx=>⟨h.cell (h4 i j x hx).1,(h4 i j x hx).2⟩) ih
 |el cs a f h1 h2 _ ih=>exact .el cs a f h1 (λj x hx=>⟨h.cell (h2 j x hx).1,(h2 j x hx).2⟩) ih
 |cl h1 _ h3 _ Aq gy=>exact .cl h1 Aq h3 gy
 |ub b=>exact .ub b
theorem HZ.tw (h:Tw B w w') {b:Nat} (hc:HZ w b):HZ w' b:=by obtain⟨arr,E,hh⟩:=hc;exact⟨arr,E,h.same _ _ hh rfl⟩
theorem RO.tw (h:Tw B w w') {b:Nat} (hc:RO w b):RO w' b:=by obtain⟨es,c,hh⟩:=hc;exact⟨es,c,h.same _ _ hh rfl⟩
theorem AI.tw (h:Tw B w w') {id:Nat}{o:Obj}{lo n:Nat} (hk:AI σ w id o lo n u):AI σ w' id o lo n u:=by
 rcases hk with h1|⟨b,base,cap,E,arr,h1,h2,h3⟩
 ·exact .inl h1
 ·exact .inr ⟨b,base,cap,E,arr,h1,h.same _ _ h2 rfl,h3⟩
theorem aC.tw (h:Tw B w w') {x:V} (hr:aC σ s w x u):aC σ s w' x u:=by
 induction hr with
 |d hx=>exact .d (hx.tw h)
 |ag h1 h2 _ ih=>exact .ag h1 h2 ih
 |tu h1 _ ih=>exact .tu h1 ih
 |fu hx=>exact .fu (hx.tw h)
 |so o ho hg hu hk=>exact .so o ho hg hu λhe=>(hk he).tw h
 |rf o ho hg hu hk =>
  refine .rf o ho hg hu λhe=>?_;obtain⟨b,base,k1,kc,k2⟩:=hk he;exact⟨b,base,k1,kc.tw h,k2⟩
 |pp o ho hg hk =>
  refine .pp o ho hg λhe=>?_;obtain⟨base,k1,kc,k2⟩:=hk he;exact⟨base,k1,kc.tw h,k2⟩
 |mp o ho hg hu hk =>
  refine .mp o ho hg hu λhe=>?_;obtain⟨b,k1,kc,k2⟩:=hk he;exact⟨b,k1,kc.tw h,k2⟩
 |cap h1 _ ih=>exact .cap h1 ih
 |bx h1 h2 h3 hu _ ih=>exact .bx h1 (h.cell h2) h3 hu ih
 |cl h1 _ h3 _ Aq gy=>exact .cl h1 Aq h3 gy
 |un=>exact .un
 |any=>exact .any
theorem Inv.tw (h:Tw B w w') (hI:Inv σ s w):Inv σ s w':=by
 refine⟨λid o ho=>?_,hI.inj,λb hb=>ako (hI.low b hb) h.size,hI.apart⟩;rcases hI.content id o ho with h0|⟨b,base,arr,E,h1,h2,h3,h4,h5⟩
 ·refine .inl ?_;rcases h0 with h0|⟨b,es,c,h1,h2,h3⟩
  ·exact .inl h0
  ·exact .inr ⟨b,es,c,h1,h.same _ _ h2 rfl,h3⟩
 ·refine .inr ⟨b,base,arr,E,h1,h.same _ _ h2 rfl,h3,h4,λi j x hx=>?_⟩;obtain⟨u,k1,k2,k3⟩:=h5 i j x hx;exact⟨u,k1,k2,k3.tw h⟩
theorem eC.tw{N:Nat}{e:Nat->V}{a:Act} (h:Tw B w w') (hR:eC σ s w N e a):eC σ s w' N e a :=
 ⟨hR.1,hR.2.1,λt=>(hR.2.2 t).tw h⟩
theorem aG.tw {σ0:Gh}{s0:List Obj}{w0:World} (h:Tw B w w') (hB:w0.heap.size<=B) (hE:aG σ0 s0 w0 σ s w):aG σ0 s0 w0 σ s w':=by
 refine⟨h.os.trans hE.os,h.tape.trans hE.tape,h.output.trans hE.output,aj0 hE.size h.size,λb hb ho=>?_,λb arr E ho hh=>?_,λb ho hm=>(hE.qY b ho hm).tw h,hE.own,hE.Aj,hE.base,λb hb hf=>?_⟩
 ·exact(h.low b ae (ako hb hE.size)).trans (hE.ba b hb ho)
 ·obtain⟨cE,h1,h2⟩:=hE.shape b arr E ho hh;exact⟨cE,h.same _ _ h1 rfl,h2⟩
 ·exact(h.low b ae (ako hb hE.size)).trans (hE.gW b hb hf)
open Go.RowKit
theorem aG.both {σ σ':Gh}{s s':List Obj}{w w':World} (h:aG σ s w σ' s' w') {l:Nat}{o:Go.Obj} (ho:AR o=true) (h1:l<w.heap.size) (h2:l<w'.heap.size):aG σ s (w.putObj l o) σ' s' (w'.putObj l o):=by
 have key:∀b,(b≠l->w'.heap[b]?=w.heap[b]?)->(w'.putObj l o).heap[b]?=(w.putObj l o).heap[b]?:=λb hb=>by
  by_cases e:b=l
  ·subst e;rw[World.putObj_heap_same h1,World.putObj_heap_same h2]
  ·rw[World.putObj_heap_other e,World.putObj_heap_other e];exact hb e
 refine⟨h.os,h.tape,h.output,by simpa using h.size,λb hb hO=>key b λ_=>h.ba b (by simpa using hb) hO,λb arr E hO hh=>?_,λb hO hm=>?_,λb hb=>by simpa using h.own b hb,h.Aj,h.base,λb hb hf=>key b λ_=>h.gW b (by simpa using hb) hf⟩
 ·by_cases e:b=l
  ·subst e;rw[World.putObj_heap_same h1]at hh;cases hh;cases ho
  ·rw[World.putObj_heap_other e]at hh ⊢;exact h.shape b arr E hO hh
 ·by_cases e:b=l
  ·subst e;obtain⟨es,c,hh⟩:=hm;rw[World.putObj_heap_same h1]at hh;cases hh;cases ho
  ·obtain⟨es,c,hh⟩:=hm;rw[World.putObj_heap_other e]at hh;obtain⟨es',c',XD⟩:=h.qY b hO ⟨es,c,hh⟩;exact⟨es',c',by rw[World.putObj_heap_other e];exact XD⟩
def I0 (P:Program) (gf:Nat) (pG:List D) (M0:Nat) (v:Nat->Int):Prop :=
 (∀args w,(callFunc gf args).run P w=.ok (.enter gf args) w) /\
 ∀(lb:Array Value) (l:Nat) (J:Nat->World->Prop),lb.size=pG.length->(∀i W,J i W->∀j x,pG[j]?=some x->cY (λ_=>False) W x (lb.getD j undef)) ->
  (∀i W,J i W->i<M0->YieldAt (GD none) 0 P l #[.int .i64 (v i)] W λe W'=>e=.returned (.bool true)/\J (i+1) W') ->
  ∀W,J 0 W->CallsIn (GD none) 0 P gf (#[.func (.yield l) #[] #[]]++lb) W λe W'=>(∃u,e=.returned u)/\J M0 W'
theorem K1 {P:Program}{N L M:Nat}{σ0:Gh}{s0:List Obj}{w0:World} (hL:s0.length<=L) {tf p:Nat}{assign body:Code}{gf:Nat}{pG:List D}{M0:Nat}{v:Nat->Int} (Qb:I0 P gf pG M0 v) (I:Nat->List Obj->Prop)
  {e:Env}{s:List Obj}{σ:Gh}{w:World}{a:Act} (hE:aG σ0 s0 w0 σ s w) (hI:Inv σ s w) (hR:eC σ s w N e a) (hg:e tf=.d (.cl (.func gf) [] pG)) (hp:p<N) (h0:I 0 s)
  (hround:∀i s,i<M0->I i s->codeWp P N s.length M (.seq assign body) (λex _ s'=>ex=.normal/\∃Co,bJ L e s' e Co/\I (i+1) Co) (bX e p (.d (.sc (.int .i64 (v i))))) s)
  {Q:Exit->Act->World->Prop} (hQ:∀(D:Nat) (w':World) (σ':Gh) (s':List Obj),w0.heap.size<=D->w'.heap[D]?=some (.deferred (some []))->aG σ0 s0 w0 σ' s' w'->Inv σ' s' w'->eC σ' s' w' N e a->I M0 s' ->
   Q .normal (Act.wD a [{ target:=.collected D,args:=#[] }]) w') :
  (Code.rangeFunc (.tmp tf) #[p] assign body).wpIn (GD none) 0 P Q a w:=by
 have iy:∀{σ:Gh}{s:List Obj}{w:World},eC σ s w N e a->∃lb:Array Value,a.eval (.tmp tf)=.func (.func gf) #[] lb/\lb.size=pG.length/\∀j x,pG[j]?=some x->cY (λ_=>False) w x (lb.getD j undef):=by
  intro σ s w hR;have h:=hR.2.2 tf;rw[hg]at h;show ∃lb,a.tmps.getD tf undef=_/\_;generalize a.tmps.getD tf undef=u at h;cases h with|d h=>?_
  cases h with|@cl _ _ _ f' c' h1 h2 h3 h4=>?_
  have:f'=#[]:=Array.eq_empty_of_size_eq_zero (by simpa using h1);subst this;exact⟨c',rfl,h3,λj x hx=>(h4 j x hx).own λ_ hf=>hf.elim⟩
 obtain⟨lb,Qx,adA,_⟩:=iy hR;refine wpIn_rangeFunc ?_;intro fn Y8;obtain⟨rec,di⟩:∃rec:LoopState->Option Code->Loop,rec=λst pe=>{ state:=st,pending:=pe,fn,tmps:=a.tmps,params:=#[p],assign,body,defers:=w.heap.size }:=⟨_,rfl⟩
 obtain⟨W1,hW1⟩:∃W1,(w.alloc (.deferred (some []))).alloc (.loop (rec .ready none))=W1:=⟨_,rfl⟩
 have hL1:W1.heap[w.heap.size+1]?=some (.loop (rec .ready none)):=by rw[<- hW1];have:=World.alloc_heap_new (w.alloc (.deferred (some []))) (.loop (rec .ready none));rwa [World.size_alloc]at this
 have Wq:W1.heap[w.heap.size]?=some (.deferred (some [])):=by rw[<- hW1];exact(Below.heap_alloc _ _ _ aj).trans (World.alloc_heap_new w _)
 have hT1:Tw w0.heap.size w W1:=by rw[<- hW1];exact(Tw.alloc _ _).trans (Tw.alloc _ _)
 have fY:=hE.size;refine⟨w.heap.size+1,[{ target:=.collected w.heap.size,args:=#[] }],W1,{ target:=.fn (.func gf) lb,args:=#[.func (.yield (w.heap.size+1)) #[] #[]] },W1,gf,
  #[.func (.yield (w.heap.size+1)) #[] #[]]++lb,W1,?_,?_,?_,?_,λh=>by simp [GD,Fence.wide]at h,?_⟩
 ·rw[<- hW1,di];exact run_enterLoop_outer _ _ _ _ _
 ·simp only[resolve,Qx];simp [go_sem]
 ·intro f' hf';exact trivial
 ·simp [invoke,go_sem,Qb.1]
 refine((Qb.2 lb (w.heap.size+1) (λi W=>∃σ s,aG σ0 s0 w0 σ s W/\Inv σ s W/\eC σ s W N e a/\I i s/\W.heap[w.heap.size+1]?=some (.loop (rec .ready none))/\W.heap[w.heap.size]?=some (.deferred (some []))) adA
  (λi W ⟨σ,s,_,_,hR,_⟩=>by
   obtain⟨lb',h1,_,h3⟩:=iy hR;rw[Qx]at h1;cases h1;exact h3) ?_ W1 ⟨σ,s,hE.tw hT1 (ajc _),hI.tw hT1,hR.tw hT1,h0,hL1,Wq⟩)).mono ?_
 ·
  rintro i W ⟨σ1,s1,Tp,UP,Qd,hi,hl,hk⟩ aB;have hy:=run_yield (P:=P) (args:=#[.int .i64 (v i)]) hl (by rw[di];rfl);have hwl:w.heap.size+1<W.heap.size:=eg hl;have hbz:AR (.loop { rec .ready none with state:=.busy })=true:=rfl;have Al:rec .ready none={ state:=.ready,pending:=none,fn,tmps:=a.tmps,params:=#[p],assign,body,defers:=w.heap.size }:=by rw[di]
  rw[di]at hy;refine⟨fn,_,assign,body,hy,roundIn_of_wpIn Y8 ?_⟩;have hd:=hround i s1 aB hi;have US:eC σ1 s1 W N (bX e p (.d (.sc (.int .i64 (v i))))) (a.put (some p) (.int .i64 (v i))):=eC.put Qd (d:=some p) hp (.d (.sc _ rfl));have hs:=cA (L:=s1.length) (M:=M) (ajc _) assign _ _ s1 σ1 W _ (.refl _ _ _) UP US hd (some (w.heap.size+1)) [];have adT:({ tmps:=(#[p].zip #[Value.int .i64 (v i)]).foldl (λt (p,v)=>t.setIfInBounds p v) a.tmps,defers:=[] }:Act)=Act.wD (a.put (some p) (.int .i64 (v i))) []:=by simp [Act.wD,Act.put]
  simp only at hy ⊢;rw[adT];refine wpIn_mono (F:=GD (some (w.heap.size+1))) hs ?_;rintro ex a1 w1 ⟨qK,AX,e1,σ2,s2,Du,Wz,hR3,hq⟩;cases ex with
  |normal =>
   have tN:=AX _ _ hl rfl;have abo:=eg tN;refine⟨_,run_beginRound tN (by rw[di]),?_⟩;have hT2:∀B,B<=w.heap.size+1->Tw B w1 (w1.putObj (w.heap.size+1) (.loop { rec .ready none with state:=.busy })):=λB hB=>.put _ tN rfl hB;have hT3:∀B,B<=w.heap.size+1->Tw B W (W.putObj (w.heap.size+1) (.loop { rec .ready none with state:=.busy })):=λB hB=>.put _ hl rfl hB;have Xg:=cA (L:=s1.length) (M:=M) (ajc _) body _ e1 s2 σ2 _ _ (Du.both hbz hwl abo) (Wz.tw (hT2 0 ae)) (hR3.tw (hT2 0 ae)) hq (some (w.heap.size+1)) [];rw[SG qK]at Xg;refine wpIn_mono (F:=GD (some (w.heap.size+1))) Xg ?_;rintro ex a2 w3 ⟨hd2,Am,e3,σ3,s3,hE3,hI3,hR4,rfl,s4,hc,hi4⟩;have V7:=Am _ _ (World.putObj_heap_same abo) rfl;have Ew:=Am _ _ ((World.putObj_heap_other ae).trans (AX _ _ hk rfl)) rfl;have ady:=eg V7;refine⟨_,_,run_endRound none V7,rfl,?_⟩;have hT4:∀B,B<=w.heap.size+1->Tw B w3 (w3.putObj (w.heap.size+1) (.loop (rec .ready none))):=λB hB=>.put _ V7 rfl hB;have acK:({ ({ rec .ready none with state:=.busy }:Loop) with state:=if (none:Option Code).isNone then .ready else .done,pending:=none }:Loop)=rec .ready none:=by rw[di];rfl
   rw[acK];have hEa:aG σ0 s0 w0 σ3 s3 w3:=(Tp.tw (hT3 w0.heap.size ae) (ajc _)).trans hE3;have hRa:eC σ3 s3 w3 N e a:=(Qd.tw (hT3 0 ae)).aZ hE3;obtain⟨σ4,k1,k2,k3⟩:=hc σ0 s0 w0 σ3 _ N a hL (hEa.tw (hT4 w0.heap.size ae) (ajc _)) (hI3.tw (hT4 0 ae)) (hRa.tw (hT4 0 ae));exact⟨σ4,s4,k1,k2,k3,hi4,World.putObj_heap_same ady,(World.putObj_heap_other ae).trans Ew⟩
  |exit id=>exact absurd hq.1 aj
  |goto t=>exact absurd hq.1 aj
  |ret=>exact absurd hq.1 aj
  |panic c=>exact absurd hq.1 aj
  |outgrown=>exact absurd hq.1 aj
 ·
  rintro e2 w2 ⟨⟨u,rfl⟩,σ2,s2,Du,Wz,US,hi,hl,hk⟩;have Xq:=eg hl;have hT:∀B,B<=w.heap.size+1->Tw B w2 (w2.putObj (w.heap.size+1) (.loop { rec .ready none with state:=.exhausted })):=λB hB=>.put _ hl rfl hB;have ck:(rec .ready none).state≠.busy:=by rw[di];intro h;cases h
  have hpd:(rec .ready none).pending=none:=by rw[di]
  have wX:=run_endLoop (P:=P) hl ck;refine⟨none,w2.putObj (w.heap.size+1) (.loop { rec .ready none with state:=.exhausted }),by rw[wX];exact congrArg (λx=>Result.ok x _) hpd,?_⟩;have:=hQ w.heap.size _ σ2 s2 fY ((World.putObj_heap_other ae).trans hk) (Du.tw (hT w0.heap.size ae) (ajc _)) (Wz.tw (hT 0 ae)) (US.tw (hT 0 ae)) hi;have ha:({ a with defers:=[{ target:=.collected w.heap.size,args:=#[] }]++a.defers }:Act)=Act.wD a [{ target:=.collected w.heap.size,args:=#[] }]:=by rw[hR.1];rfl
  rw[ha];exact this
open Go.RowKit
variable{assign:Code}{body:Code}{e:Env}{N:Nat}{M:Nat}{P:Program}{s:List Obj}{g:Operand}{L:Nat}{y:Code}{Q:Exit->Env->List Obj->Prop}
def sZ (P:Program) (N L M:Nat) (g:Operand) (ps:Array Tmp) (assign body:Code) (e:Env) (s:List Obj) (K:Env->List Obj->Prop):Prop :=
 ∃(tf p gf:Nat) (pG:List D) (M0:Nat) (v:Nat->Int) (I:Nat->List Obj->Prop) (e1:Env) (s1:List Obj),g=.tmp tf/\ps=#[p]/\p<N/\e1 tf=.d (.cl (.func gf) [] pG)/\I0 P gf pG M0 v/\bJ L e s e1 s1/\I 0 s1 /\
  (∀i s,i<M0->I i s->codeWp P N s.length M (.seq assign body) (λex _ s'=>ex=.normal/\∃Co,bJ L e1 s' e1 Co/\I (i+1) Co) (bX e1 p (.d (.sc (.int .i64 (v i))))) s)/\∀s,I M0 s->K e1 s
theorem sZ.of{ps:Array Tmp}{K:Env->List Obj->Prop} (tf p gf:Nat) (pG:List D) (M0:Nat) (v:Nat->Int) (I:Nat->List Obj->Prop) (F:Env->Prop)
  (hg:g=.tmp tf) (tF:ps=#[p]) (hp:p<N) (hi:I0 P gf pG M0 v) (h0:∃e1 s1,bJ L e s e1 s1/\e1 tf=.d (.cl (.func gf) [] pG)/\F e1/\I 0 s1)
  (h:∀e1,F e1->∀i s,i<M0->I i s->codeWp P N s.length M (.seq assign body) (λex _ s'=>ex=.normal/\∃Co,bJ L e1 s' e1 Co/\I (i+1) Co) (bX e1 p (.d (.sc (.int .i64 (v i))))) s)
  (hK:∀e1,F e1->∀s,I M0 s->K e1 s):sZ P N L M g ps assign body e s K:=by
 obtain⟨e1,s1,h1,h2,h3,h4⟩:=h0;exact⟨tf,p,gf,pG,M0,v,I,e1,s1,hg,tF,hp,h2,hi,h1,h4,h e1 h3,hK e1 h3⟩
def qM (P:Program) (N L M:Nat):Code->(Exit->Env->List Obj->Prop)->Env->List Obj->Prop
 |.seq x y,Q,e,s=>match x with
  |.seq x1 (.block _ (.rangeFunc g ps assign body))=>codeWp P N L M x1 (λex e s=>ex=.normal/\sZ P N L M g ps assign body e s λe s=>codeWp P N s.length M y Q e s) e s
  |x=>codeWp P N L M x (λex e s=>ex=.normal/\qM P N L M y Q e s) e s
 |_,_,_,_=>False
def GK (P:Program) (N L M:Nat) (y:Code) (Q:Exit->Env->List Obj->Prop) (ex:Exit) (e:Env) (s:List Obj):Prop:=ex=.normal/\qM P N L M y Q e s
def RK (P:Program) (N L M:Nat) (g:Operand) (ps:Array Tmp) (assign body y:Code) (Q:Exit->Env->List Obj->Prop) (ex:Exit) (e:Env) (s:List Obj):Prop:=ex=.normal/\sZ P N L M g ps assign body e s λe s=>codeWp P N s.length M y Q e s
theorem rr:GK P N L M y Q .normal e s=qM P N L M y Q e s:=propext ⟨λh=>h.2,λh=>⟨rfl,h⟩⟩
theorem wm{ps:Array Tmp}:RK P N L M g ps assign body y Q .normal e s=sZ P N L M g ps assign body e s λe s=>codeWp P N s.length M y Q e s:=propext ⟨λh=>h.2,λh=>⟨rfl,h⟩⟩
theorem jP{id:Nat}{ops:Array Oper}{dr:Bool} :
  qM P N L M (.seq (.region id ops dr) y) Q e s=codeWp P N L M (.region id ops dr) (GK P N L M y Q) e s:=(rfl)
theorem nj{i:Nat}{x1:Code}{ps:Array Tmp} :
  qM P N L M (.seq (.seq x1 (.block i (.rangeFunc g ps assign body))) y) Q e s=codeWp P N L M x1 (RK P N L M g ps assign body y Q) e s:=(rfl)
def QG (σ0:Gh) (s0:List Obj) (w0:World) (N:Nat) (Q:Exit->Env->List Obj->Prop):Exit->Act->World->Prop :=
 λex a w=>∃D:Nat,w0.heap.size<=D/\a.defers=[{ target:=.collected D,args:=#[] }]/\w.heap[D]?=some (.deferred (some []))/\QX σ0 s0 w0 N Q ex (Act.wD a []) w
theorem xq {P:Program}{N L M:Nat}{σ0:Gh}{s0:List Obj}{w0:World} (hL:s0.length<=L):∀(c:Code) (Q:Exit->Env->List Obj->Prop) (e:Env) (s:List Obj) (σ:Gh) (w:World) (a:Act),
  aG σ0 s0 w0 σ s w->Inv σ s w->eC σ s w N e a->qM P N L M c Q e s->c.wpIn (GD none) 0 P (QG σ0 s0 w0 N Q) a w
 |.seq x y,Q,e,s,σ,w,a,hE,hI,hR,h=>by
  simp only[qM]at h;split at h
  ·rename_i x1 i g ps assign body;refine wpIn_seq (wpIn_seq ?_);have h1:=cA hL x1 _ e s σ w a hE hI hR h none [];rw[tV hR.1]at h1;refine wpIn_mono h1 ?_;rintro ex a1 w1 ⟨qK,_,e1,σ1,s1,Tp,UP,Qd,rfl,hr⟩;rw[tV qK]at Qd;obtain⟨tf,p,gf,pG,M0,v,I,e2,s2,rfl,rfl,hp,hg,Qb,hc,h0,hround,hK⟩:=hr;obtain⟨σ2,Du,Wz,US⟩:=hc σ0 s0 w0 σ1 w1 N a1 hL Tp UP Qd;refine wpIn_block (K1 hL Qb I Du Wz US hg hp h0 hround ?_);intro D w3 σ3 s3 hD hH hE3 hI3 hR3 hi;have h3:=cA (L:=s3.length) (ajc _) y Q e2 s3 σ3 w3 a1 (.refl _ _ _) hI3 hR3 (hK s3 hi) none [{ target:=.collected D,args:=#[] }];refine wpIn_mono h3 ?_;rintro ex a4 w4 ⟨hd4,hk4,e4,σ4,s4,hE4,hI4,hR4,hq⟩;exact⟨D,hD,hd4,hk4 _ _ hH rfl,e4,σ4,s4,hE3.trans hE4,hI4,hR4,hq⟩
  ·refine wpIn_seq ?_;have h1:=cA hL x _ e s σ w a hE hI hR h none [];rw[tV hR.1]at h1;refine wpIn_mono h1 ?_;rintro ex a1 w1 ⟨qK,_,e1,σ1,s1,Tp,UP,Qd,rfl,hr⟩;rw[tV qK]at Qd;exact xq hL y Q e1 s1 σ1 w1 a1 Tp UP Qd hr
 |.skip,_,_,_,_,_,_,_,_,_,h=>h.elim
 |.region ..,_,_,_,_,_,_,_,_,_,h=>h.elim
 |.cond ..,_,_,_,_,_,_,_,_,_,h=>h.elim
 |.block ..,_,_,_,_,_,_,_,_,_,h=>h.elim
 |.loop ..,_,_,_,_,_,_,_,_,_,h=>h.elim
 |.exit ..,_,_,_,_,_,_,_,_,_,h=>h.elim
 |.ret,_,_,_,_,_,_,_,_,_,h=>h.elim
 |.rangeFunc ..,_,_,_,_,_,_,_,_,_,h=>h.elim
 |.scope _,_,_,_,_,_,_,_,_,_,h=>h.elim
 |.label _,_,_,_,_,_,_,_,_,_,h=>h.elim
 |.goto _,_,_,_,_,_,_,_,_,_,h=>h.elim
 |.refuse _,_,_,_,_,_,_,_,_,_,h=>h.elim
theorem OM {P : Program} {f : FuncId} {fn : Func} {c : Code} {args : List V} {exts : List Obj} {K : V → List Obj → Prop} (hf : P.funcs[f]? = some fn) (hb : fn.body = some c) {N : Nat} (hN : fn.ntmps = N) {rs : Array ResultVar} (Qt : fn.results = rs) (hn : (fn.name != "runtime.NumGoroutine") = true)
  (lim M:Nat) (hl:exts.length<=lim) (ha:args.length<=N)
  (h:qM P N lim M c (tY P rs.toList lim K) (iX args) exts):az P f args exts K:=by
 subst hN;subst Qt;refine⟨by simp only[Ml,hf,hn,hb,Option.isSome_some,aka],λσ w vals hI Xb hv=>?_⟩;refine callsIn_wide.1 (callsIn_of_wp_marks (F:=Fence.wide) (n:=0) hf hb trivial ?_ rfl);have hR:eC σ exts w fn.ntmps (iX args) { tmps:=vals++Array.replicate (fn.ntmps-vals.size) undef,defers:=[] }:=by
  refine⟨rfl,cG,λt=>?_⟩;rw[oZ];by_cases ht:t<args.length
  ·have h1:=hv t args[t] (by simp [ht]);have:(vals++Array.replicate (fn.ntmps-vals.size) undef).getD t undef=vals.getD t undef:=by rw[ajl,aj8 ae,ajl]
   rw[this];simpa [ht]using h1
  ·have:(vals++Array.replicate (fn.ntmps-vals.size) undef).getD t undef=undef:=by rw[ajl,akd ae,Array.getElem?_replicate];split <;> rfl
   rw[this];simp [ht];exact .un
 refine wpIn_mono (F:=GD none) (xq hl c _ (iX args) exts σ w _ (aG.refl _ _ _) hI hR h) ?_;rintro ex a' w' ⟨D,hD,hd,hH,e',σ',s',hE,ko,qp,hex,hq⟩;have hT:Tw w.heap.size w' (w'.putObj D (.deferred none)):=.put _ hH rfl hD;have Du:=hE.tw hT (ajc _);have Wz:=ko.tw hT;obtain⟨v,u,k1,k2,k3⟩:=nG Wz (qp.tw hT) hq;obtain⟨ba,h0,hK⟩:=k3;obtain⟨h1,h2,h3⟩:=u5 h0;have fin:LeavesInM Fence.wide 0 P fn a'.tmps (λe Rb=>∃u v σ' s',e=.returned u/\aG σ exts w σ' s' Rb/\Inv σ' s' Rb/\aC σ' s' Rb v u/\K v s') a'.defers .returning w':=by rw[hd];refine⟨aj,.inl ⟨D,_,rfl,run_takeDeferred hH,?_⟩⟩;exact⟨u,k1,u,_,_,_,rfl,Du.Fv h2 (λid du=>h3 id ae),Wz.Fv h2 h1,k2.Fv h2,hK⟩
 rcases rQ hex with rfl|rfl
 ·exact fin
 ·exact fin
theorem ct.Vf{o:Obj}{v:V} (k t:Nat) (he:e t=.rf k o.g 0 0) (ho:s[k]?=some o) (hl:o.live=true) (iG:o.aw=[[v]]):ct e s (bX e t (.bx v)) (bP s k):=by
 intro σ0 s0 w0 σ w N a hE hI hR;obtain⟨h1,h2⟩:=uX hI k;refine⟨σ,hE.trans h1,h2,hR.1,hR.2.1,λt'=>?_⟩;unfold bX;split
 ·rename_i ht;subst ht;have hr:=hR.2.2 t';rw[he]at hr;generalize a.tmps.getD t' undef=u at hr;cases hr with|rf o' jV hg hu hk=>?_
  rw[ho]at jV;cases jV;obtain⟨b,base,hs,hc,rfl⟩:=hk rfl;rcases hI.content k o ho with h0|⟨b',bQ,arr,E,k1,k2,k3,k4,k5⟩
  ·exact(h0.Cz hs hc).elim
  rw[hs]at k1;cases k1;obtain⟨u',g1,g2,g3⟩:=k5 0 0 v (by rw[iG];rfl);have rG:w.cell? ⟨b,base+0*o.sz+0,none⟩=some u':=by simp only[World.cell?,k2];simpa using g1
  refine .bx rfl rG ?_ g2 (g3.aZ h1);rintro (hb|⟨id,o2,B6,l1,l2,l3⟩)
  ·exact hI.apart k o b base ho hs hb
  ·obtain⟨o3,m1,_,_,_,m5⟩:=kv l1;have:id=k:=hI.inj id k o3 o b B6 base m1 ho (m5 l2) l3 hs;subst this;unfold bP at l1;rw[ho]at l1;simp only at l1;rw[ajm (List.getElem?_eq_some_iff.1 ho).1]at l1;cases l1;cases l2
 ·exact(hR.2.2 t').aZ h1
end Go.VL
