/- A part of the proof (G23 G33 O4 Vra Vrb Vrc Vrd). -/
import Derived.RangeFuncLeaves
import Derived.RangeFuncKeeps
import Derived.Test.YtjjfioalgbecmaaGreatOQ25
set_option linter.unusedSimpArgs false
set_option linter.unusedVariables false
set_option maxRecDepth 100000
set_option maxHeartbeats 80000000
namespace Go.Proofs.YtjjfioalgbecmaaGreat
open Go.VL Go.Proofs.Tryz
def SR.same (m:SR):Prop:=m.VA=true->m.own=m.t
instance (m:SR):Decidable m.same:=by unfold SR.same;infer_instance
def SR.eF (m:SR) (p:MQ):Prop:=(0<=m.steps/\m.steps<=10000000000000/\m.top<=m.stk.length/\m.top<=1200000000000)/\(0<=p.at_/\p.at_<=m.t.length/\p.ai.length<=1000000000)/\m.t.length<=1000000/\m.same
instance (m:SR) (p:MQ):Decidable (m.eF p):=by unfold SR.eF;infer_instance
theorem LI (x:Int):aM prog 100 [i64 x] (bV (sj x)):=by
 refine bo func100 ntmps100 results100 0 5 ?_;simp only[zX,simprocAttr,i64]
 repeat' (first
 |(with_reducible refine And.intro qH ?_)
 |(with_reducible first|refine jQ (λhc=>?_) (λhc=>?_)|refine dI (λhc=>?_) (λhc=>?_)|refine dH (λhc=>?_) (λhc=>?_)|refine cZ (λhc=>?_) (λhc=>?_)|refine cY (λhc=>?_) (λhc=>?_)|refine gX (λhc=>?_) (λhc=>?_)|refine dF (λhc=>?_) (λhc=>?_))<;>simp only[zI,simprocAttr,ge_iff_le,hc])
 all_goals (simp only[sj,bV];simp [*];try omega)
theorem Hh (n:Int) (t:List Int) (i:Int) (gp:0<=n) (Mb:n<=5) (ht:t.length<=1000000) (h0:0<=i) (h1:i<=t.length):aM prog 68 [i64 n,.d (ao t),i64 i] (bV (bL n t i)):=by
 have w1:IntKind.i64.wrap (i-1)=i-1:=bG _ ae;have hw:=LI (mG t (i-1));have U1:=LI (mG t i);simp only[i64,bV]at hw U1;have u1:¬i<0:=ae;have u2:¬(t.length:Int)<i:=ae;have hg1:0<i->t[(i-1).toNat]?=some (mG t (i-1)):=λh=>pM ae ae;have Q4:i<t.length->t[i.toNat]?=some (mG t i):=λh=>pM h0 h;have wg:n=0\/n=1\/n=2\/n=3\/n=4\/n=5:=ae;rcases wg with rfl|rfl|rfl|rfl|rfl|rfl
 ·refine bo func68 ntmps68 results68 0 9007199254872519 ?_;simp only[zI,simprocAttr,iD,ao,u1,u2,gt_iff_lt];simp [bL,bV]
 ·refine bo func68 ntmps68 results68 0 9007199254872519 ?_;simp only[zI,simprocAttr,iD,ao,u1,u2,gt_iff_lt];simp [bL,bV]
 ·by_cases c:i=0
  ·have e:=eq_true c;refine bo func68 ntmps68 results68 0 9007199254872519 ?_;simp only[zI,simprocAttr,iD,ao,u1,u2,gt_iff_lt,e];simp [bL,bV,c]
  ·have b1:0<=i-1:=by omega
   have b2:i-1<(t.length:Int):=ae;have g1:=hg1 ae;refine bo func68 ntmps68 results68 0 9007199254872519 ?_;simp only[zI,simprocAttr,iD,ao,u1,u2,gt_iff_lt,c,w1,b1,b2,g1];simp [bL,bV,c]
 ·by_cases c:i=(t.length:Int)
  ·have e:=eq_true c;refine bo func68 ntmps68 results68 0 9007199254872519 ?_;simp only[zI,simprocAttr,iD,ao,u1,u2,gt_iff_lt,e];simp [bL,bV,c]
  ·have b2:i<(t.length:Int):=by omega
   have g2:=Q4 b2;refine bo func68 ntmps68 results68 0 9007199254872519 ?_;simp only[zI,simprocAttr,iD,ao,u1,u2,gt_iff_lt,c,h0,b2,g2];simp [bL,bV,c]
 all_goals
  by_cases c1:0<i
  ·have b1:0<=i-1:=by omega
   have b2:i-1<(t.length:Int):=ae;have g1:=hg1 c1;by_cases c2:i<(t.length:Int)
   ·have g2:=Q4 c2;refine bo func68 ntmps68 results68 0 9007199254872519 ?_;simp only[zI,simprocAttr,iD,ao,u1,u2,gt_iff_lt,c1,c2,w1,b1,b2,g1,g2,h0];refine dY hw ?_;simp only[zI,simprocAttr,iD,ao,u1,u2,gt_iff_lt,c1,c2,w1,b1,b2,g1,g2,h0];refine dY U1 ?_;simp only[zI,simprocAttr,iD,ao,u1,u2,gt_iff_lt,c1,c2,w1,b1,b2,g1,g2,h0];simp [bL,bV,pn,lD,c1,c2] <;> (cases sj (mG t (i-1)) <;> cases sj (mG t i) <;> rfl)
   ·refine bo func68 ntmps68 results68 0 9007199254872519 ?_;simp only[zI,simprocAttr,iD,ao,u1,u2,gt_iff_lt,c1,c2,w1,b1,b2,g1,h0];refine dY hw ?_;simp only[zI,simprocAttr,iD,ao,u1,u2,gt_iff_lt,c1,c2,w1,b1,b2,g1,h0];simp [bL,bV,pn,lD,c1,c2]
  ·by_cases c2:i<(t.length:Int)
   ·have g2:=Q4 c2;refine bo func68 ntmps68 results68 0 9007199254872519 ?_;simp only[zI,simprocAttr,iD,ao,u1,u2,gt_iff_lt,c1,c2,g2,h0];refine dY U1 ?_;simp only[zI,simprocAttr,iD,ao,u1,u2,gt_iff_lt,c1,c2,g2,h0];simp [bL,bV,pn,lD,c1,c2]
   ·refine bo func68 ntmps68 results68 0 9007199254872519 ?_;simp only[zI,simprocAttr,iD,ao,u1,u2,gt_iff_lt,c1,c2,h0];simp [bL,bV,pn,lD,c1,c2]
theorem CE (t:List Int) (root parts:D) (bg nb:Nat) (Bs:List (List Bool)) (b a:Nat) (re:Re) (k:Nat) (i:Int) (h0:0<=i) (eO:re.set.length<=1000000) (ht:t.length<=1000000) :
  ar Tryz.prog 65 [i64 i,.bx (.pp 0 0 0 0 b a),.bx (.d (re.bk k))] [dz t root parts bg nb,fx bg Bs] λv s=>v=bV (decide (i<t.length)&&ED re.set (mG t i))/\s=[dz t root parts bg nb,fx bg Bs]:=by
 have hh:=VD re.set (mG t i) ae;have hb:=gu 2 bg Bs;rw[Re.ek];by_cases az:i<(t.length:Int)
 ·have hn:i.toNat<t.length:=by omega
  have hg:t[i.toNat]?=some (mG t i):=by unfold mG;rw[List.getD_eq_getElem?_getD,List.getElem?_eq_getElem hn];rfl
  refine bo Tryz.func65 Tryz.ntmps65 Tryz.results65 2 23 ?_;simp only[zQ,simprocAttr];refine cu mix [] [(2,[0],[]),(3,[0],[]),(4,[0],[]),(14,[0],[]),(15,[0],[]),(16,[0],[])] ?_;simp only[zQ,simprocAttr,b6,aO,dz,ao,ajM,az,h0,hn,hg,List.getElem?_map,ajS];refine Fk hh ?_;simp only[zQ,simprocAttr,b6,aO,dz,ao,ajM,az,h0,hn,hg,List.getElem?_map,ajS,hb]
 ·refine bo Tryz.func65 Tryz.ntmps65 Tryz.results65 2 23 ?_;simp only[zQ,simprocAttr];refine cu mix [] [(2,[0],[]),(3,[0],[]),(4,[0],[]),(14,[0],[]),(15,[0],[]),(16,[0],[])] ?_;simp only[zQ,simprocAttr,b6,aO,dz,ao,ajM,az,h0,hb];rfl
theorem wh (t:List Int) (root parts:D) (bg nb:Nat) (Bs:List (List Bool)) (b a:Nat) (re:Re) (k:Nat) (i:Int) (h0:0<=i) (h1:i<=t.length) (gp:0<=re.n) (Mb:re.n<=5) (ht:t.length<=1000000) :
  ar Tryz.prog 67 [i64 i,.bx (.d (re.bk k)),.bx (.pp 0 0 0 0 b a)] [dz t root parts bg nb,fx bg Bs] λv s=>v=bV (bL re.n t i)/\s=[dz t root parts bg nb,fx bg Bs]:=by
 have hh:=Hh re.n t i gp Mb ht h0 h1;have hb:=gu 2 bg Bs;rw[Re.ek];refine bo Tryz.func67 Tryz.ntmps67 Tryz.results67 2 23 ?_;simp only[zQ,simprocAttr];refine cu mix [] [(6,[0],[]),(7,[0],[]),(8,[0],[])] ?_;simp only[zQ,simprocAttr,b6,aO,dz,ao];refine Fk hh ?_;simp only[zQ,simprocAttr,b6,aO,dz,ao,hb]
theorem Ax (t:List Int) (root parts:D) (bg nb:Nat) (Bs:List (List Bool)) (b a:Nat) (re:Re) (k:Nat) (i:Nat) (nD:nb=Bs.length) {l:List Bool}{y:Bool} (hl:Bs[k]?=some l) (hy:l[i]?=some y) :
  ar Tryz.prog 69 [i64 i,.bx (.pp 0 0 0 0 b a),.bx (.d (re.bk k))] [dz t root parts bg nb,fx bg Bs] λv s=>v=bV y/\s=[dz t root parts bg nb,fx bg Bs]:=by
 have hb:((Bs.map λl=>[V.d (D.sl (l.map λb=>[D.sc (Value.bool b)]))]).all λe=>e.all (aj 2))=true:=gu 2 bg Bs;have hk:k<Bs.length:=(List.getElem?_eq_some_iff.1 hl).1;have hi:i<l.length:=(List.getElem?_eq_some_iff.1 hy).1;have c1:(k:Int)<(Bs.length:Int):=ae;have c2:(i:Int)<(l.length:Int):=ae;have c3:(0:Int)<=(k:Int):=ae;have c4:(0:Int)<=(i:Int):=ae;rw[Re.ek];subst nD;refine bo Tryz.func69 Tryz.ntmps69 Tryz.results69 2 23 ?_;simp only[zQ,simprocAttr];refine cu mix [] [(1,[0],[]),(2,[0],[]),(3,[0],[]),(8,[1],[]),(9,[1],[])] ?_;simp only[zQ,simprocAttr,b6,aO,dz,fx,ao,c1,c2,c3,c4,hk,hi,ajP,ajM,List.getElem?_map,hl,hy,ajS,ajT];exact hb
end Go.Proofs.YtjjfioalgbecmaaGreat
namespace Go.VL
open Go.RowKit
variable{B:Nat}{w:World}
structure Tw (B:Nat) (w w':World):Prop where
 os:w'.os=w.os
 tape:w'.tape=w.tape
 output:w'.output=w.output
 size:w.heap.size<=w'.heap.size
 same:∀(b:Nat) (o:Go.Obj),w.heap[b]?=some o->zC o=false->w'.heap[b]?=some o
 low:∀b,b<B->b<w.heap.size->w'.heap[b]?=w.heap[b]?
theorem Tw.trans{w' OR:World} (h:Tw B w w') (k:Tw B w' OR):Tw B w OR :=
 ⟨k.os.trans h.os,k.tape.trans h.tape,k.output.trans h.output,akS h.size k.size,λb o ho hb=>k.same b o (h.same b o ho hb) hb,
  λb h1 h2=>(k.low b h1 (ak8 h2 h.size)).trans (h.low b h1 h2)⟩
theorem Tw.alloc (w:World) (o:Go.Obj):Tw B w (w.alloc o) :=
 ⟨rfl,rfl,rfl,ak,λb o' h _=>(Below.heap_alloc w o b (dN h)).trans h,λb _ h=>Below.heap_alloc w o b h⟩
theorem Tw.put{r:Nat}{o:Go.Obj} (o':Go.Obj) (h:w.heap[r]?=some o) (ho:zC o=true) (hB:B<=r):Tw B w (w.putObj r o') :=
 ⟨rfl,rfl,rfl,ak,λb o2 hb h2=>by
  by_cases e:b=r
  ·subst e;rw[h]at hb;cases hb;rw[ho]at h2;cases h2
  ·exact(World.putObj_heap_other e).trans hb,
  λb h1 _=>World.putObj_heap_other ae⟩
variable {B:Nat}{w w':World}
variable{u:Value}{σ:Gh}{s:List Obj}
theorem Tw.cell (h:Tw B w w') {a:Addr} (hc:w.cell? a=some u):w'.cell? a=some u:=by obtain⟨o,ho,jV⟩:=cells_of_cell hc;have:w'.heap[a.block]?=w.heap[a.block]?:=(h.same _ o ho (by cases o <;> simp_all [Obj.isCells,zC])).trans ho.symm;rw[World.cell?_of_block this];exact hc
theorem cU.tw {O:Nat->Prop} (h:Tw B w w') {x:D} (hr:cU O w x u):cU O w' x u:=by
 induction hr with
 |sc v hv=>exact .sc v hv
 |nil=>exact .nil
 |sl au a cap sz f h1 h2 h3 h4 _ ih=>exact .sl au a cap sz f h1 h2 h3 (λi j x hx=>⟨h.cell (h4 i j x hx).1,(h4 i j x hx).2⟩) ih
 |el cs a f h1 h2 _ ih=>exact .el cs a f h1 (λj x hx=>⟨h.cell (h2 j x hx).1,(h2 j x hx).2⟩) ih
 |cl h1 _ h3 _ sM xr=>exact .cl h1 sM h3 xr
 |ub b=>exact .ub b
theorem FM.tw (h:Tw B w w') {b:Nat} (hc:FM w b):FM w' b:=by obtain⟨arr,E,hh⟩:=hc;exact⟨arr,E,h.same _ _ hh rfl⟩
theorem Rk.tw (h:Tw B w w') {b:Nat} (hc:Rk w b):Rk w' b:=by obtain⟨es,c,hh⟩:=hc;exact⟨es,c,h.same _ _ hh rfl⟩
theorem zq.tw (h:Tw B w w') {id:Nat}{o:Obj}{lo n:Nat} (hk:zq σ w id o lo n u):zq σ w' id o lo n u:=by
 rcases hk with h1|⟨b,base,cap,E,arr,h1,h2,h3⟩
 ·exact .inl h1
 ·exact .inr ⟨b,base,cap,E,arr,h1,h.same _ _ h2 rfl,h3⟩
theorem ay.tw (h:Tw B w w') {x:V} (hr:ay σ s w x u):ay σ s w' x u:=by
 induction hr with
 |d hx=>exact .d (hx.tw h)
 |ag h1 h2 _ ih=>exact .ag h1 h2 ih
 |tu h1 _ ih=>exact .tu h1 ih
 |fu hx=>exact .fu (hx.tw h)
 |so o ho hg hu hk=>exact .so o ho hg hu λhe=>(hk he).tw h
 |rf o ho hg hu hk =>
  refine .rf o ho hg hu λhe=>?_;obtain⟨b,base,k1,kc,k2⟩:=hk he;exact⟨b,base,k1,kc.tw h,k2⟩
 |pp o ho hg hk =>
  refine .pp o ho hg λhe=>?_;obtain⟨base,k1,kc,k2⟩:=hk he;exact⟨base,k1,kc.tw h,k2⟩
 |mp o ho hg hu hk =>
  refine .mp o ho hg hu λhe=>?_;obtain⟨b,k1,kc,k2⟩:=hk he;exact⟨b,k1,kc.tw h,k2⟩
 |cap h1 _ ih=>exact .cap h1 ih
 |bx h1 h2 h3 hu _ ih=>exact .bx h1 (h.cell h2) h3 hu ih
 |cl h1 _ h3 _ sM xr=>exact .cl h1 sM h3 xr
 |un=>exact .un
 |any=>exact .any
theorem Inv.tw (h:Tw B w w') (hI:Inv σ s w):Inv σ s w':=by
 refine⟨λid o ho=>?_,hI.inj,λb hb=>ak8 (hI.low b hb) h.size,hI.apart⟩;rcases hI.content id o ho with h0|⟨b,base,arr,E,h1,h2,h3,h4,h5⟩
 ·refine .inl ?_;rcases h0 with h0|⟨b,es,c,h1,h2,h3⟩
  ·exact .inl h0
  ·exact .inr ⟨b,es,c,h1,h.same _ _ h2 rfl,h3⟩
 ·refine .inr ⟨b,base,arr,E,h1,h.same _ _ h2 rfl,h3,h4,λi j x hx=>?_⟩;obtain⟨u,k1,k2,k3⟩:=h5 i j x hx;exact⟨u,k1,k2,k3.tw h⟩
theorem dC.tw{N:Nat}{e:Nat->V}{a:Act} (h:Tw B w w') (hR:dC σ s w N e a):dC σ s w' N e a :=
 ⟨hR.1,hR.2.1,λt=>(hR.2.2 t).tw h⟩
theorem aC.tw {σ0:Gh}{s0:List Obj}{w0:World} (h:Tw B w w') (hB:w0.heap.size<=B) (hE:aC σ0 s0 w0 σ s w):aC σ0 s0 w0 σ s w':=by
 refine⟨h.os.trans hE.os,h.tape.trans hE.tape,h.output.trans hE.output,akS hE.size h.size,λb hb ho=>?_,λb arr E ho hh=>?_,λb ho hm=>(hE.qc b ho hm).tw h,hE.own,hE.iN,hE.base,λb hb hf=>?_⟩
 ·exact(h.low b ae (ak8 hb hE.size)).trans (hE.aZ b hb ho)
 ·obtain⟨bR,h1,h2⟩:=hE.shape b arr E ho hh;exact⟨bR,h.same _ _ h1 rfl,h2⟩
 ·exact(h.low b ae (ak8 hb hE.size)).trans (hE.fj b hb hf)
open Go.RowKit
theorem aC.both {σ σ':Gh}{s s':List Obj}{w w':World} (h:aC σ s w σ' s' w') {l:Nat}{o:Go.Obj} (ho:zC o=true) (h1:l<w.heap.size) (h2:l<w'.heap.size):aC σ s (w.putObj l o) σ' s' (w'.putObj l o):=by
 have key:∀b,(b≠l->w'.heap[b]?=w.heap[b]?)->(w'.putObj l o).heap[b]?=(w.putObj l o).heap[b]?:=λb hb=>by
  by_cases e:b=l
  ·subst e;rw[World.putObj_heap_same h1,World.putObj_heap_same h2]
  ·rw[World.putObj_heap_other e,World.putObj_heap_other e];exact hb e
 refine⟨h.os,h.tape,h.output,by simpa using h.size,λb hb hO=>key b λ_=>h.aZ b (by simpa using hb) hO,λb arr E hO hh=>?_,λb hO hm=>?_,λb hb=>by simpa using h.own b hb,h.iN,h.base,λb hb hf=>key b λ_=>h.fj b (by simpa using hb) hf⟩
 ·by_cases e:b=l
  ·subst e;rw[World.putObj_heap_same h1]at hh;cases hh;cases ho
  ·rw[World.putObj_heap_other e]at hh ⊢;exact h.shape b arr E hO hh
 ·by_cases e:b=l
  ·subst e;obtain⟨es,c,hh⟩:=hm;rw[World.putObj_heap_same h1]at hh;cases hh;cases ho
  ·obtain⟨es,c,hh⟩:=hm;rw[World.putObj_heap_other e]at hh;obtain⟨es',c',Mm⟩:=h.qc b hO ⟨es,c,hh⟩;exact⟨es',c',by rw[World.putObj_heap_other e];exact Mm⟩
def Ii (P:Program) (gf:Nat) (oh:List D) (Md:Nat) (v:Nat->Int):Prop :=
 (∀args w,(callFunc gf args).run P w=.ok (.enter gf args) w) /\
 ∀(lb:Array Value) (l:Nat) (J:Nat->World->Prop),lb.size=oh.length->(∀i W,J i W->∀j x,oh[j]?=some x->cU (λ_=>False) W x (lb.getD j undef)) ->
  (∀i W,J i W->i<Md->YieldAt (FW none) 0 P l #[.int .i64 (v i)] W λe W'=>e=.returned (.bool true)/\J (i+1) W') ->
  ∀W,J 0 W->CallsIn (FW none) 0 P gf (#[.func (.yield l) #[] #[]]++lb) W λe W'=>(∃u,e=.returned u)/\J Md W'
theorem Kn {P:Program}{N L M:Nat}{σ0:Gh}{s0:List Obj}{w0:World} (hL:s0.length<=L) {tf p:Nat}{assign body:Code}{gf:Nat}{oh:List D}{Md:Nat}{v:Nat->Int} (hit:Ii P gf oh Md v) (I:Nat->List Obj->Prop)
  {e:Env}{s:List Obj}{σ:Gh}{w:World}{a:Act} (hE:aC σ0 s0 w0 σ s w) (hI:Inv σ s w) (hR:dC σ s w N e a) (hg:e tf=.d (.cl (.func gf) [] oh)) (hp:p<N) (h0:I 0 s)
  (hround:∀i s,i<Md->I i s->codeWp P N s.length M (.seq assign body) (λex _ s'=>ex=.normal/\∃Bm,bA L e s' e Bm/\I (i+1) Bm) (bK e p (.d (.sc (.int .i64 (v i))))) s)
  {Q:Exit->Act->World->Prop} (hQ:∀(D:Nat) (w':World) (σ':Gh) (s':List Obj),w0.heap.size<=D->w'.heap[D]?=some (.deferred (some []))->aC σ0 s0 w0 σ' s' w'->Inv σ' s' w'->dC σ' s' w' N e a->I Md s' ->
   Q .normal (Act.wD a [{ target:=.collected D,args:=#[] }]) w') :
  (Code.rangeFunc (.tmp tf) #[p] assign body).wpIn (FW none) 0 P Q a w:=by
 have ia:∀{σ:Gh}{s:List Obj}{w:World},dC σ s w N e a->∃lb:Array Value,a.eval (.tmp tf)=.func (.func gf) #[] lb/\lb.size=oh.length/\∀j x,oh[j]?=some x->cU (λ_=>False) w x (lb.getD j undef):=by
  intro σ s w hR;have h:=hR.2.2 tf;rw[hg]at h;show ∃lb,a.tmps.getD tf undef=_/\_;generalize a.tmps.getD tf undef=u at h;cases h with|d h=>?_
  cases h with|@cl _ _ _ f' c' h1 h2 h3 h4=>?_
  have:f'=#[]:=Array.eq_empty_of_size_eq_zero (by simpa using h1);subst this;exact⟨c',rfl,h3,λj x hx=>(h4 j x hx).own λ_ hf=>hf.elim⟩
 obtain⟨lb,PN,aeg,_⟩:=ia hR;refine wpIn_rangeFunc ?_;intro fn Zm;obtain⟨rec,vE⟩:∃rec:LoopState->Option Code->Loop,rec=λst pe=>{ state:=st,pending:=pe,fn,tmps:=a.tmps,params:=#[p],assign,body,defers:=w.heap.size }:=⟨_,rfl⟩
 obtain⟨W1,hW1⟩:∃W1,(w.alloc (.deferred (some []))).alloc (.loop (rec .ready none))=W1:=⟨_,rfl⟩
 have ZG:W1.heap[w.heap.size+1]?=some (.loop (rec .ready none)):=by rw[<- hW1];have:=World.alloc_heap_new (w.alloc (.deferred (some []))) (.loop (rec .ready none));rwa [World.size_alloc]at this
 have WN:W1.heap[w.heap.size]?=some (.deferred (some [])):=by rw[<- hW1];exact(Below.heap_alloc _ _ _ ak).trans (World.alloc_heap_new w _)
 have hT1:Tw w0.heap.size w W1:=by rw[<- hW1];exact(Tw.alloc _ _).trans (Tw.alloc _ _)
 have eZ:=hE.size;refine⟨w.heap.size+1,[{ target:=.collected w.heap.size,args:=#[] }],W1,{ target:=.fn (.func gf) lb,args:=#[.func (.yield (w.heap.size+1)) #[] #[]] },W1,gf,
  #[.func (.yield (w.heap.size+1)) #[] #[]]++lb,W1,?_,?_,?_,?_,λh=>by simp [FW,Fence.wide]at h,?_⟩
 ·rw[<- hW1,vE];exact run_enterLoop_outer _ _ _ _ _
 ·simp only[resolve,PN];simp [go_sem]
 ·intro f' hf';exact trivial
 ·simp [invoke,go_sem,hit.1]
 refine((hit.2 lb (w.heap.size+1) (λi W=>∃σ s,aC σ0 s0 w0 σ s W/\Inv σ s W/\dC σ s W N e a/\I i s/\W.heap[w.heap.size+1]?=some (.loop (rec .ready none))/\W.heap[w.heap.size]?=some (.deferred (some []))) aeg
  (λi W ⟨σ,s,_,_,hR,_⟩=>by
   obtain⟨lb',h1,_,h3⟩:=ia hR;rw[PN]at h1;cases h1;exact h3) ?_ W1 ⟨σ,s,hE.tw hT1 (ajZ _),hI.tw hT1,hR.tw hT1,h0,ZG,WN⟩)).mono ?_
 ·
  rintro i W ⟨σ1,s1,Qh,Rn,Rg,hi,hl,hk⟩ az;have hy:=run_yield (P:=P) (args:=#[.int .i64 (v i)]) hl (by rw[vE];rfl);have hwl:w.heap.size+1<W.heap.size:=dN hl;have hbz:zC (.loop { rec .ready none with state:=.busy })=true:=rfl;have xA:rec .ready none={ state:=.ready,pending:=none,fn,tmps:=a.tmps,params:=#[p],assign,body,defers:=w.heap.size }:=by rw[vE]
  rw[vE]at hy;refine⟨fn,_,assign,body,hy,roundIn_of_wpIn Zm ?_⟩;have hd:=hround i s1 az hi;have Zc:dC σ1 s1 W N (bK e p (.d (.sc (.int .i64 (v i))))) (a.put (some p) (.int .i64 (v i))):=dC.put Rg (d:=some p) hp (.d (.sc _ rfl));have hs:=cx (L:=s1.length) (M:=M) (ajZ _) assign _ _ s1 σ1 W _ (.refl _ _ _) Rn Zc hd (some (w.heap.size+1)) [];have aeH:({ tmps:=(#[p].zip #[Value.int .i64 (v i)]).foldl (λt (p,v)=>t.setIfInBounds p v) a.tmps,defers:=[] }:Act)=Act.wD (a.put (some p) (.int .i64 (v i))) []:=by simp [Act.wD,Act.put]
  simp only at hy ⊢;rw[aeH];refine wpIn_mono (F:=FW (some (w.heap.size+1))) hs ?_;rintro ex a1 w1 ⟨qh,vd,e1,σ2,s2,Cf,Rf,hR3,hq⟩;cases ex with
  |normal =>
   have oT:=vd _ _ hl rfl;have abQ:=dN oT;refine⟨_,run_beginRound oT (by rw[vE]),?_⟩;have hT2:∀B,B<=w.heap.size+1->Tw B w1 (w1.putObj (w.heap.size+1) (.loop { rec .ready none with state:=.busy })):=λB hB=>.put _ oT rfl hB;have hT3:∀B,B<=w.heap.size+1->Tw B W (W.putObj (w.heap.size+1) (.loop { rec .ready none with state:=.busy })):=λB hB=>.put _ hl rfl hB;have XG:=cx (L:=s1.length) (M:=M) (ajZ _) body _ e1 s2 σ2 _ _ (Cf.both hbz hwl abQ) (Rf.tw (hT2 0 ae)) (hR3.tw (hT2 0 ae)) hq (some (w.heap.size+1)) [];rw[Sq qh]at XG;refine wpIn_mono (F:=FW (some (w.heap.size+1))) XG ?_;rintro ex a2 w3 ⟨hd2,FX,e3,σ3,s3,hE3,hI3,hR4,rfl,s4,hc,hi4⟩;have Ro:=FX _ _ (World.putObj_heap_same abQ) rfl;have HX:=FX _ _ ((World.putObj_heap_other ae).trans (vd _ _ hk rfl)) rfl;have aee:=dN Ro;refine⟨_,_,run_endRound none Ro,rfl,?_⟩;have hT4:∀B,B<=w.heap.size+1->Tw B w3 (w3.putObj (w.heap.size+1) (.loop (rec .ready none))):=λB hB=>.put _ Ro rfl hB;have adm:({ ({ rec .ready none with state:=.busy }:Loop) with state:=if (none:Option Code).isNone then .ready else .done,pending:=none }:Loop)=rec .ready none:=by rw[vE];rfl
   rw[adm];have hEa:aC σ0 s0 w0 σ3 s3 w3:=(Qh.tw (hT3 w0.heap.size ae) (ajZ _)).trans hE3;have hRa:dC σ3 s3 w3 N e a:=(Rg.tw (hT3 0 ae)).aR hE3;obtain⟨σ4,k1,k2,k3⟩:=hc σ0 s0 w0 σ3 _ N a hL (hEa.tw (hT4 w0.heap.size ae) (ajZ _)) (hI3.tw (hT4 0 ae)) (hRa.tw (hT4 0 ae));exact⟨σ4,s4,k1,k2,k3,hi4,World.putObj_heap_same aee,(World.putObj_heap_other ae).trans HX⟩
  |exit id=>exact absurd hq.1 ak
  |goto t=>exact absurd hq.1 ak
  |ret=>exact absurd hq.1 ak
  |panic c=>exact absurd hq.1 ak
  |outgrown=>exact absurd hq.1 ak
 ·
  rintro e2 w2 ⟨⟨u,rfl⟩,σ2,s2,Cf,Rf,Zc,hi,hl,hk⟩;have U1:=dN hl;have hT:∀B,B<=w.heap.size+1->Tw B w2 (w2.putObj (w.heap.size+1) (.loop { rec .ready none with state:=.exhausted })):=λB hB=>.put _ hl rfl hB;have bH:(rec .ready none).state≠.busy:=by rw[vE];intro h;cases h
  have hpd:(rec .ready none).pending=none:=by rw[vE]
  have Fa:=run_endLoop (P:=P) hl bH;refine⟨none,w2.putObj (w.heap.size+1) (.loop { rec .ready none with state:=.exhausted }),by rw[Fa];exact congrArg (λx=>Result.ok x _) hpd,?_⟩;have:=hQ w.heap.size _ σ2 s2 eZ ((World.putObj_heap_other ae).trans hk) (Cf.tw (hT w0.heap.size ae) (ajZ _)) (Rf.tw (hT 0 ae)) (Zc.tw (hT 0 ae)) hi;have ha:({ a with defers:=[{ target:=.collected w.heap.size,args:=#[] }]++a.defers }:Act)=Act.wD a [{ target:=.collected w.heap.size,args:=#[] }]:=by rw[hR.1];rfl
  rw[ha];exact this
open Go.RowKit
variable{assign:Code}{body:Code}{e:Env}{N:Nat}{M:Nat}{P:Program}{s:List Obj}{g:Operand}{L:Nat}{y:Code}{Q:Exit->Env->List Obj->Prop}
def rX (P:Program) (N L M:Nat) (g:Operand) (ps:Array Tmp) (assign body:Code) (e:Env) (s:List Obj) (K:Env->List Obj->Prop):Prop :=
 ∃(tf p gf:Nat) (oh:List D) (Md:Nat) (v:Nat->Int) (I:Nat->List Obj->Prop) (e1:Env) (s1:List Obj),g=.tmp tf/\ps=#[p]/\p<N/\e1 tf=.d (.cl (.func gf) [] oh)/\Ii P gf oh Md v/\bA L e s e1 s1/\I 0 s1 /\
  (∀i s,i<Md->I i s->codeWp P N s.length M (.seq assign body) (λex _ s'=>ex=.normal/\∃Bm,bA L e1 s' e1 Bm/\I (i+1) Bm) (bK e1 p (.d (.sc (.int .i64 (v i))))) s)/\∀s,I Md s->K e1 s
theorem rX.of{ps:Array Tmp}{K:Env->List Obj->Prop} (tf p gf:Nat) (oh:List D) (Md:Nat) (v:Nat->Int) (I:Nat->List Obj->Prop) (F:Env->Prop)
  (hg:g=.tmp tf) (sI:ps=#[p]) (hp:p<N) (hi:Ii P gf oh Md v) (h0:∃e1 s1,bA L e s e1 s1/\e1 tf=.d (.cl (.func gf) [] oh)/\F e1/\I 0 s1)
  (h:∀e1,F e1->∀i s,i<Md->I i s->codeWp P N s.length M (.seq assign body) (λex _ s'=>ex=.normal/\∃Bm,bA L e1 s' e1 Bm/\I (i+1) Bm) (bK e1 p (.d (.sc (.int .i64 (v i))))) s)
  (hK:∀e1,F e1->∀s,I Md s->K e1 s):rX P N L M g ps assign body e s K:=by
 obtain⟨e1,s1,h1,h2,h3,h4⟩:=h0;exact⟨tf,p,gf,oh,Md,v,I,e1,s1,hg,sI,hp,h2,hi,h1,h4,h e1 h3,hK e1 h3⟩
def pN (P:Program) (N L M:Nat):Code->(Exit->Env->List Obj->Prop)->Env->List Obj->Prop
 |.seq x y,Q,e,s=>match x with
  |.seq x1 (.block _ (.rangeFunc g ps assign body))=>codeWp P N L M x1 (λex e s=>ex=.normal/\rX P N L M g ps assign body e s λe s=>codeWp P N s.length M y Q e s) e s
  |x=>codeWp P N L M x (λex e s=>ex=.normal/\pN P N L M y Q e s) e s
 |_,_,_,_=>False
def GK (P:Program) (N L M:Nat) (y:Code) (Q:Exit->Env->List Obj->Prop) (ex:Exit) (e:Env) (s:List Obj):Prop:=ex=.normal/\pN P N L M y Q e s
def RK (P:Program) (N L M:Nat) (g:Operand) (ps:Array Tmp) (assign body y:Code) (Q:Exit->Env->List Obj->Prop) (ex:Exit) (e:Env) (s:List Obj):Prop:=ex=.normal/\rX P N L M g ps assign body e s λe s=>codeWp P N s.length M y Q e s
theorem qn:GK P N L M y Q .normal e s=pN P N L M y Q e s:=propext ⟨λh=>h.2,λh=>⟨rfl,h⟩⟩
theorem ve{ps:Array Tmp}:RK P N L M g ps assign body y Q .normal e s=rX P N L M g ps assign body e s λe s=>codeWp P N s.length M y Q e s:=propext ⟨λh=>h.2,λh=>⟨rfl,h⟩⟩
theorem jk{id:Nat}{ops:Array Oper}{dr:Bool} :
  pN P N L M (.seq (.region id ops dr) y) Q e s=codeWp P N L M (.region id ops dr) (GK P N L M y Q) e s:=(rfl)
theorem mE{i:Nat}{x1:Code}{ps:Array Tmp} :
  pN P N L M (.seq (.seq x1 (.block i (.rangeFunc g ps assign body))) y) Q e s=codeWp P N L M x1 (RK P N L M g ps assign body y Q) e s:=(rfl)
def QG (σ0:Gh) (s0:List Obj) (w0:World) (N:Nat) (Q:Exit->Env->List Obj->Prop):Exit->Act->World->Prop :=
 λex a w=>∃D:Nat,w0.heap.size<=D/\a.defers=[{ target:=.collected D,args:=#[] }]/\w.heap[D]?=some (.deferred (some []))/\QX σ0 s0 w0 N Q ex (Act.wD a []) w
theorem vN {P:Program}{N L M:Nat}{σ0:Gh}{s0:List Obj}{w0:World} (hL:s0.length<=L):∀(c:Code) (Q:Exit->Env->List Obj->Prop) (e:Env) (s:List Obj) (σ:Gh) (w:World) (a:Act),
  aC σ0 s0 w0 σ s w->Inv σ s w->dC σ s w N e a->pN P N L M c Q e s->c.wpIn (FW none) 0 P (QG σ0 s0 w0 N Q) a w
 |.seq x y,Q,e,s,σ,w,a,hE,hI,hR,h=>by
  simp only[pN]at h;split at h
  ·rename_i x1 i g ps assign body;refine wpIn_seq (wpIn_seq ?_);have h1:=cx hL x1 _ e s σ w a hE hI hR h none [];rw[sU hR.1]at h1;refine wpIn_mono h1 ?_;rintro ex a1 w1 ⟨qh,_,e1,σ1,s1,Qh,Rn,Rg,rfl,hr⟩;rw[sU qh]at Rg;obtain⟨tf,p,gf,oh,Md,v,I,e2,s2,rfl,rfl,hp,hg,hit,hc,h0,hround,hK⟩:=hr;obtain⟨σ2,Cf,Rf,Zc⟩:=hc σ0 s0 w0 σ1 w1 N a1 hL Qh Rn Rg;refine wpIn_block (Kn hL hit I Cf Rf Zc hg hp h0 hround ?_);intro D w3 σ3 s3 hD hH hE3 hI3 hR3 hi;have h3:=cx (L:=s3.length) (ajZ _) y Q e2 s3 σ3 w3 a1 (.refl _ _ _) hI3 hR3 (hK s3 hi) none [{ target:=.collected D,args:=#[] }];refine wpIn_mono h3 ?_;rintro ex a4 w4 ⟨hd4,hk4,e4,σ4,s4,hE4,hI4,hR4,hq⟩;exact⟨D,hD,hd4,hk4 _ _ hH rfl,e4,σ4,s4,hE3.trans hE4,hI4,hR4,hq⟩
  ·refine wpIn_seq ?_;have h1:=cx hL x _ e s σ w a hE hI hR h none [];rw[sU hR.1]at h1;refine wpIn_mono h1 ?_;rintro ex a1 w1 ⟨qh,_,e1,σ1,s1,Qh,Rn,Rg,rfl,hr⟩;rw[sU qh]at Rg;exact vN hL y Q e1 s1 σ1 w1 a1 Qh Rn Rg hr
 |.skip,_,_,_,_,_,_,_,_,_,h=>h.elim
 |.region ..,_,_,_,_,_,_,_,_,_,h=>h.elim
 |.cond ..,_,_,_,_,_,_,_,_,_,h=>h.elim
 |.block ..,_,_,_,_,_,_,_,_,_,h=>h.elim
 |.loop ..,_,_,_,_,_,_,_,_,_,h=>h.elim
 |.exit ..,_,_,_,_,_,_,_,_,_,h=>h.elim
 |.ret,_,_,_,_,_,_,_,_,_,h=>h.elim
 |.rangeFunc ..,_,_,_,_,_,_,_,_,_,h=>h.elim
 |.scope _,_,_,_,_,_,_,_,_,_,h=>h.elim
 |.label _,_,_,_,_,_,_,_,_,_,h=>h.elim
 |.goto _,_,_,_,_,_,_,_,_,_,h=>h.elim
 |.refuse _,_,_,_,_,_,_,_,_,_,h=>h.elim
theorem NY {P : Program} {f : FuncId} {fn : Func} {c : Code} {args : List V} {exts : List Obj} {K : V → List Obj → Prop} (hf : P.funcs[f]? = some fn) (hb : fn.body = some c) {N : Nat} (hN : fn.ntmps = N) {rs : Array ResultVar} (St : fn.results = rs) (hn : (fn.name != "runtime.NumGoroutine") = true)
  (lim M:Nat) (hl:exts.length<=lim) (ha:args.length<=N)
  (h:pN P N lim M c (Cl P rs.toList lim K) (iB args) exts):ar P f args exts K:=by
 subst hN;subst St;refine⟨by simp only[LH,hf,hn,hb,Option.isSome_some,akV],λσ w vals hI XD hv=>?_⟩;refine callsIn_wide.1 (callsIn_of_wp_marks (F:=Fence.wide) (n:=0) hf hb trivial ?_ rfl);have hR:dC σ exts w fn.ntmps (iB args) { tmps:=vals++Array.replicate (fn.ntmps-vals.size) undef,defers:=[] }:=by
  refine⟨rfl,cC,λt=>?_⟩;rw[nR];by_cases ht:t<args.length
  ·have h1:=hv t args[t] (by simp [ht]);have:(vals++Array.replicate (fn.ntmps-vals.size) undef).getD t undef=vals.getD t undef:=by rw[Array.getD_eq_getD_getElem?,Array.getElem?_append_left ae,Array.getD_eq_getD_getElem?]
   rw[this];simpa [ht]using h1
  ·have:(vals++Array.replicate (fn.ntmps-vals.size) undef).getD t undef=undef:=by rw[Array.getD_eq_getD_getElem?,Array.getElem?_append_right ae,Array.getElem?_replicate];split <;> rfl
   rw[this];simp [ht];exact .un
 refine wpIn_mono (F:=FW none) (vN hl c _ (iB args) exts σ w _ (aC.refl _ _ _) hI hR h) ?_;rintro ex a' w' ⟨D,hD,hd,hH,e',σ',s',hE,fS,iY,hex,hq⟩;have hT:Tw w.heap.size w' (w'.putObj D (.deferred none)):=.put _ hH rfl hD;have Cf:=hE.tw hT (ajZ _);have Rf:=fS.tw hT;obtain⟨v,u,k1,k2,k3⟩:=mP Rf (iY.tw hT) hq;obtain⟨aZ,h0,hK⟩:=k3;obtain⟨h1,h2,h3⟩:=tL h0;have fin:LeavesInM Fence.wide 0 P fn a'.tmps (λe OR=>∃u v σ' s',e=.returned u/\aC σ exts w σ' s' OR/\Inv σ' s' OR/\ay σ' s' OR v u/\K v s') a'.defers .returning w':=by rw[hd];refine⟨ak,.inl ⟨D,_,rfl,run_takeDeferred hH,?_⟩⟩;exact⟨u,k1,u,_,_,_,rfl,Cf.Dv h2 (λid dc=>h3 id ae),Rf.Dv h2 h1,k2.Dv h2,hK⟩
 rcases qM hex with rfl|rfl
 ·exact fin
 ·exact fin
theorem bW.Vn{o:Obj}{v:V} (k t:Nat) (he:e t=.rf k o.g 0 0) (ho:s[k]?=some o) (hl:o.live=true) (gD:o.au=[[v]]):bW e s (bK e t (.bx v)) (ck s k):=by
 intro σ0 s0 w0 σ w N a hE hI hR;obtain⟨h1,h2⟩:=tJ hI k;refine⟨σ,hE.trans h1,h2,hR.1,hR.2.1,λt'=>?_⟩;unfold bK;split
 ·rename_i ht;subst ht;have hr:=hR.2.2 t';rw[he]at hr;generalize a.tmps.getD t' undef=u at hr;cases hr with|rf o' g7 hg hu hk=>?_
  rw[ho]at g7;cases g7;obtain⟨b,base,hs,hc,rfl⟩:=hk rfl;rcases hI.content k o ho with h0|⟨b',bN,arr,E,k1,k2,k3,k4,k5⟩
  ·exact(h0.yF hs hc).elim
  rw[hs]at k1;cases k1;obtain⟨u',g1,g2,g3⟩:=k5 0 0 v (by rw[gD];rfl);have qx:w.cell? ⟨b,base+0*o.sz+0,none⟩=some u':=by simp only[World.cell?,k2];simpa using g1
  refine .bx rfl qx ?_ g2 (g3.aR h1);rintro (hb|⟨id,o2,A4,l1,l2,l3⟩)
  ·exact hI.apart k o b base ho hs hb
  ·obtain⟨o3,m1,_,_,_,m5⟩:=jK l1;have:id=k:=hI.inj id k o3 o b A4 base m1 ho (m5 l2) l3 hs;subst this;unfold ck at l1;rw[ho]at l1;simp only at l1;rw[List.getElem?_set_self (List.getElem?_eq_some_iff.1 ho).1]at l1;cases l1;cases l2
 ·exact(hR.2.2 t').aR h1
end Go.VL
