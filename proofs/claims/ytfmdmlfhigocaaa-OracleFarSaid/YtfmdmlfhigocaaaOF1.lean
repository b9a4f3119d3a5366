/- A part of the proof (Va Vb Vc). -/
import Derived.WalkKit
import Derived.WalkSpells
import Derived.ChangeKeysEq
import Derived.Deep.AppendSrc
set_option linter.unusedSimpArgs false
set_option linter.unusedVariables false
set_option maxRecDepth 100000
set_option maxHeartbeats 80000000
namespace Go.VL
inductive D where
 |sc (v:Value)
 |sl (au:List (List D))
 |el (cs:List D)
 |cl (fn:Fn) (first ai:List D)
 |ub
inductive V where
 |d (x:D)
 |ag (cs:List V)
 |fu (au:List (List D))
 |so (id g lo n:Nat)
 |rf (id g i off:Nat)
 |pp (id g i off b a:Nat)
 |mp (id g:Nat)
 |bx (v:V)
 |cap (lo hi:Nat) (v:V)
 |cl (fn:Fn) (first ai:List V)
 |tu (vs:List V)
 |un
 |any
structure Obj where
 g:Nat
 live:Bool
 sz:Nat
 au:List (List V)
structure Gh where
 map:Nat->Option (Nat×Nat)
 base:Nat->Prop
instance:CoeFun Gh (fun _=>Nat->Option (Nat×Nat)):=⟨Gh.map⟩
def Own (σ:Gh) (s:List Obj) (b:Nat):Prop:=σ.base b\/∃id o base,s[id]?=some o/\o.live=true/\σ id=some (b,base)
inductive cu (O:Nat->Prop) (w:World):D->Value->Prop
 |sc (v:Value):v.oneCell'=true->cu O w (.sc v) v
 |nil:cu O w (.sl []) (.slice none 0 0)
 |sl (au:List (List D)) (a:Addr) (cap sz:Nat) (f:Nat->Nat->Value):au.length<=cap->(au≠[]->a.spot=none)->(∀e∈au,e.length=sz) ->
   (∀i j x,(au[i]?.bind (·[j]?))=some x->w.cell? ⟨a.block,a.off+i*sz+j,none⟩=some (f i j)/\¬O a.block) ->
   (∀i j x,(au[i]?.bind (·[j]?))=some x->cu O w x (f i j))->cu O w (.sl au) (.slice (some a) au.length cap)
 |el (cs:List D) (a:Addr) (f:Nat->Value):a.spot=none ->
   (∀j x,cs[j]?=some x->w.cell? ⟨a.block,a.off+j,none⟩=some (f j)/\¬O a.block) ->
   (∀j x,cs[j]?=some x->cu O w x (f j))->cu O w (.el cs) (.pointer (some a))
 |cl {fn:Fn}{first ai:List D}{f' c':Array Value}:f'.size=first.length->(∀i x,first[i]?=some x->cu O w x (f'.getD i undef)) ->
   c'.size=ai.length->(∀i x,ai[i]?=some x->cu O w x (c'.getD i undef))->cu O w (.cl fn first ai) (.func fn f' c')
 |ub (b:Bool):cu O w .ub (.bool b)
def vu (σ:Gh) (w:World) (id:Nat) (o:Obj) (lo n:Nat) (u:Value):Prop :=
 (σ id=none/\(∃a,u=.slice a 0 0)/\lo=0/\n=0) \/
 ∃b base cap E arr,σ id=some (b,base)/\w.heap[b]?=some (.cells arr E (0,0))/\u=.slice (some ⟨b,base+lo*o.sz,none⟩) n cap/\n<=cap/\base+(lo+cap)*o.sz<=arr.size
def UY (n:Nat) (u:Value):Prop:=∃a c,u=.slice a n c
theorem UY.one {n:Nat}{u:Value} (h:UY n u):u.oneCell'=true:=by obtain⟨_,_,rfl⟩:=h;rfl
def Bp (w:World) (b:Nat):Prop:=∃arr E,w.heap[b]?=some (.cells arr E (0,0))
def JS (w:World) (b:Nat):Prop:=∃es c,w.heap[b]?=some (.map es c)
def LO (lo hi:Nat) (u:Value):Prop:=∀a n c,u=.slice a n c->lo<=c/\c<=hi
inductive aw (σ:Gh) (s:List Obj) (w:World):V->Value->Prop
 |d {x:D}{u:Value}:cu (Own σ s) w x u->aw σ s w (.d x) u
 |ag {cs:List V}{arr:Array Value}:arr.size=cs.length->(∀i x,cs[i]?=some x->(arr.getD i undef).oneCell'=true) ->
   (∀i x,cs[i]?=some x->aw σ s w x (arr.getD i undef))->aw σ s w (.ag cs) (.agg arr)
 |tu {cs:List V}{arr:Array Value}:arr.size=cs.length->(∀i x,cs[i]?=some x->aw σ s w x (arr.getD i undef))->aw σ s w (.tu cs) (.tuple arr)
 |fu {au:List (List D)}{a:Option Addr}:cu (Own σ s) w (.sl au) (.slice a au.length au.length)->aw σ s w (.fu au) (.slice a au.length au.length)
 |so {id g lo n:Nat}{u:Value} (o:Obj):s[id]?=some o->g<=o.g->UY n u->(o.g=g->vu σ w id o lo n u)->aw σ s w (.so id g lo n) u
 |rf {id g i off:Nat}{u:Value} (o:Obj):s[id]?=some o->g<=o.g->u.oneCell'=true->(o.g=g->∃b base,σ id=some (b,base)/\Bp w b/\u=.pointer (some ⟨b,base+i*o.sz+off,none⟩)) ->
   aw σ s w (.rf id g i off) u
 |pp {id g i off b a:Nat} (o:Obj):s[id]?=some o->g<=o.g->(o.g=g->∃base,σ id=some (b,base)/\Bp w b/\a=base+i*o.sz+off)->aw σ s w (.pp id g i off b a) (.pointer (some ⟨b,a,none⟩))
 |mp {id g:Nat}{u:Value} (o:Obj):s[id]?=some o->g<=o.g->u.oneCell'=true->(o.g=g->∃b,σ id=some (b,0)/\JS w b/\u=.map (some b))->aw σ s w (.mp id g) u
 |bx {v:V}{a:Addr}{u:Value}:a.spot=none->w.cell? ⟨a.block,a.off,none⟩=some u->¬Own σ s a.block->u.oneCell'=true->aw σ s w v u->aw σ s w (.bx v) (.pointer (some a))
 |cap {lo hi:Nat}{v:V}{u:Value}:LO lo hi u->aw σ s w v u->aw σ s w (.cap lo hi v) u
 |cl {fn:Fn}{first ai:List V}{f' c':Array Value}:f'.size=first.length->(∀i x,first[i]?=some x->aw σ s w x (f'.getD i undef)) ->
   c'.size=ai.length->(∀i x,ai[i]?=some x->aw σ s w x (c'.getD i undef))->aw σ s w (.cl fn first ai) (.func fn f' c')
 |un:aw σ s w .un undef
 |any {u:Value}:aw σ s w .any u
structure aA (σ:Gh) (s:List Obj) (w:World) (σ':Gh) (s':List Obj) (w':World):Prop where
 os:w'.os=w.os
 tape:w'.tape=w.tape
 output:w'.output=w.output
 size:w.heap.size<=w'.heap.size
 aR:∀b,b<w.heap.size->¬Own σ s b->w'.heap[b]?=w.heap[b]?
 shape:∀b arr E,Own σ s b->w.heap[b]?=some (.cells arr E (0,0))->∃b9,w'.heap[b]?=some (.cells b9 E (0,0))/\b9.size=arr.size
 nk:∀b,Own σ s b->JS w b->JS w' b
 own:∀b,Own σ' s' b->Own σ s b\/w.heap.size<=b
 uY:∀id o,s[id]?=some o->∃o',s'[id]?=some o'/\o.g<=o'.g/\(o'.g=o.g->o'.sz=o.sz/\σ' id=σ id)
 base:σ'.base=σ.base
 eT:∀b,b<w.heap.size->σ.base b->w'.heap[b]?=w.heap[b]?
theorem aA.refl (σ:Gh) (s:List Obj) (w:World):aA σ s w σ s w :=
 ⟨rfl,rfl,rfl,Nat.le_refl _,fun _ _ _=>rfl,fun _ arr _ _ h=>⟨arr,h,rfl⟩,fun _ _ h=>h,fun _ h=>.inl h,fun _ o h=>⟨o,h,Nat.le_refl _,fun _=>⟨rfl,rfl⟩⟩,rfl,fun _ _ _=>rfl⟩
theorem de {w:World}{b:Nat}{o:Go.Obj} (h:w.heap[b]?=some o):b<w.heap.size:=by
 rcases Nat.lt_or_ge b w.heap.size with h'|h'
 ·exact h'
 ·simp [Array.getElem?_eq_none h']at h
theorem aA.trans {σ s w σ' s' w' SX xi Jm} (h:aA σ s w σ' s' w') (k:aA σ' s' w' SX xi Jm):aA σ s w SX xi Jm:=by
 refine⟨k.os.trans h.os,k.tape.trans h.tape,k.output.trans h.output,Nat.le_trans h.size k.size,?_,?_,?_,?_,?_,k.base.trans h.base,
  fun b hb ho=>(k.eT b (Nat.lt_of_lt_of_le hb h.size) (by rw[h.base];exact ho)).trans (h.eT b hb ho)⟩
 ·intro b hb ho
  rw[k.aR b (Nat.lt_of_lt_of_le hb h.size) (fun h'=>(h.own b h').elim ho (fun OM=>by omega)),h.aR b hb ho]
 ·intro b arr E ho hh
  obtain⟨b9,h1,h2⟩:=h.shape b arr E ho hh
  by_cases gE:Own σ' s' b
  ·obtain⟨RI,h3,h4⟩:=k.shape b b9 E gE h1
   exact⟨RI,h3,by omega⟩
  ·exact⟨b9,by rw[k.aR b (de h1) gE];exact h1,h2⟩
 ·intro b ho hh
  obtain⟨es,c,h1⟩:=h.nk b ho hh
  by_cases gE:Own σ' s' b
  ·exact k.nk b gE ⟨es,c,h1⟩
  ·exact⟨es,c,by rw[k.aR b (de h1) gE];exact h1⟩
 ·intro b hb
  rcases k.own b hb with h'|h'
  ·exact h.own b h'
  ·exact .inr (Nat.le_trans h.size h')
 ·intro id o ho
  obtain⟨o',h1,h2,h3⟩:=h.uY id o ho
  obtain⟨Wx,k1,k2,k3⟩:=k.uY id o' h1
  refine⟨Wx,k1,Nat.le_trans h2 k2,fun he=>?_⟩
  have e1:o'.g=o.g:=by omega
  have e2:Wx.g=o'.g:=by omega
  exact⟨(k3 e2).1.trans (h3 e1).1,(k3 e2).2.trans (h3 e1).2⟩
theorem aA.cell {σ s w σ' s' w'} (h:aA σ s w σ' s' w') {a:Addr}{u:Value} (hc:w.cell? a=some u) (ho:¬Own σ s a.block) :
  w'.cell? a=some u/\¬Own σ' s' a.block:=by
 have hb:=World.block_lt_of_cell? _ _ hc
 refine⟨?_,fun h'=>?_⟩
 ·rw[World.cell?_of_block (w:=w) (h.aR a.block hb ho)];exact hc
 ·rcases h.own _ h' with h'|h'
  ·exact ho h'
  ·omega
theorem cu.aO {σ s w σ' s' w'} (h:aA σ s w σ' s' w') {x:D}{u:Value} (hr:cu (Own σ s) w x u):cu (Own σ' s') w' x u:=by
 induction hr with
 |sc v hv=>exact .sc v hv
 |nil=>exact .nil
 |sl au a cap sz f h1 h2 h3 h4 _ ih=>exact .sl au a cap sz f h1 h2 h3 (fun i j x hx=>h.cell (a:=⟨a.block,_,none⟩) (h4 i j x hx).1 (h4 i j x hx).2) ih
 |el cs a f h1 h2 _ ih=>exact .el cs a f h1 (fun j x hx=>h.cell (a:=⟨a.block,_,none⟩) (h2 j x hx).1 (h2 j x hx).2) ih
 |cl h1 _ h3 _ u9 u5=>exact .cl h1 u9 h3 u5
 |ub b=>exact .ub b
theorem cu.own {O O':Nat->Prop}{w:World}{x:D}{u:Value} (h:∀b,O' b->O b) (hr:cu O w x u):cu O' w x u:=by
 induction hr with
 |sc v hv=>exact .sc v hv
 |nil=>exact .nil
 |sl au a cap sz f h1 h2 h3 h4 _ ih=>exact .sl au a cap sz f h1 h2 h3 (fun i j x hx=>⟨(h4 i j x hx).1,fun h'=>(h4 i j x hx).2 (h _ h')⟩) ih
 |el cs a f h1 h2 _ ih=>exact .el cs a f h1 (fun j x hx=>⟨(h2 j x hx).1,fun h'=>(h2 j x hx).2 (h _ h')⟩) ih
 |cl h1 _ h3 _ u9 u5=>exact .cl h1 u9 h3 u5
 |ub b=>exact .ub b
theorem vu.aO {σ s w σ' s' w'} (h:aA σ s w σ' s' w') {id:Nat}{o o':Obj}{lo n:Nat}{u:Value} (fo:o'.sz=o.sz) (hs:σ' id=σ id)
  (hk:vu σ w id o lo n u):vu σ' w' id o' lo n u:=by
 rcases hk with ⟨h1,h2,h3,h4⟩|⟨b,base,cap,E,arr,h1,h2,h3,h4,h5⟩
 ·exact .inl ⟨hs.trans h1,h2,h3,h4⟩
 ·by_cases hO:Own σ s b
  ·obtain⟨b9,k1,k2⟩:=h.shape b arr E hO h2
   exact .inr ⟨b,base,cap,E,b9,hs.trans h1,k1,by rw[fo];exact h3,h4,by rw[fo,k2];exact h5⟩
  ·exact .inr ⟨b,base,cap,E,arr,hs.trans h1,by rw[h.aR b (de h2) hO];exact h2,by rw[fo];exact h3,h4,by rw[fo];exact h5⟩
theorem Bp.aO {σ s w σ' s' w'} (h:aA σ s w σ' s' w') {b:Nat} (hc:Bp w b):Bp w' b:=by
 obtain⟨arr,E,hh⟩:=hc
 by_cases hO:Own σ s b
 ·obtain⟨b9,k1,_⟩:=h.shape b arr E hO hh
  exact⟨b9,E,k1⟩
 ·exact⟨arr,E,by rw[h.aR b (de hh) hO];exact hh⟩
theorem JS.aO {σ s w σ' s' w'} (h:aA σ s w σ' s' w') {b:Nat} (hc:JS w b):JS w' b:=by
 by_cases hO:Own σ s b
 ·exact h.nk b hO hc
 ·obtain⟨es,c,hh⟩:=hc
  exact⟨es,c,by rw[h.aR b (de hh) hO];exact hh⟩
theorem Bp.notM {w:World}{b:Nat} (h:Bp w b) (k:JS w b):False:=by
 obtain⟨arr,E,h⟩:=h
 obtain⟨es,c,k⟩:=k
 rw[h]at k;cases k
theorem aw.aO {σ s w σ' s' w'} (h:aA σ s w σ' s' w') {x:V}{u:Value} (hr:aw σ s w x u):aw σ' s' w' x u:=by
 induction hr with
 |d hx=>exact .d (hx.aO h)
 |ag h1 h2 _ ih=>exact .ag h1 h2 ih
 |tu h1 _ ih=>exact .tu h1 ih
 |fu hx=>exact .fu (hx.aO h)
 |so o ho hg hu hk =>
  obtain⟨o',h1,h2,h3⟩:=h.uY _ o ho
  exact .so o' h1 (Nat.le_trans hg h2) hu fun he=>have e:o'.g=o.g:=by omega
   vu.aO h (h3 e).1 (h3 e).2 (hk (by omega))
 |rf o ho hg hu hk =>
  obtain⟨o',h1,h2,h3⟩:=h.uY _ o ho
  refine .rf o' h1 (Nat.le_trans hg h2) hu fun he=>?_
  have e:o'.g=o.g:=by omega
  obtain⟨b,base,k1,kc,k2⟩:=hk (by omega)
  exact⟨b,base,(h3 e).2.trans k1,kc.aO h,by rw[(h3 e).1];exact k2⟩
 |pp o ho hg hk =>
  obtain⟨o',h1,h2,h3⟩:=h.uY _ o ho
  refine .pp o' h1 (Nat.le_trans hg h2) fun he=>?_
  have e:o'.g=o.g:=by omega
  obtain⟨base,k1,kc,k2⟩:=hk (by omega)
  exact⟨base,(h3 e).2.trans k1,kc.aO h,by rw[(h3 e).1];exact k2⟩
 |mp o ho hg hu hk =>
  obtain⟨o',h1,h2,h3⟩:=h.uY _ o ho
  refine .mp o' h1 (Nat.le_trans hg h2) hu fun he=>?_
  have e:o'.g=o.g:=by omega
  obtain⟨b,k1,kc,k2⟩:=hk (by omega)
  exact⟨b,(h3 e).2.trans k1,kc.aO h,k2⟩
 |cap h1 _ ih=>exact .cap h1 ih
 |bx h1 h2 h3 hu _ ih =>
  obtain⟨k1,k2⟩:=h.cell h2 h3
  exact .bx h1 k1 k2 hu ih
 |cl h1 _ h3 _ u9 u5=>exact .cl h1 u9 h3 u5
 |un=>exact .un
 |any=>exact .any
theorem aw.OO {σ s w}{id g i off b a:Nat}{u:Value} (h:aw σ s w (.pp id g i off b a) u):aw σ s w (.rf id g i off) u:=by
 cases h with
 |pp o ho hg hk=>exact .rf o ho hg rfl fun he=>let ⟨base,h1,h2,h3⟩:=hk he;⟨b,base,h1,h2,by rw[h3]⟩
theorem aw.BA {σ s w}{id g i off b a:Nat}{u:Value} (h:aw σ s w (.pp id g i off b a) u):u=.pointer (some ⟨b,a,none⟩):=by
 cases h with
 |pp o ho hg hk=>rfl
def eB (es:Array MapEntry):List (List V):=es.toList.map fun e=>[V.d (.sc e.key),V.d (.sc e.val)]
def rL (w:World) (p:Option (Nat×Nat)) (o:Obj):Prop :=
 (p=none/\o.au=[])\/∃b es c,p=some (b,0)/\w.heap[b]?=some (.map es c)/\o.au=eB es
theorem rL.xr {w:World}{p:Option (Nat×Nat)}{o:Obj} (h:rL w p o) {b base:Nat} (hp:p=some (b,base)) (hc:Bp w b):False:=by
 rcases h with ⟨h,_⟩|⟨b',es,c,h,hh,_⟩
 ·rw[hp]at h;cases h
 ·rw[hp]at h;cases h
  exact hc.notM ⟨es,c,hh⟩
theorem rL.congr {w:World}{p:Option (Nat×Nat)}{o o':Obj} (h:rL w p o') (he:o.au=o'.au):rL w p o:=by
 unfold rL at *;rw[he];exact h
theorem rL.Cu {w:World}{p:Option (Nat×Nat)}{o:Obj} (h:rL w p o) (hp:p=none):o.au=[]:=by
 rcases h with ⟨_,h⟩|⟨b',es,c,h,_⟩
 ·exact h
 ·rw[hp]at h;cases h
structure Inv (σ:Gh) (s:List Obj) (w:World):Prop where
 content:∀id o,s[id]?=some o->rL w (σ id) o\/∃b base arr E,σ id=some (b,base)/\w.heap[b]?=some (.cells arr E (0,0)) /\
  (∀e∈o.au,e.length=o.sz)/\base+o.au.length*o.sz<=arr.size /\
  ∀i j x,(o.au[i]?.bind (·[j]?))=some x->∃u,arr[base+i*o.sz+j]?=some u/\u.oneCell'=true/\aw σ s w x u
 inj:∀id jm o o' b base bp,s[id]?=some o->s[jm]?=some o'->o.live=true->σ id=some (b,base)->σ jm=some (b,bp)->id=jm
 low:∀b,σ.base b->b<w.heap.size
 apart:∀id o b base,s[id]?=some o->σ id=some (b,base)->¬σ.base b
def l8 (σ:Gh) (id:Nat) (p:Option (Nat×Nat)):Gh:=⟨fun k=>if k=id then p else σ k,σ.base⟩
theorem bH (σ:Gh) (id:Nat) (p:Option (Nat×Nat)):l8 σ id p id=p:=by simp [l8]
theorem cI (σ:Gh) {id k:Nat} (p:Option (Nat×Nat)) (h:k≠id):l8 σ id p k=σ k:=by simp [l8,h]
def rV (σ:Gh) (s:List Obj) (w:World) (p:Option (Nat×Nat)) (o:Obj):Prop :=
 rL w p o\/∃b base arr E,p=some (b,base)/\w.heap[b]?=some (.cells arr E (0,0)) /\
  (∀e∈o.au,e.length=o.sz)/\base+o.au.length*o.sz<=arr.size /\
  ∀i j x,(o.au[i]?.bind (·[j]?))=some x->∃u,arr[base+i*o.sz+j]?=some u/\u.oneCell'=true/\aw σ s w x u
theorem rV.aO {σ s w σ' s' w' p o} (h:aA σ s w σ' s' w') (hb:∀b base,p=some (b,base)->w'.heap[b]?=w.heap[b]?) (hh:rV σ s w p o):rV σ' s' w' p o:=by
 rcases hh with h1|⟨b,base,arr,E,h1,h2,h3,h4,h5⟩
 ·refine .inl ?_
  rcases h1 with h1|⟨b,es,c,h1,h2,h3⟩
  ·exact .inl h1
  ·exact .inr ⟨b,es,c,h1,(hb b 0 h1).trans h2,h3⟩
 ·exact .inr ⟨b,base,arr,E,h1,(hb b base h1).trans h2,h3,h4,fun i j x hx=>let ⟨u,k1,k2,k3⟩:=h5 i j x hx;⟨u,k1,k2,k3.aO h⟩⟩
theorem Inv.lt {σ s w} (hI:Inv σ s w) {id o b base} (ho:s[id]?=some o) (hs:σ id=some (b,base)):b<w.heap.size:=by
 rcases hI.content id o ho with (⟨h1,_⟩|⟨b',es,c,h1,h2,_⟩)|⟨b',bp,arr,E,h1,h2,_⟩
 ·rw[hs]at h1;cases h1
 ·rw[hs]at h1;cases h1;exact de h2
 ·rw[hs]at h1;cases h1;exact de h2
theorem lC {σ:Gh}{s:List Obj}{w:World} (hI:Inv σ s w) {id:Nat}{o o':Obj}{p:Option (Nat×Nat)}{w':World} (ho:s[id]?=some o) (hl:o.live=true)
  (hos:w'.os=w.os) (Dv:w'.tape=w.tape) (KY:w'.output=w.output) (gV:w.heap.size<=w'.heap.size)
  (hkeep:∀b,b<w.heap.size->(∀base,σ id≠some (b,base))->w'.heap[b]?=w.heap[b]?)
  (hshape:∀b base arr E,σ id=some (b,base)->w.heap[b]?=some (.cells arr E (0,0))->∃b9,w'.heap[b]?=some (.cells b9 E (0,0))/\b9.size=arr.size)
  (hshapeM:∀b base,σ id=some (b,base)->JS w b->JS w' b)
  (hg:o.g<=o'.g) (zP:o'.g=o.g->o'.sz=o.sz/\p=σ id)
  (hp:∀b base,p=some (b,base)->(∃xY,σ id=some (b,xY))\/w.heap.size<=b)
  (hc:aA σ s w (l8 σ id p) (s.set id o') w'->rV (l8 σ id p) (s.set id o') w' p o') :
  aA σ s w (l8 σ id p) (s.set id o') w'/\Inv (l8 σ id p) (s.set id o') w':=by
 have az:id<s.length:=(List.getElem?_eq_some_iff.1 ho).1
 have wX:(s.set id o')[id]?=some o':=by simp [az]
 have kR:∀k,k≠id->(s.set id o')[k]?=s[k]?:=fun k hk=>by rw[List.getElem?_set_ne (Ne.symm hk)]
 have UM:∀k ok b base,k≠id->s[k]?=some ok->σ k=some (b,base)->w'.heap[b]?=w.heap[b]?:=by
  intro k ok b base hk gZ hs
  exact hkeep b (hI.lt gZ hs) fun bp he=>hk (hI.inj id k o ok b bp base ho gZ hl he hs).symm
 have hE:aA σ s w (l8 σ id p) (s.set id o') w':=by
  refine⟨hos,Dv,KY,gV,?_,?_,?_,?_,?_,rfl,fun b hb hf=>hkeep b hb fun base he=>hI.apart id o b base ho he hf⟩
  ·intro b hb lM
   exact hkeep b hb fun base he=>lM (.inr ⟨id,o,base,ho,hl,he⟩)
  ·intro b arr E hO hh
   by_cases he:∃base,σ id=some (b,base)
   ·obtain⟨base,he⟩:=he
    exact hshape b base arr E he hh
   ·exact⟨arr,by rw[hkeep b (de hh) (fun base h'=>he ⟨base,h'⟩)];exact hh,rfl⟩
  ·intro b hO hm
   by_cases he:∃base,σ id=some (b,base)
   ·obtain⟨base,he⟩:=he
    exact hshapeM b base he hm
   ·obtain⟨es,c,hh⟩:=hm
    exact⟨es,c,by rw[hkeep b (de hh) (fun base h'=>he ⟨base,h'⟩)];exact hh⟩
  ·rintro b (hf|⟨k,ok,base,z0,F8,BZ⟩)
   ·exact .inl (.inl hf)
   by_cases hk:k=id
   ·subst hk
    rw[bH]at BZ
    rcases hp b base BZ with ⟨xY,h'⟩|h'
    ·exact .inl (.inr ⟨k,o,xY,ho,hl,h'⟩)
    ·exact .inr h'
   ·rw[cI _ _ hk]at BZ
    rw[kR k hk]at z0
    exact .inl (.inr ⟨k,ok,base,z0,F8,BZ⟩)
  ·intro k ok gZ
   by_cases hk:k=id
   ·subst hk
    rw[ho]at gZ;cases gZ
    exact⟨o',wX,hg,fun he=>⟨(zP he).1,by rw[bH];exact(zP he).2⟩⟩
   ·exact⟨ok,by rw[kR k hk];exact gZ,Nat.le_refl _,fun _=>⟨rfl,cI _ _ hk⟩⟩
 refine⟨hE,⟨?_,?_,fun b hb=>Nat.lt_of_lt_of_le (hI.low b hb) gV,?_⟩⟩
 rotate_left 2
 ·intro k ok b base h1 h3 hf
  by_cases hk:k=id
  ·subst hk
   rw[bH]at h3
   rcases hp b base h3 with ⟨xY,h'⟩|h'
   ·exact hI.apart k o b xY ho h' hf
   ·have:=hI.low b hf;omega
  ·rw[cI _ _ hk]at h3
   rw[kR k hk]at h1
   exact hI.apart k ok b base h1 h3 hf
 ·intro k ok gZ
  by_cases hk:k=id
  ·subst hk
   rw[wX]at gZ;cases gZ
   rw[bH]
   exact hc hE
  ·rw[kR k hk]at gZ
   rw[cI _ _ hk]
   exact rV.aO (p:=σ k) hE (fun b base h=>UM k ok b base hk gZ h) (hI.content k ok gZ)
 ·intro k k' ok Ug b base bp h1 h2 h3 h4 h5
  by_cases hk:k=id <;> by_cases tk:k'=id
  ·rw[hk,tk]
  ·subst hk
   rw[bH]at h4
   rw[cI _ _ tk]at h5
   rw[kR k' tk]at h2
   rcases hp b base h4 with ⟨xY,h'⟩|h'
   ·exact hI.inj _ _ _ _ _ _ _ ho h2 hl h' h5
   ·have:=hI.lt h2 h5;omega
  ·subst tk
   rw[bH]at h5
   rw[cI _ _ hk]at h4
   rw[kR k hk]at h1
   rcases hp b bp h5 with ⟨xY,h'⟩|h'
   ·exact hI.inj _ _ _ _ _ _ _ h1 ho h3 h4 h'
   ·have:=hI.lt h1 h4;omega
  ·rw[cI _ _ hk]at h4
   rw[cI _ _ tk]at h5
   rw[kR k hk]at h1
   rw[kR k' tk]at h2
   exact hI.inj _ _ _ _ _ _ _ h1 h2 h3 h4 h5
theorem l9 {σ:Gh}{s:List Obj}{w:World} (hI:Inv σ s w) {o':Obj}{p:Option (Nat×Nat)}{w':World}
  (hos:w'.os=w.os) (Dv:w'.tape=w.tape) (KY:w'.output=w.output) (gV:w.heap.size<=w'.heap.size)
  (hkeep:∀b,b<w.heap.size->w'.heap[b]?=w.heap[b]?)
  (hp:∀b base,p=some (b,base)->w.heap.size<=b)
  (hc:aA σ s w (l8 σ s.length p) (s++[o']) w'->rV (l8 σ s.length p) (s++[o']) w' p o') :
  aA σ s w (l8 σ s.length p) (s++[o']) w'/\Inv (l8 σ s.length p) (s++[o']) w':=by
 have wX:(s++[o'])[s.length]?=some o':=by simp
 have kR:∀k ok,k≠s.length->(s++[o'])[k]?=some ok->s[k]?=some ok:=by
  intro k ok hk h
  rw[List.getElem?_append]at h
  split at h
  ·exact h
  ·rename_i h'
   have:k-s.length≠0:=by omega
   cases hh:k-s.length with
   |zero=>omega
   |succ n=>rw[hh]at h;simp at h
 have az:∀k ok,s[k]?=some ok->k≠s.length:=fun k ok h=>by have:=(List.getElem?_eq_some_iff.1 h).1;omega
 have hE:aA σ s w (l8 σ s.length p) (s++[o']) w':=by
  refine⟨hos,Dv,KY,gV,fun b hb _=>hkeep b hb,fun b arr E _ hh=>⟨arr,by rw[hkeep b (de hh)];exact hh,rfl⟩,fun b _ hm=>let ⟨es,c,hh⟩:=hm;⟨es,c,by rw[hkeep b (de hh)];exact hh⟩,?_,?_,rfl,fun b hb _=>hkeep b hb⟩
  ·rintro b (hf|⟨k,ok,base,z0,F8,BZ⟩)
   ·exact .inl (.inl hf)
   by_cases hk:k=s.length
   ·subst hk
    rw[bH]at BZ
    exact .inr (hp b base BZ)
   ·rw[cI _ _ hk]at BZ
    exact .inl (.inr ⟨k,ok,base,kR k ok hk z0,F8,BZ⟩)
  ·intro k ok gZ
   exact⟨ok,by rw[List.getElem?_append_left (List.getElem?_eq_some_iff.1 gZ).1];exact gZ,Nat.le_refl _,fun _=>⟨rfl,cI _ _ (az k ok gZ)⟩⟩
 refine⟨hE,⟨?_,?_,fun b hb=>Nat.lt_of_lt_of_le (hI.low b hb) gV,?_⟩⟩
 rotate_left 2
 ·intro k ok b base h1 h3 hf
  by_cases hk:k=s.length
  ·subst hk
   rw[bH]at h3
   have:=hp b base h3
   have:=hI.low b hf
   omega
  ·rw[cI _ _ hk]at h3
   exact hI.apart k ok b base (kR k ok hk h1) h3 hf
 ·intro k ok gZ
  by_cases hk:k=s.length
  ·subst hk
   rw[wX]at gZ;cases gZ
   rw[bH]
   exact hc hE
  ·have h':=kR k ok hk gZ
   rw[cI _ _ hk]
   exact rV.aO (p:=σ k) hE (fun b base h=>hkeep b (hI.lt h' h)) (hI.content k ok h')
 ·intro k k' ok Ug b base bp h1 h2 h3 h4 h5
  by_cases hk:k=s.length <;> by_cases tk:k'=s.length
  ·rw[hk,tk]
  ·subst hk
   rw[bH]at h4
   rw[cI _ _ tk]at h5
   have:=hI.lt (kR k' Ug tk h2) h5
   have:=hp b base h4
   omega
  ·subst tk
   rw[bH]at h5
   rw[cI _ _ hk]at h4
   have:=hI.lt (kR k ok hk h1) h4
   have:=hp b bp h5
   omega
  ·rw[cI _ _ hk]at h4
   rw[cI _ _ tk]at h5
   exact hI.inj _ _ _ _ _ _ _ (kR k ok hk h1) (kR k' Ug tk h2) h3 h4 h5
theorem yG {σ:Gh}{s:List Obj}{w w':World} (hI:Inv σ s w) (hos:w'.os=w.os) (Dv:w'.tape=w.tape) (KY:w'.output=w.output) (gV:w.heap.size<=w'.heap.size)
  (hkeep:∀b,b<w.heap.size->w'.heap[b]?=w.heap[b]?):aA σ s w σ s w'/\Inv σ s w':=by
 have hE:aA σ s w σ s w':=⟨hos,Dv,KY,gV,fun b hb _=>hkeep b hb,fun b arr E _ hh=>⟨arr,by rw[hkeep b (de hh)];exact hh,rfl⟩,fun b _ hm=>let ⟨es,c,hh⟩:=hm;⟨es,c,by rw[hkeep b (de hh)];exact hh⟩,fun b h=>.inl h,
  fun id o ho=>⟨o,ho,Nat.le_refl _,fun _=>⟨rfl,rfl⟩⟩,rfl,fun b hb _=>hkeep b hb⟩
 exact⟨hE,fun k ok gZ=>rV.aO (p:=σ k) hE (fun b base h=>hkeep b (hI.lt gZ h)) (hI.content k ok gZ),hI.inj,fun b hb=>Nat.lt_of_lt_of_le (hI.low b hb) gV,hI.apart⟩
theorem mc {σ:Gh}{s:List Obj}{w:World} (hI:Inv σ s w):aA σ s w σ s w.drew/\Inv σ s w.drew :=
 yG hI rfl rfl rfl (Nat.le_refl _) (fun _ _=>rfl)
theorem AD {σ:Gh}{s:List Obj}{w:World} (hI:Inv σ s w) (x:Go.Obj):aA σ s w σ s (w.alloc x)/\Inv σ s (w.alloc x) :=
 yG hI rfl rfl rfl (by simp) (fun b hb=>Go.RowKit.Below.heap_alloc w x b hb)
structure Kh where
 sz:Nat
 agg:Bool
 yW:Nat
 zero:List Value
def cb (P:Program) (t:TypeId):Option Kh :=
 match P.info? t,P.underlying t with
 |some i,some d=>match i.zero with
  |some z=>if z.cells.size=i.size/\z.cells.toList.all Value.oneCell'=true then
    some ⟨i.size,(match d with|.struct _|.array _ _=>true|_=>false),i.bytes,z.cells.toList⟩ else none
  |none=>none
 |_,_=>none
theorem fA {P:Program}{t:TypeId}{i:Kh} (h:cb P t=some i):∃ti d z,P.info? t=some ti/\P.underlying t=some d/\ti.zero=some z/\ti.size=i.sz/\ti.bytes=i.yW /\
  z.cells.toList=i.zero/\i.zero.length=i.sz/\(∀v∈i.zero,v.oneCell'=true)/\(∀w,(isAgg t).run P w=.ok i.agg w):=by
 unfold cb at h
 cases h1:P.info? t with
 |none=>simp [h1]at h
 |some ti =>
  cases h2:P.underlying t with
  |none=>simp [h1,h2]at h
  |some d =>
   cases h3:ti.zero with
   |none=>simp [h1,h2,h3]at h
   |some z =>
    simp only[h1,h2,h3]at h
    split at h
    ·rename_i hc
     simp only[Option.some.injEq]at h
     subst h
     refine⟨ti,d,z,rfl,rfl,h3,rfl,rfl,rfl,by simpa using hc.1,fun v hv=>List.all_eq_true.1 hc.2 v hv,fun w=>?_⟩
     cases d <;> simp [isAgg,run_underlying h2]
    ·cases h
def cv:Value->V
 |.slice none 0 0=>.fu []
 |.agg _=>.any
 |.tuple _=>.any
 |v=>.d (.sc v)
theorem B7 {σ s w} (v:Value):aw σ s w (cv v) v:=by
 unfold cv
 split
 ·exact .fu .nil
 ·exact .any
 ·exact .any
 ·rename_i h1 h2 h3
  refine .d (.sc v ?_)
  cases v <;> simp_all [Value.oneCell']
def O0:Value->V
 |.agg cs=>if cs.toList.all Value.oneCell'=true then .ag (cs.toList.map cv) else .any
 |v=>cv v
theorem NJ {σ s w} (v:Value):aw σ s w (O0 v) v:=by
 unfold O0
 split
 ·rename_i cs
  split
  ·rename_i h
   rw[List.all_eq_true]at h
   refine .ag (by simp) (fun i x hx=>?_) (fun i x hx=>?_)
   ·rw[List.getElem?_map]at hx
    obtain⟨y,hy,rfl⟩:=Option.map_eq_some_iff.1 hx
    have h2:cs[i]?=some y:=by rw[<- Array.getElem?_toList];exact hy
    rw[Array.getD_eq_getD_getElem?,h2]
    exact h y (List.mem_of_getElem? hy)
   ·rw[List.getElem?_map]at hx
    obtain⟨y,hy,rfl⟩:=Option.map_eq_some_iff.1 hx
    have h2:cs[i]?=some y:=by rw[<- Array.getElem?_toList];exact hy
    rw[Array.getD_eq_getD_getElem?,h2]
    exact B7 y
  ·exact .any
 ·exact B7 _
def ev (e:Nat->V):Operand->V
 |.tmp t=>e t
 |.const v=>O0 v
 |.global _=>.any
 |.func f=>.cl (.func f) [] []
def du:V->Option (List V)
 |.ag cs=>some cs
 |.un|.any|.tu _|.cap ..=>none
 |v=>some [v]
theorem cu.one {O w x u} (h:cu O w x u):u.oneCell'=true:=by
 cases h <;> first|assumption|rfl
theorem kB {σ:Gh}{s:List Obj}{w:World}{x:V}{u:Value}{cs:List V} (hr:aw σ s w x u) (hc:du x=some cs) :
  u.cells.size=cs.length/\∀(i:Nat) (y:V),cs[i]?=some y->∃c,u.cells[i]?=some c/\c.oneCell'=true/\aw σ s w y c:=by
 have single:∀{y:V}{c:Value},c.oneCell'=true->aw σ s w y c->c.cells.size=[y].length/\∀(i:Nat) (z:V),[y][i]?=some z->∃b,c.cells[i]?=some b/\b.oneCell'=true/\aw σ s w z b:=by
  intro y c h1 h2
  have j0:c.cells=#[c]:=by cases c <;> first|rfl|simp [Value.oneCell']at h1
  refine⟨by simp [j0],fun i z hz=>?_⟩
  cases i with
  |zero=>simp at hz;subst hz;exact⟨c,by simp [j0],h1,h2⟩
  |succ n=>simp at hz
 cases hr with
 |d h=>simp only[du,Option.some.injEq]at hc;subst hc;exact single h.one (.d h)
 |ag h1 h2 h3 =>
  simp only[du,Option.some.injEq]at hc;subst hc
  refine⟨h1,fun i y hy=>?_⟩
  have hi:=(List.getElem?_eq_some_iff.1 hy).1
  have e:∀{arr:Array Value},i<arr.size->arr[i]?=some (arr.getD i undef):=fun h=>by simp [Array.getD,h]
  exact⟨_,e (by simp only[Value.cells];omega),h2 i y hy,h3 i y hy⟩
 |tu h1 h2=>simp [du]at hc
 |fu h=>simp only[du,Option.some.injEq]at hc;subst hc;exact single rfl (.fu h)
 |so o h1 h2 h3 h4=>simp only[du,Option.some.injEq]at hc;subst hc;exact single h3.one (.so o h1 h2 h3 h4)
 |rf o h1 h2 h3 h4=>simp only[du,Option.some.injEq]at hc;subst hc;exact single h3 (.rf o h1 h2 h3 h4)
 |pp o h1 h2 h3=>simp only[du,Option.some.injEq]at hc;subst hc;exact single rfl (.pp o h1 h2 h3)
 |mp o h1 h2 h3 h4=>simp only[du,Option.some.injEq]at hc;subst hc;exact single h3 (.mp o h1 h2 h3 h4)
 |bx h1 h2 h3 hu h4=>simp only[du,Option.some.injEq]at hc;subst hc;exact single rfl (.bx h1 h2 h3 hu h4)
 |cap h1 h2=>simp [du]at hc
 |cl h1 h2 h3 h4=>simp only[du,Option.some.injEq]at hc;subst hc;exact single rfl (.cl h1 h2 h3 h4)
 |un=>simp [du]at hc
 |any=>simp [du]at hc
def nd (agg:Bool) (n:Nat) (cs:List V) (K:V->Prop):Prop :=
 match agg with
 |true=>n<=cs.length/\K (.ag (cs.take n))
 |false=>n=1/\match cs with|[]=>False|v::_=>K v
def jJ (P:Program) (t:TypeId) (s:List Obj) (p:V) (K:V->Prop):Prop :=
 match cb P t with
 |none=>False
 |some i=>match p with
  |.d (.el cs)=>nd i.agg i.sz (cs.map .d) K
  |.bx v=>nd i.agg i.sz [v] K
  |.rf id g k off=>match s[id]? with
   |none=>False
   |some o=>o.g=g/\match o.au[k]? with
    |none=>False
    |some cs=>nd i.agg i.sz (cs.drop off) K
  |.pp id g k off _ _=>match s[id]? with
   |none=>False
   |some o=>o.g=g/\match o.au[k]? with
    |none=>False
    |some cs=>nd i.agg i.sz (cs.drop off) K
  |_=>False
theorem e8 {a:Addr} (h:a.spot=none) (n:Nat):a.add n=⟨a.block,a.off+n,none⟩:=by
 obtain⟨b,o,sp⟩:=a
 simp only at h
 subst h
 unfold Addr.add
 split <;> simp_all
theorem xa {P:Program}{t:TypeId}{i:Kh} (ht:cb P t=some i) {w:World}{a:Addr} (ha:a.spot=none) (f:Nat->Value) (n1:i.agg=false->i.sz=1)
  (hc:∀j,j<i.sz->w.cell? ⟨a.block,a.off+j,none⟩=some (f j)) :
  (loadVar t a).run P w=.ok (if i.agg then .agg ((List.range i.sz).map f).toArray else f 0) w:=by
 obtain⟨ti,d,z,h1,h2,h3,h4,h5,h6,h7,h8,h9⟩:=fA ht
 have fo:(sizeOf t).run P w=.ok i.sz w:=by simp [sizeOf,typeInfo,h1,h4]
 cases vq:i.agg with
 |true =>
  rw[vq]at h9
  have hl:=run_loadCells (P:=P) w a i.sz f (fun j hj=>by rw[e8 ha];exact hc j hj)
  simp [loadVar,h9,fo,hl]
 |false =>
  rw[vq]at h9
  have ME:=hc 0 (by rw[n1 vq];omega)
  have e:(⟨a.block,a.off+0,none⟩:Addr)=a:=by obtain⟨b,o,sp⟩:=a;simp_all
  rw[e]at ME
  simp [loadVar,h9,ME]
theorem yd {P:Program}{t:TypeId}{i:Kh} (ht:cb P t=some i) {σ s w}{a:Addr} (ha:a.spot=none) {cs:List V}{K:V->Prop} (hk:nd i.agg i.sz cs K)
  (hc:∀j x,cs[j]?=some x->∃u,w.cell? ⟨a.block,a.off+j,none⟩=some u/\u.oneCell'=true/\aw σ s w x u) :
  ∃v c,(loadVar t a).run P w=.ok c w/\aw σ s w v c/\K v:=by
 have hf:∃f:Nat->Value,∀j x,cs[j]?=some x->w.cell? ⟨a.block,a.off+j,none⟩=some (f j)/\(f j).oneCell'=true/\aw σ s w x (f j):=by
  refine⟨fun j=>(w.cell? ⟨a.block,a.off+j,none⟩).getD undef,fun j x hx=>?_⟩
  obtain⟨u,h1,h2,h3⟩:=hc j x hx
  simp only[h1,Option.getD_some]
  exact⟨trivial,h2,h3⟩
 obtain⟨f,hf⟩:=hf
 unfold nd at hk
 cases vq:i.agg with
 |true =>
  rw[vq]at hk
  obtain⟨hn,hk⟩:=hk
  have fm:∀j,j<i.sz->cs[j]?=some (cs[j]?.getD .any):=fun j hj=>by simp [show j<cs.length by omega]
  refine⟨_,_,xa ht ha f (by simp [vq]) (fun j hj=>(hf j _ (fm j hj)).1),?_,hk⟩
  rw[vq]
  simp only[if_true]
  have e:∀j,j<i.sz->((List.range i.sz).map f).toArray.getD j undef=f j:=fun j hj=>by simp [Array.getD,hj]
  have e2:∀j x,(cs.take i.sz)[j]?=some x->j<i.sz/\cs[j]?=some x:=by
   intro j x hx
   rw[List.getElem?_take]at hx
   split at hx
   ·exact⟨by assumption,hx⟩
   ·cases hx
  refine .ag (by simp [Nat.min_eq_left hn]) (fun j x hx=>?_) (fun j x hx=>?_)
  ·rw[e j (e2 j x hx).1];exact(hf j x (e2 j x hx).2).2.1
  ·rw[e j (e2 j x hx).1];exact(hf j x (e2 j x hx).2).2.2
 |false =>
  rw[vq]at hk
  obtain⟨hn,hk⟩:=hk
  cases cs with
  |nil=>exact hk.elim
  |cons v rest =>
   refine⟨v,_,xa ht ha f (fun _=>hn) (fun j hj=>?_),?_,hk⟩
   ·have:j=0:=by omega
    subst this
    exact(hf 0 v rfl).1
   ·rw[vq]
    exact(hf 0 v rfl).2.2
theorem HU {P:Program}{t:TypeId}{σ:Gh}{s:List Obj}{w:World}{p:V}{u:Value}{K:V->Prop} (hI:Inv σ s w) (hp:aw σ s w p u) (OF:∀id g i off b a,p≠.pp id g i off b a) (h:jJ P t s p K) :
  ∃v c,(Instr.loadAt t u).run P w=.ok c w/\aw σ s w v c/\K v:=by
 unfold jJ at h
 cases ht:cb P t with
 |none=>rw[ht]at h;exact h.elim
 |some i =>
  rw[ht]at h
  simp only at h
  have fin:∀(a:Addr) (v:V) (c:Value),u=.pointer (some a)->(loadVar t a).run P w=.ok c w->aw σ s w v c->K v->∃v c,(Instr.loadAt t u).run P w=.ok c w/\aw σ s w v c/\K v:=by
   rintro a v c rfl h1 h2 h3
   exact⟨v,c,by simp [Instr.loadAt,Instr.sureAddr,h1],h2,h3⟩
  cases hp with
  |pp o ho hg hk=>exact absurd rfl (OF _ _ _ _ _ _)
  |d hx =>
   cases hx with
   |el cs a f h1 h2 h3 =>
    obtain⟨v,c,k1,k2,k3⟩:=yd (σ:=σ) (s:=s) (w:=w) ht h1 h (fun j x hx=>by
     rw[List.getElem?_map]at hx
     obtain⟨y,hy,rfl⟩:=Option.map_eq_some_iff.1 hx
     exact⟨f j,(h2 j y hy).1,(h3 j y hy).one,.d (h3 j y hy)⟩)
    exact fin a v c rfl k1 k2 k3
   |_=>exact h.elim
  |bx h1 h2 h3 hu h4 =>
   obtain⟨v,c,k1,k2,k3⟩:=yd (σ:=σ) (s:=s) (w:=w) ht h1 h (fun j x hx=>by
    cases j with
    |zero=>simp at hx;subst hx;exact⟨_,h2,hu,h4⟩
    |succ j=>simp at hx)
   exact fin _ v c rfl k1 k2 k3
  |rf o ho hg hu hk =>
   simp only[ho]at h
   obtain⟨sI,h⟩:=h
   obtain⟨b,base,hs,hC,rfl⟩:=hk sI
   split at h
   ·exact h.elim
   ·rename_i id g k off _ cs mL
    rcases hI.content _ o ho with h1|⟨b',bp,arr,E,h1,h2,h3,h4,h5⟩
    ·exact(h1.xr hs hC).elim
    ·rw[hs]at h1;cases h1
     obtain⟨v,c,k1,k2,k3⟩:=yd (σ:=σ) (s:=s) (w:=w) (a:=⟨b,base+k*o.sz+off,none⟩) ht rfl h (fun j x hx=>by
      rw[List.getElem?_drop]at hx
      obtain⟨y,k1,k2,k3⟩:=h5 k (off+j) x (by rw[mL];exact hx)
      refine⟨y,?_,k2,k3⟩
      simp only[World.cell?,h2]
      simpa [Nat.add_assoc]using k1)
     exact fin _ v c rfl k1 k2 k3
  |_=>exact h.elim
theorem y9 {P:Program}{t:TypeId}{σ:Gh}{s:List Obj}{w:World}{p:V}{u:Value}{K:V->Prop} (hI:Inv σ s w) (hp:aw σ s w p u) (h:jJ P t s p K) :
  ∃v c,(Instr.loadAt t u).run P w=.ok c w/\aw σ s w v c/\K v:=by
 by_cases Mx:∃id g i off b a,p=.pp id g i off b a
 ·obtain⟨id,g,i,off,b,a,rfl⟩:=Mx
  exact HU hI hp.OO (by intros;simp) h
 ·exact HU hI hp (fun id g i off b a he=>Mx ⟨id,g,i,off,b,a,he⟩) h
def fy (cs:List V) (off:Nat) (ns:List V):List V:=cs.take off++ns++cs.drop (off+ns.length)
def fK (P:Program) (t:TypeId) (s:List Obj) (p x:V) (K:List Obj->Prop):Prop :=
 match cb P t with
 |none=>False
 |some i=>match p with
  |.rf id g k off=>match s[id]? with
   |none=>False
   |some o=>o.g=g/\o.live=true/\match o.au[k]? with
    |none=>False
    |some cs=>match du x with
     |none=>False
     |some ns=>ns.length=i.sz/\off+i.sz<=cs.length/\K (s.set id { o with au:=o.au.set k (fy cs off ns) })
  |.pp id g k off _ _=>match s[id]? with
   |none=>False
   |some o=>o.g=g/\o.live=true/\match o.au[k]? with
    |none=>False
    |some cs=>match du x with
     |none=>False
     |some ns=>ns.length=i.sz/\off+i.sz<=cs.length/\K (s.set id { o with au:=o.au.set k (fy cs off ns) })
  |_=>False
theorem mT (cs:List V) (off:Nat) (ns:List V) (h:off+ns.length<=cs.length) (j:Nat) :
  (fy cs off ns)[j]?=if off<=j/\j<off+ns.length then ns[j-off]? else cs[j]?:=by
 have hl:(cs.take off).length=off:=by simp;omega
 unfold fy
 by_cases h1:j<off
 ·rw[if_neg (by omega),List.append_assoc,List.getElem?_append_left (by omega),List.getElem?_take,if_pos h1]
 ·by_cases h2:j<off+ns.length
  ·rw[if_pos (by omega),List.append_assoc,List.getElem?_append_right (by omega),hl,List.getElem?_append_left (by omega)]
  ·rw[if_neg (by omega),List.getElem?_append_right (by simp;omega),List.getElem?_drop]
   congr 1
   simp
   omega
theorem pa (cs:List V) (off:Nat) (ns:List V) (h:off+ns.length<=cs.length):(fy cs off ns).length=cs.length:=by
 simp [fy];omega
theorem qY (σ:Gh) (id:Nat):l8 σ id (σ id)=σ:=by
 obtain⟨m,b⟩:=σ
 unfold l8
 congr 1
 funext k
 split
 ·rename_i h;rw[h]
 ·rfl
theorem I1 {σ:Gh}{s:List Obj}{w:World} (hI:Inv σ s w) {id:Nat}{o:Obj} (ho:s[id]?=some o) (hl:o.live=true) {k off:Nat}{cs ns:List V} (mL:o.au[k]?=some cs)
  (hfit:off+ns.length<=cs.length) {b base:Nat} (hs:σ id=some (b,base)) (hC:Bp w b) {us:List Value} (SW:us.length=ns.length)
  (hrep:∀(j:Nat) (x:V),ns[j]?=some x->∃u,us[j]?=some u/\u.oneCell'=true/\aw σ s w x u) (IQ:∀u∈us,u.oneCell'=true) (P:Program) :
  ∃w',(storeCells ⟨b,base+k*o.sz+off,none⟩ us).run P w=.ok () w'/\aA σ s w σ (s.set id { o with au:=o.au.set k (fy cs off ns) }) w' /\
   Inv σ (s.set id { o with au:=o.au.set k (fy cs off ns) }) w':=by
 rcases hI.content _ o ho with h1|⟨b',bp,arr,E,h1,h2,h3,h4,h5⟩
 ·exact(h1.xr hs hC).elim
 rw[hs]at h1;cases h1
 have hk:k<o.au.length:=(List.getElem?_eq_some_iff.1 mL).1
 have iJ:cs.length=o.sz:=h3 cs (List.mem_of_getElem? mL)
 have Vc:k*o.sz+o.sz<=o.au.length*o.sz:=by
  have:=Nat.mul_le_mul_right o.sz (show k+1<=o.au.length from hk)
  rw[Nat.add_mul,Nat.one_mul]at this
  exact this
 have dI:=run_storeCells_at P b (base+k*o.sz+off) E us 0 arr w h2 (by rw[SW];omega) IQ
 simp only[Nat.add_zero]at dI
 generalize mV:(arr.toList.take (base+k*o.sz+off)++us++arr.toList.drop (base+k*o.sz+off+us.length)).toArray=b9 at dI
 have gV:b9.size=arr.size:=by rw[<- mV];simp;omega
 have fm:∀p,b9[p]?=if base+k*o.sz+off<=p/\p<base+k*o.sz+off+us.length then us[p-(base+k*o.sz+off)]? else arr[p]?:=by
  intro p
  have hl:(arr.toList.take (base+k*o.sz+off)).length=base+k*o.sz+off:=by simp;omega
  rw[<- mV,List.getElem?_toArray]
  by_cases g1:p<base+k*o.sz+off
  ·rw[if_neg (by omega),List.append_assoc,List.getElem?_append_left (by omega),List.getElem?_take,if_pos g1,Array.getElem?_toList]
  ·by_cases g2:p<base+k*o.sz+off+us.length
   ·rw[if_pos (by omega),List.append_assoc,List.getElem?_append_right (by omega),hl,List.getElem?_append_left (by omega)]
   ·rw[if_neg (by omega),List.getElem?_append_right (by simp;omega),List.getElem?_drop,Array.getElem?_toList]
    congr 1
    simp
    omega
 refine⟨_,dI,?_⟩
 have:=lC (p:=σ id) (w':=w.setRow b b9) (o':={ o with au:=o.au.set k (fy cs off ns) }) hI ho hl rfl rfl rfl (by simp)
  (fun b1 _ eF=>setRow_other w b b1 b9 (fun e=>eF base (by rw[hs,e])))
  (fun b1 iC Pk E1 he hh=>by
   rw[hs]at he;cases he
   rw[h2]at hh;cases hh
   exact⟨b9,setRow_heap w b arr b9 E (0,0) h2,gV⟩)
  (fun b1 iC he hm=>by
   rw[hs]at he;cases he
   exact(hC.notM hm).elim)
  (Nat.le_refl _) (fun _=>⟨rfl,rfl⟩) (fun b1 iC he=>.inl ⟨iC,he⟩)
  (fun hE=>.inr ⟨b,base,b9,E,hs,setRow_heap w b arr b9 E (0,0) h2,(by
   intro e he
   simp only at he
   rcases List.mem_or_eq_of_mem_set he with h'|h'
   ·exact h3 e h'
   ·rw[h',pa _ _ _ hfit];exact iJ),(by simp only[List.length_set];omega),(by
   intro i j x hx
   simp only at hx ⊢
   rw[qY]at hE ⊢
   by_cases K5:i=k
   ·subst K5
    rw[List.getElem?_set_self hk]at hx
    simp only[Option.bind_some]at hx
    rw[mT _ _ _ hfit]at hx
    split at hx
    ·rename_i xD
     obtain⟨u,k1,k2,k3⟩:=hrep _ x hx
     refine⟨u,?_,k2,k3.aO hE⟩
     rw[fm,if_pos (by omega),<- k1]
     congr 1
     omega
    ·rename_i xD
     obtain⟨u,k1,k2,k3⟩:=h5 i j x (by rw[mL];exact hx)
     refine⟨u,?_,k2,k3.aO hE⟩
     rw[fm,if_neg (by omega)]
     exact k1
   ·rw[List.getElem?_set_ne (Ne.symm K5)]at hx
    obtain⟨u,k1,k2,k3⟩:=h5 i j x hx
    refine⟨u,?_,k2,k3.aO hE⟩
    rw[fm,if_neg ?_]
    ·exact k1
    ·have Tb:j<o.sz:=by
      cases he:o.au[i]? with
      |none=>rw[he]at hx;cases hx
      |some e =>
       rw[he]at hx
       have:=(List.getElem?_eq_some_iff.1 hx).1
       rw[h3 e (List.mem_of_getElem? he)]at this
       exact this
     rcases Nat.lt_or_gt_of_ne K5 with az|az
     ·have:=Nat.mul_le_mul_right o.sz (show i+1<=k from az)
      rw[Nat.add_mul,Nat.one_mul]at this
      omega
     ·have:=Nat.mul_le_mul_right o.sz (show k+1<=i from az)
      rw[Nat.add_mul,Nat.one_mul]at this
      omega)⟩)
 rw[qY]at this
 exact this
theorem E5 {P:Program}{t:TypeId}{σ:Gh}{s:List Obj}{w:World}{p x:V}{u c:Value}{K:List Obj->Prop} (hI:Inv σ s w) (hp:aw σ s w p u) (hx:aw σ s w x c) (OF:∀id g i off b a,p≠.pp id g i off b a) (h:fK P t s p x K) :
  ∃s' w',(Instr.storeAt t u c).run P w=.ok () w'/\aA σ s w σ s' w'/\Inv σ s' w'/\K s':=by
 unfold fK at h
 cases ht:cb P t with
 |none=>rw[ht]at h;exact h.elim
 |some i =>
  rw[ht]at h
  simp only at h
  cases hp with
  |rf o ho hg hu hk =>
   simp only[ho]at h
   obtain⟨sI,hl,h⟩:=h
   obtain⟨b,base,hs,hC,rfl⟩:=hk sI
   split at h
   ·exact h.elim
   ·rename_i id g k off _ cs mL
    split at h
    ·exact h.elim
    ·rename_i ns sy
     obtain⟨h1,h2,h3⟩:=h
     obtain⟨zu,rQ⟩:=kB hx sy
     obtain⟨ti,d,z,k1,k2,k3,k4,k5,k6,k7,k8,k9⟩:=fA ht
     have fo:∀w,(sizeOf t).run P w=.ok i.sz w:=fun w=>by simp [sizeOf,typeInfo,k1,k4]
     obtain⟨w',r1,r2,r3⟩:=I1 hI ho hl mL (ns:=ns) (off:=off) (by omega) hs hC (us:=c.cells.toList) (by simpa using zu)
      (fun j x hx=>by
       obtain⟨u,e1,e2,e3⟩:=rQ j x hx
       exact⟨u,by rw[Array.getElem?_toList];exact e1,e2,e3⟩)
      (fun u hu=>by
       obtain⟨j,hj,rfl⟩:=List.mem_iff_getElem.1 hu
       have VZ:j<ns.length:=by simpa [zu]using hj
       obtain⟨u,e1,e2,e3⟩:=rQ j ns[j] (by simp [VZ])
       have:c.cells.toList[j]=u:=by
        rw[<- Array.getElem?_toList]at e1
        exact(List.getElem?_eq_some_iff.1 e1).2
       rw[this];exact e2) P
     refine⟨_,w',?_,r2,r3,h3⟩
     simp [Instr.storeAt,Instr.sureAddr,storeVar,fo,zu,h1,r1]
  |pp o ho hg hk=>exact absurd rfl (OF _ _ _ _ _ _)
  |_=>exact h.elim
theorem Da {P:Program}{t:TypeId}{σ:Gh}{s:List Obj}{w:World}{p x:V}{u c:Value}{K:List Obj->Prop} (hI:Inv σ s w) (hp:aw σ s w p u) (hx:aw σ s w x c) (h:fK P t s p x K) :
  ∃s' w',(Instr.storeAt t u c).run P w=.ok () w'/\aA σ s w σ s' w'/\Inv σ s' w'/\K s':=by
 by_cases Mx:∃id g i off b a,p=.pp id g i off b a
 ·obtain⟨id,g,i,off,b,a,rfl⟩:=Mx
  exact E5 hI hp.OO hx (by intros;simp) h
 ·exact E5 hI hp hx (fun id g i off b a he=>Mx ⟨id,g,i,off,b,a,he⟩) h
end Go.VL
