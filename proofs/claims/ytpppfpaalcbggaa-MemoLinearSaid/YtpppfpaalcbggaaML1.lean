/- A part of the proof (Va Vb Vc Vd Ve Vf Vg Vh Vmk Vhm Vgc Vi Vj Vjr Vk Vl Vm). -/
import Derived.WalkKit
import Derived.WalkSpells
import Derived.ChangeKeysEq
import Derived.Deep.AppendSrc
import Derived.MapKept
import Derived.ChangeMaps5
import Derived.WideKeyMaps
import Derived.TacticsIn
import Derived.OrdersIn
set_option linter.unusedSimpArgs false
set_option linter.unusedVariables false
set_option maxRecDepth 100000
set_option maxHeartbeats 80000000
namespace Go.VL
inductive D where
 | sc (v:Value)
 | sl (els:List (List D))
 | el (cs:List D)
 | cl (fn:Fn) (first caps:List D)
 | ub
inductive V where
 | d (x:D)
 | ag (cs:List V)
 | fu (els:List (List D))
 | so (id g lo n:Nat)
 | rf (id g i off:Nat)
 | pp (id g i off b a:Nat)
 | mp (id g:Nat)
 | bx (v:V)
 | cap (lo hi:Nat) (v:V)
 | cl (fn:Fn) (first caps:List V)
 | tu (vs:List V)
 | un
 | any
structure Obj where
 g:Nat
 live:Bool
 sz:Nat
 els:List (List V)
structure Gh where
 map:Nat→Option (Nat × Nat)
 base:Nat→Prop
instance:CoeFun Gh (fun _=>Nat→Option (Nat × Nat)):=⟨Gh.map⟩
def Own (σ:Gh) (s:List Obj) (b:Nat):Prop:=σ.base b∨∃id o base,s[id]?=some o∧o.live=true∧σ id=some (b,base)
inductive RepD (O:Nat→Prop) (w:World):D→Value→Prop
 | sc (v:Value):v.oneCell'=true→RepD O w (.sc v) v
 | nil:RepD O w (.sl []) (.slice none 0 0)
 | sl (els:List (List D)) (a:Addr) (cap sz:Nat) (f:Nat→Nat→Value):els.length≤cap→(els≠[]→a.spot=none)→(∀e∈els,e.length=sz) →
   (∀i j x,(els[i]?.bind (·[j]?))=some x→w.cell? ⟨a.block,a.off + i * sz + j,none⟩=some (f i j)∧¬O a.block) →
   (∀i j x,(els[i]?.bind (·[j]?))=some x→RepD O w x (f i j))→RepD O w (.sl els) (.slice (some a) els.length cap)
 | el (cs:List D) (a:Addr) (f:Nat→Value):a.spot=none →
   (∀j x,cs[j]?=some x→w.cell? ⟨a.block,a.off + j,none⟩=some (f j)∧¬O a.block) →
   (∀j x,cs[j]?=some x→RepD O w x (f j))→RepD O w (.el cs) (.pointer (some a))
 | cl {fn:Fn} {first caps:List D} {f' c':Array Value}:f'.size=first.length→(∀i x,first[i]?=some x→RepD O w x (f'.getD i undef)) →
   c'.size=caps.length→(∀i x,caps[i]?=some x→RepD O w x (c'.getD i undef))→RepD O w (.cl fn first caps) (.func fn f' c')
 | ub (b:Bool):RepD O w .ub (.bool b)
def SoOK (σ:Gh) (w:World) (id:Nat) (o:Obj) (lo n:Nat) (u:Value):Prop :=
 (σ id=none∧(∃a,u=.slice a 0 0)∧lo=0∧n=0) ∨
 ∃b base cap E arr,σ id=some (b,base)∧w.heap[b]?=some (.cells arr E (0,0))∧u=.slice (some ⟨b,base + lo * o.sz,none⟩) n cap∧n≤cap∧base + (lo + cap) * o.sz≤arr.size
def SlN (n:Nat) (u:Value):Prop:=∃a c,u=.slice a n c
theorem SlN.one {n:Nat} {u:Value} (h:SlN n u):u.oneCell'=true:=by obtain⟨_,_,rfl⟩:=h; rfl
def IsC (w:World) (b:Nat):Prop:=∃arr E,w.heap[b]?=some (.cells arr E (0,0))
def IsM (w:World) (b:Nat):Prop:=∃es c,w.heap[b]?=some (.map es c)
def CapIn (lo hi:Nat) (u:Value):Prop:=∀a n c,u=.slice a n c→lo≤c∧c≤hi
inductive RepV (σ:Gh) (s:List Obj) (w:World):V→Value→Prop
 | d {x:D} {u:Value}:RepD (Own σ s) w x u→RepV σ s w (.d x) u
 | ag {cs:List V} {arr:Array Value}:arr.size=cs.length→(∀i x,cs[i]?=some x→(arr.getD i undef).oneCell'=true) →
   (∀i x,cs[i]?=some x→RepV σ s w x (arr.getD i undef))→RepV σ s w (.ag cs) (.agg arr)
 | tu {cs:List V} {arr:Array Value}:arr.size=cs.length→(∀i x,cs[i]?=some x→RepV σ s w x (arr.getD i undef))→RepV σ s w (.tu cs) (.tuple arr)
 | fu {els:List (List D)} {a:Option Addr}:RepD (Own σ s) w (.sl els) (.slice a els.length els.length)→RepV σ s w (.fu els) (.slice a els.length els.length)
 | so {id g lo n:Nat} {u:Value} (o:Obj):s[id]?=some o→g≤o.g→SlN n u→(o.g=g→SoOK σ w id o lo n u)→RepV σ s w (.so id g lo n) u
 | rf {id g i off:Nat} {u:Value} (o:Obj):s[id]?=some o→g≤o.g→u.oneCell'=true→(o.g=g→∃b base,σ id=some (b,base)∧IsC w b∧u=.pointer (some ⟨b,base + i * o.sz + off,none⟩)) →
   RepV σ s w (.rf id g i off) u
 | pp {id g i off b a:Nat} (o:Obj):s[id]?=some o→g≤o.g→(o.g=g→∃base,σ id=some (b,base)∧IsC w b∧a=base + i * o.sz + off)→RepV σ s w (.pp id g i off b a) (.pointer (some ⟨b,a,none⟩))
 | mp {id g:Nat} {u:Value} (o:Obj):s[id]?=some o→g≤o.g→u.oneCell'=true→(o.g=g→∃b,σ id=some (b,0)∧IsM w b∧u=.map (some b))→RepV σ s w (.mp id g) u
 | bx {v:V} {a:Addr} {u:Value}:a.spot=none→w.cell? ⟨a.block,a.off,none⟩=some u→¬Own σ s a.block→u.oneCell'=true→RepV σ s w v u→RepV σ s w (.bx v) (.pointer (some a))
 | cap {lo hi:Nat} {v:V} {u:Value}:CapIn lo hi u→RepV σ s w v u→RepV σ s w (.cap lo hi v) u
 | cl {fn:Fn} {first caps:List V} {f' c':Array Value}:f'.size=first.length→(∀i x,first[i]?=some x→RepV σ s w x (f'.getD i undef)) →
   c'.size=caps.length→(∀i x,caps[i]?=some x→RepV σ s w x (c'.getD i undef))→RepV σ s w (.cl fn first caps) (.func fn f' c')
 | un:RepV σ s w .un undef
 | any {u:Value}:RepV σ s w .any u
structure Evolve (σ:Gh) (s:List Obj) (w:World) (σ':Gh) (s':List Obj) (w':World):Prop where
 os:w'.os=w.os
 tape:w'.tape=w.tape
 output:w'.output=w.output
 size:w.heap.size≤w'.heap.size
 keep:∀b,b < w.heap.size→¬Own σ s b→w'.heap[b]?=w.heap[b]?
 shape:∀b arr E,Own σ s b→w.heap[b]?=some (.cells arr E (0,0))→∃arr',w'.heap[b]?=some (.cells arr' E (0,0))∧arr'.size=arr.size
 shapeM:∀b,Own σ s b→IsM w b→IsM w' b
 own:∀b,Own σ' s' b→Own σ s b∨w.heap.size≤b
 objs:∀id o,s[id]?=some o→∃o',s'[id]?=some o'∧o.g≤o'.g∧(o'.g=o.g→o'.sz=o.sz∧σ' id=σ id)
 base:σ'.base=σ.base
 foreign:∀b,b < w.heap.size→σ.base b→w'.heap[b]?=w.heap[b]?
theorem Evolve.refl (σ:Gh) (s:List Obj) (w:World):Evolve σ s w σ s w :=
 ⟨rfl,rfl,rfl,Nat.le_refl _,fun _ _ _=>rfl,fun _ arr _ _ h=>⟨arr,h,rfl⟩,fun _ _ h=>h,fun _ h=>.inl h,fun _ o h=>⟨o,h,Nat.le_refl _,fun _=>⟨rfl,rfl⟩⟩,rfl,fun _ _ _=>rfl⟩
theorem lt_heap {w:World} {b:Nat} {o:Go.Obj} (h:w.heap[b]?=some o):b < w.heap.size:=by
 rcases Nat.lt_or_ge b w.heap.size with h' | h'
 ·exact h'
 ·simp [Array.getElem?_eq_none h'] at h
theorem Evolve.trans {σ s w σ' s' w' σ'' s'' w''} (h:Evolve σ s w σ' s' w') (k:Evolve σ' s' w' σ'' s'' w''):Evolve σ s w σ'' s'' w'':=by
 refine⟨k.os.trans h.os,k.tape.trans h.tape,k.output.trans h.output,Nat.le_trans h.size k.size,?_,?_,?_,?_,?_,k.base.trans h.base,
  fun b hb ho=>(k.foreign b (Nat.lt_of_lt_of_le hb h.size) (by rw[h.base]; exact ho)).trans (h.foreign b hb ho)⟩
 ·intro b hb ho
  rw[k.keep b (Nat.lt_of_lt_of_le hb h.size) (fun h'=>(h.own b h').elim ho (fun h''=>by omega)),h.keep b hb ho]
 ·intro b arr E ho hh
  obtain⟨arr',h1,h2⟩:=h.shape b arr E ho hh
  by_cases ho':Own σ' s' b
  ·obtain⟨arr'',h3,h4⟩:=k.shape b arr' E ho' h1
   exact⟨arr'',h3,by omega⟩
  ·exact⟨arr',by rw[k.keep b (lt_heap h1) ho']; exact h1,h2⟩
 ·intro b ho hh
  obtain⟨es,c,h1⟩:=h.shapeM b ho hh
  by_cases ho':Own σ' s' b
  ·exact k.shapeM b ho' ⟨es,c,h1⟩
  ·exact⟨es,c,by rw[k.keep b (lt_heap h1) ho']; exact h1⟩
 ·intro b hb
  rcases k.own b hb with h' | h'
  ·exact h.own b h'
  ·exact .inr (Nat.le_trans h.size h')
 ·intro id o ho
  obtain⟨o',h1,h2,h3⟩:=h.objs id o ho
  obtain⟨o'',k1,k2,k3⟩:=k.objs id o' h1
  refine⟨o'',k1,Nat.le_trans h2 k2,fun he=>?_⟩
  have e1:o'.g=o.g:=by omega
  have e2:o''.g=o'.g:=by omega
  exact⟨(k3 e2).1.trans (h3 e1).1,(k3 e2).2.trans (h3 e1).2⟩
theorem Evolve.cell {σ s w σ' s' w'} (h:Evolve σ s w σ' s' w') {a:Addr} {u:Value} (hc:w.cell? a=some u) (ho:¬Own σ s a.block) :
  w'.cell? a=some u∧¬Own σ' s' a.block:=by
 have hb:=World.block_lt_of_cell? _ _ hc
 refine⟨?_,fun h'=>?_⟩
 ·rw[World.cell?_of_block (w:=w) (h.keep a.block hb ho)]; exact hc
 ·rcases h.own _ h' with h' | h'
  ·exact ho h'
  ·omega
theorem RepD.evolve {σ s w σ' s' w'} (h:Evolve σ s w σ' s' w') {x:D} {u:Value} (hr:RepD (Own σ s) w x u):RepD (Own σ' s') w' x u:=by
 induction hr with
 | sc v hv=>exact .sc v hv
 | nil=>exact .nil
 | sl els a cap sz f h1 h2 h3 h4 _ ih=>exact .sl els a cap sz f h1 h2 h3 (fun i j x hx=>h.cell (a:=⟨a.block,_,none⟩) (h4 i j x hx).1 (h4 i j x hx).2) ih
 | el cs a f h1 h2 _ ih=>exact .el cs a f h1 (fun j x hx=>h.cell (a:=⟨a.block,_,none⟩) (h2 j x hx).1 (h2 j x hx).2) ih
 | cl h1 _ h3 _ ih1 ih2=>exact .cl h1 ih1 h3 ih2
 | ub b=>exact .ub b
theorem RepD.own {O O':Nat→Prop} {w:World} {x:D} {u:Value} (h:∀b,O' b→O b) (hr:RepD O w x u):RepD O' w x u:=by
 induction hr with
 | sc v hv=>exact .sc v hv
 | nil=>exact .nil
 | sl els a cap sz f h1 h2 h3 h4 _ ih=>exact .sl els a cap sz f h1 h2 h3 (fun i j x hx=>⟨(h4 i j x hx).1,fun h'=>(h4 i j x hx).2 (h _ h')⟩) ih
 | el cs a f h1 h2 _ ih=>exact .el cs a f h1 (fun j x hx=>⟨(h2 j x hx).1,fun h'=>(h2 j x hx).2 (h _ h')⟩) ih
 | cl h1 _ h3 _ ih1 ih2=>exact .cl h1 ih1 h3 ih2
 | ub b=>exact .ub b
theorem SoOK.evolve {σ s w σ' s' w'} (h:Evolve σ s w σ' s' w') {id:Nat} {o o':Obj} {lo n:Nat} {u:Value} (hsz:o'.sz=o.sz) (hs:σ' id=σ id)
  (hk:SoOK σ w id o lo n u):SoOK σ' w' id o' lo n u:=by
 rcases hk with ⟨h1,h2,h3,h4⟩ | ⟨b,base,cap,E,arr,h1,h2,h3,h4,h5⟩
 ·exact .inl ⟨hs.trans h1,h2,h3,h4⟩
 ·by_cases hO:Own σ s b
  ·obtain⟨arr',k1,k2⟩:=h.shape b arr E hO h2
   exact .inr ⟨b,base,cap,E,arr',hs.trans h1,k1,by rw[hsz]; exact h3,h4,by rw[hsz,k2]; exact h5⟩
  ·exact .inr ⟨b,base,cap,E,arr,hs.trans h1,by rw[h.keep b (lt_heap h2) hO]; exact h2,by rw[hsz]; exact h3,h4,by rw[hsz]; exact h5⟩
theorem IsC.evolve {σ s w σ' s' w'} (h:Evolve σ s w σ' s' w') {b:Nat} (hc:IsC w b):IsC w' b:=by
 obtain⟨arr,E,hh⟩:=hc
 by_cases hO:Own σ s b
 ·obtain⟨arr',k1,_⟩:=h.shape b arr E hO hh
  exact⟨arr',E,k1⟩
 ·exact⟨arr,E,by rw[h.keep b (lt_heap hh) hO]; exact hh⟩
theorem IsM.evolve {σ s w σ' s' w'} (h:Evolve σ s w σ' s' w') {b:Nat} (hc:IsM w b):IsM w' b:=by
 by_cases hO:Own σ s b
 ·exact h.shapeM b hO hc
 ·obtain⟨es,c,hh⟩:=hc
  exact⟨es,c,by rw[h.keep b (lt_heap hh) hO]; exact hh⟩
theorem IsC.notM {w:World} {b:Nat} (h:IsC w b) (k:IsM w b):False:=by
 obtain⟨arr,E,h⟩:=h
 obtain⟨es,c,k⟩:=k
 rw[h] at k; cases k
theorem RepV.evolve {σ s w σ' s' w'} (h:Evolve σ s w σ' s' w') {x:V} {u:Value} (hr:RepV σ s w x u):RepV σ' s' w' x u:=by
 induction hr with
 | d hx=>exact .d (hx.evolve h)
 | ag h1 h2 _ ih=>exact .ag h1 h2 ih
 | tu h1 _ ih=>exact .tu h1 ih
 | fu hx=>exact .fu (hx.evolve h)
 | so o ho hg hu hk =>
  obtain⟨o',h1,h2,h3⟩:=h.objs _ o ho
  exact .so o' h1 (Nat.le_trans hg h2) hu fun he=>have e:o'.g=o.g:=by omega
   SoOK.evolve h (h3 e).1 (h3 e).2 (hk (by omega))
 | rf o ho hg hu hk =>
  obtain⟨o',h1,h2,h3⟩:=h.objs _ o ho
  refine .rf o' h1 (Nat.le_trans hg h2) hu fun he=>?_
  have e:o'.g=o.g:=by omega
  obtain⟨b,base,k1,kc,k2⟩:=hk (by omega)
  exact⟨b,base,(h3 e).2.trans k1,kc.evolve h,by rw[(h3 e).1]; exact k2⟩
 | pp o ho hg hk =>
  obtain⟨o',h1,h2,h3⟩:=h.objs _ o ho
  refine .pp o' h1 (Nat.le_trans hg h2) fun he=>?_
  have e:o'.g=o.g:=by omega
  obtain⟨base,k1,kc,k2⟩:=hk (by omega)
  exact⟨base,(h3 e).2.trans k1,kc.evolve h,by rw[(h3 e).1]; exact k2⟩
 | mp o ho hg hu hk =>
  obtain⟨o',h1,h2,h3⟩:=h.objs _ o ho
  refine .mp o' h1 (Nat.le_trans hg h2) hu fun he=>?_
  have e:o'.g=o.g:=by omega
  obtain⟨b,k1,kc,k2⟩:=hk (by omega)
  exact⟨b,(h3 e).2.trans k1,kc.evolve h,k2⟩
 | cap h1 _ ih=>exact .cap h1 ih
 | bx h1 h2 h3 hu _ ih =>
  obtain⟨k1,k2⟩:=h.cell h2 h3
  exact .bx h1 k1 k2 hu ih
 | cl h1 _ h3 _ ih1 ih2=>exact .cl h1 ih1 h3 ih2
 | un=>exact .un
 | any=>exact .any
theorem RepV.pp_rf {σ s w} {id g i off b a:Nat} {u:Value} (h:RepV σ s w (.pp id g i off b a) u):RepV σ s w (.rf id g i off) u:=by
 cases h with
 | pp o ho hg hk=>exact .rf o ho hg rfl fun he=>let ⟨base,h1,h2,h3⟩:=hk he; ⟨b,base,h1,h2,by rw[h3]⟩
theorem RepV.pp_raw {σ s w} {id g i off b a:Nat} {u:Value} (h:RepV σ s w (.pp id g i off b a) u):u=.pointer (some ⟨b,a,none⟩):=by
 cases h with
 | pp o ho hg hk=>rfl
theorem RepV.rf_pp {σ s w} {id g i off:Nat} {u:Value} {o:Obj} (ho:s[id]?=some o) (hg:o.g=g) (h:RepV σ s w (.rf id g i off) u):∃b a,RepV σ s w (.pp id g i off b a) u:=by
 cases h with
 | rf o' ho' hg' hu hk =>
  rw[ho] at ho'; cases ho'
  obtain⟨b,base,h1,h2,rfl⟩:=hk hg
  exact⟨b,_,.pp o ho hg' fun _=>⟨base,h1,h2,rfl⟩⟩
def mapEls (es:Array MapEntry):List (List V):=es.toList.map fun e=>[V.d (.sc e.key),V.d (.sc e.val)]
def Bare (w:World) (p:Option (Nat × Nat)) (o:Obj):Prop :=
 (p=none∧o.els=[])∨∃b es c,p=some (b,0)∧w.heap[b]?=some (.map es c)∧o.els=mapEls es
theorem Bare.notC {w:World} {p:Option (Nat × Nat)} {o:Obj} (h:Bare w p o) {b base:Nat} (hp:p=some (b,base)) (hc:IsC w b):False:=by
 rcases h with ⟨h,_⟩ | ⟨b',es,c,h,hh,_⟩
 ·rw[hp] at h; cases h
 ·rw[hp] at h; cases h
  exact hc.notM ⟨es,c,hh⟩
theorem Bare.congr {w:World} {p:Option (Nat × Nat)} {o o':Obj} (h:Bare w p o') (he:o.els=o'.els):Bare w p o:=by
 unfold Bare at *; rw[he]; exact h
theorem Bare.els_nil {w:World} {p:Option (Nat × Nat)} {o:Obj} (h:Bare w p o) (hp:p=none):o.els=[]:=by
 rcases h with ⟨_,h⟩ | ⟨b',es,c,h,_⟩
 ·exact h
 ·rw[hp] at h; cases h
structure Inv (σ:Gh) (s:List Obj) (w:World):Prop where
 content:∀id o,s[id]?=some o→Bare w (σ id) o∨∃b base arr E,σ id=some (b,base)∧w.heap[b]?=some (.cells arr E (0,0)) ∧
  (∀e∈o.els,e.length=o.sz)∧base + o.els.length * o.sz≤arr.size ∧
  ∀i j x,(o.els[i]?.bind (·[j]?))=some x→∃u,arr[base + i * o.sz + j]?=some u∧u.oneCell'=true∧RepV σ s w x u
 inj:∀id id' o o' b base base',s[id]?=some o→s[id']?=some o'→o.live=true→σ id=some (b,base)→σ id'=some (b,base')→id=id'
 low:∀b,σ.base b→b < w.heap.size
 apart:∀id o b base,s[id]?=some o→σ id=some (b,base)→¬σ.base b
def updG (σ:Gh) (id:Nat) (p:Option (Nat × Nat)):Gh:=⟨fun k=>if k=id then p else σ k,σ.base⟩
theorem updG_same (σ:Gh) (id:Nat) (p:Option (Nat × Nat)):updG σ id p id=p:=by simp [updG]
theorem updG_other (σ:Gh) {id k:Nat} (p:Option (Nat × Nat)) (h:k≠id):updG σ id p k=σ k:=by simp [updG,h]
def Holds (σ:Gh) (s:List Obj) (w:World) (p:Option (Nat × Nat)) (o:Obj):Prop :=
 Bare w p o∨∃b base arr E,p=some (b,base)∧w.heap[b]?=some (.cells arr E (0,0)) ∧
  (∀e∈o.els,e.length=o.sz)∧base + o.els.length * o.sz≤arr.size ∧
  ∀i j x,(o.els[i]?.bind (·[j]?))=some x→∃u,arr[base + i * o.sz + j]?=some u∧u.oneCell'=true∧RepV σ s w x u
theorem Holds.evolve {σ s w σ' s' w' p o} (h:Evolve σ s w σ' s' w') (hb:∀b base,p=some (b,base)→w'.heap[b]?=w.heap[b]?) (hh:Holds σ s w p o):Holds σ' s' w' p o:=by
 rcases hh with h1 | ⟨b,base,arr,E,h1,h2,h3,h4,h5⟩
 ·refine .inl ?_
  rcases h1 with h1 | ⟨b,es,c,h1,h2,h3⟩
  ·exact .inl h1
  ·exact .inr ⟨b,es,c,h1,(hb b 0 h1).trans h2,h3⟩
 ·exact .inr ⟨b,base,arr,E,h1,(hb b base h1).trans h2,h3,h4,fun i j x hx=>let ⟨u,k1,k2,k3⟩:=h5 i j x hx; ⟨u,k1,k2,k3.evolve h⟩⟩
theorem Inv.lt {σ s w} (hI:Inv σ s w) {id o b base} (ho:s[id]?=some o) (hs:σ id=some (b,base)):b < w.heap.size:=by
 rcases hI.content id o ho with (⟨h1,_⟩ | ⟨b',es,c,h1,h2,_⟩) | ⟨b',base',arr,E,h1,h2,_⟩
 ·rw[hs] at h1; cases h1
 ·rw[hs] at h1; cases h1; exact lt_heap h2
 ·rw[hs] at h1; cases h1; exact lt_heap h2
theorem set_obj {σ:Gh} {s:List Obj} {w:World} (hI:Inv σ s w) {id:Nat} {o o':Obj} {p:Option (Nat × Nat)} {w':World} (ho:s[id]?=some o) (hl:o.live=true)
  (hos:w'.os=w.os) (htape:w'.tape=w.tape) (hout:w'.output=w.output) (hsize:w.heap.size≤w'.heap.size)
  (hkeep:∀b,b < w.heap.size→(∀base,σ id≠some (b,base))→w'.heap[b]?=w.heap[b]?)
  (hshape:∀b base arr E,σ id=some (b,base)→w.heap[b]?=some (.cells arr E (0,0))→∃arr',w'.heap[b]?=some (.cells arr' E (0,0))∧arr'.size=arr.size)
  (hshapeM:∀b base,σ id=some (b,base)→IsM w b→IsM w' b)
  (hg:o.g≤o'.g) (hg':o'.g=o.g→o'.sz=o.sz∧p=σ id)
  (hp:∀b base,p=some (b,base)→(∃base0,σ id=some (b,base0))∨w.heap.size≤b)
  (hc:Evolve σ s w (updG σ id p) (s.set id o') w'→Holds (updG σ id p) (s.set id o') w' p o') :
  Evolve σ s w (updG σ id p) (s.set id o') w'∧Inv (updG σ id p) (s.set id o') w':=by
 have hlt:id < s.length:=(List.getElem?_eq_some_iff.1 ho).1
 have hself:(s.set id o')[id]?=some o':=by simp [hlt]
 have hoth:∀k,k≠id→(s.set id o')[k]?=s[k]?:=fun k hk=>by rw[List.getElem?_set_ne (Ne.symm hk)]
 have hblk:∀k ok b base,k≠id→s[k]?=some ok→σ k=some (b,base)→w'.heap[b]?=w.heap[b]?:=by
  intro k ok b base hk hok hs
  exact hkeep b (hI.lt hok hs) fun base' he=>hk (hI.inj id k o ok b base' base ho hok hl he hs).symm
 have hE:Evolve σ s w (updG σ id p) (s.set id o') w':=by
  refine⟨hos,htape,hout,hsize,?_,?_,?_,?_,?_,rfl,fun b hb hf=>hkeep b hb fun base he=>hI.apart id o b base ho he hf⟩
  ·intro b hb hno
   exact hkeep b hb fun base he=>hno (.inr ⟨id,o,base,ho,hl,he⟩)
  ·intro b arr E hO hh
   by_cases he:∃base,σ id=some (b,base)
   ·obtain⟨base,he⟩:=he
    exact hshape b base arr E he hh
   ·exact⟨arr,by rw[hkeep b (lt_heap hh) (fun base h'=>he ⟨base,h'⟩)]; exact hh,rfl⟩
  ·intro b hO hm
   by_cases he:∃base,σ id=some (b,base)
   ·obtain⟨base,he⟩:=he
    exact hshapeM b base he hm
   ·obtain⟨es,c,hh⟩:=hm
    exact⟨es,c,by rw[hkeep b (lt_heap hh) (fun base h'=>he ⟨base,h'⟩)]; exact hh⟩
  ·rintro b (hf | ⟨k,ok,base,hk1,hk2,hk3⟩)
   ·exact .inl (.inl hf)
   by_cases hk:k=id
   ·subst hk
    rw[updG_same] at hk3
    rcases hp b base hk3 with ⟨base0,h'⟩ | h'
    ·exact .inl (.inr ⟨k,o,base0,ho,hl,h'⟩)
    ·exact .inr h'
   ·rw[updG_other _ _ hk] at hk3
    rw[hoth k hk] at hk1
    exact .inl (.inr ⟨k,ok,base,hk1,hk2,hk3⟩)
  ·intro k ok hok
   by_cases hk:k=id
   ·subst hk
    rw[ho] at hok; cases hok
    exact⟨o',hself,hg,fun he=>⟨(hg' he).1,by rw[updG_same]; exact(hg' he).2⟩⟩
   ·exact⟨ok,by rw[hoth k hk]; exact hok,Nat.le_refl _,fun _=>⟨rfl,updG_other _ _ hk⟩⟩
 refine⟨hE,⟨?_,?_,fun b hb=>Nat.lt_of_lt_of_le (hI.low b hb) hsize,?_⟩⟩
 rotate_left 2
 ·intro k ok b base h1 h3 hf
  by_cases hk:k=id
  ·subst hk
   rw[updG_same] at h3
   rcases hp b base h3 with ⟨base0,h'⟩ | h'
   ·exact hI.apart k o b base0 ho h' hf
   ·have:=hI.low b hf; omega
  ·rw[updG_other _ _ hk] at h3
   rw[hoth k hk] at h1
   exact hI.apart k ok b base h1 h3 hf
 ·intro k ok hok
  by_cases hk:k=id
  ·subst hk
   rw[hself] at hok; cases hok
   rw[updG_same]
   exact hc hE
  ·rw[hoth k hk] at hok
   rw[updG_other _ _ hk]
   exact Holds.evolve (p:=σ k) hE (fun b base h=>hblk k ok b base hk hok h) (hI.content k ok hok)
 ·intro k k' ok ok' b base base' h1 h2 h3 h4 h5
  by_cases hk:k=id <;> by_cases hk':k'=id
  ·rw[hk,hk']
  ·subst hk
   rw[updG_same] at h4
   rw[updG_other _ _ hk'] at h5
   rw[hoth k' hk'] at h2
   rcases hp b base h4 with ⟨base0,h'⟩ | h'
   ·exact hI.inj _ _ _ _ _ _ _ ho h2 hl h' h5
   ·have:=hI.lt h2 h5; omega
  ·subst hk'
   rw[updG_same] at h5
   rw[updG_other _ _ hk] at h4
   rw[hoth k hk] at h1
   rcases hp b base' h5 with ⟨base0,h'⟩ | h'
   ·exact hI.inj _ _ _ _ _ _ _ h1 ho h3 h4 h'
   ·have:=hI.lt h1 h4; omega
  ·rw[updG_other _ _ hk] at h4
   rw[updG_other _ _ hk'] at h5
   rw[hoth k hk] at h1
   rw[hoth k' hk'] at h2
   exact hI.inj _ _ _ _ _ _ _ h1 h2 h3 h4 h5
theorem push_obj {σ:Gh} {s:List Obj} {w:World} (hI:Inv σ s w) {o':Obj} {p:Option (Nat × Nat)} {w':World}
  (hos:w'.os=w.os) (htape:w'.tape=w.tape) (hout:w'.output=w.output) (hsize:w.heap.size≤w'.heap.size)
  (hkeep:∀b,b < w.heap.size→w'.heap[b]?=w.heap[b]?)
  (hp:∀b base,p=some (b,base)→w.heap.size≤b)
  (hc:Evolve σ s w (updG σ s.length p) (s++[o']) w'→Holds (updG σ s.length p) (s++[o']) w' p o') :
  Evolve σ s w (updG σ s.length p) (s++[o']) w'∧Inv (updG σ s.length p) (s++[o']) w':=by
 have hself:(s++[o'])[s.length]?=some o':=by simp
 have hoth:∀k ok,k≠s.length→(s++[o'])[k]?=some ok→s[k]?=some ok:=by
  intro k ok hk h
  rw[List.getElem?_append] at h
  split at h
  ·exact h
  ·rename_i h'
   have:k - s.length≠0:=by omega
   cases hh:k - s.length with
   | zero=>omega
   | succ n=>rw[hh] at h; simp at h
 have hlt:∀k ok,s[k]?=some ok→k≠s.length:=fun k ok h=>by have:=(List.getElem?_eq_some_iff.1 h).1; omega
 have hE:Evolve σ s w (updG σ s.length p) (s++[o']) w':=by
  refine⟨hos,htape,hout,hsize,fun b hb _=>hkeep b hb,fun b arr E _ hh=>⟨arr,by rw[hkeep b (lt_heap hh)]; exact hh,rfl⟩,fun b _ hm=>let ⟨es,c,hh⟩:=hm; ⟨es,c,by rw[hkeep b (lt_heap hh)]; exact hh⟩,?_,?_,rfl,fun b hb _=>hkeep b hb⟩
  ·rintro b (hf | ⟨k,ok,base,hk1,hk2,hk3⟩)
   ·exact .inl (.inl hf)
   by_cases hk:k=s.length
   ·subst hk
    rw[updG_same] at hk3
    exact .inr (hp b base hk3)
   ·rw[updG_other _ _ hk] at hk3
    exact .inl (.inr ⟨k,ok,base,hoth k ok hk hk1,hk2,hk3⟩)
  ·intro k ok hok
   exact⟨ok,by rw[List.getElem?_append_left (List.getElem?_eq_some_iff.1 hok).1]; exact hok,Nat.le_refl _,fun _=>⟨rfl,updG_other _ _ (hlt k ok hok)⟩⟩
 refine⟨hE,⟨?_,?_,fun b hb=>Nat.lt_of_lt_of_le (hI.low b hb) hsize,?_⟩⟩
 rotate_left 2
 ·intro k ok b base h1 h3 hf
  by_cases hk:k=s.length
  ·subst hk
   rw[updG_same] at h3
   have:=hp b base h3
   have:=hI.low b hf
   omega
  ·rw[updG_other _ _ hk] at h3
   exact hI.apart k ok b base (hoth k ok hk h1) h3 hf
 ·intro k ok hok
  by_cases hk:k=s.length
  ·subst hk
   rw[hself] at hok; cases hok
   rw[updG_same]
   exact hc hE
  ·have h':=hoth k ok hk hok
   rw[updG_other _ _ hk]
   exact Holds.evolve (p:=σ k) hE (fun b base h=>hkeep b (hI.lt h' h)) (hI.content k ok h')
 ·intro k k' ok ok' b base base' h1 h2 h3 h4 h5
  by_cases hk:k=s.length <;> by_cases hk':k'=s.length
  ·rw[hk,hk']
  ·subst hk
   rw[updG_same] at h4
   rw[updG_other _ _ hk'] at h5
   have:=hI.lt (hoth k' ok' hk' h2) h5
   have:=hp b base h4
   omega
  ·subst hk'
   rw[updG_same] at h5
   rw[updG_other _ _ hk] at h4
   have:=hI.lt (hoth k ok hk h1) h4
   have:=hp b base' h5
   omega
  ·rw[updG_other _ _ hk] at h4
   rw[updG_other _ _ hk'] at h5
   exact hI.inj _ _ _ _ _ _ _ (hoth k ok hk h1) (hoth k' ok' hk' h2) h3 h4 h5
theorem same_obj {σ:Gh} {s:List Obj} {w w':World} (hI:Inv σ s w) (hos:w'.os=w.os) (htape:w'.tape=w.tape) (hout:w'.output=w.output) (hsize:w.heap.size≤w'.heap.size)
  (hkeep:∀b,b < w.heap.size→w'.heap[b]?=w.heap[b]?):Evolve σ s w σ s w'∧Inv σ s w':=by
 have hE:Evolve σ s w σ s w':=⟨hos,htape,hout,hsize,fun b hb _=>hkeep b hb,fun b arr E _ hh=>⟨arr,by rw[hkeep b (lt_heap hh)]; exact hh,rfl⟩,fun b _ hm=>let ⟨es,c,hh⟩:=hm; ⟨es,c,by rw[hkeep b (lt_heap hh)]; exact hh⟩,fun b h=>.inl h,
  fun id o ho=>⟨o,ho,Nat.le_refl _,fun _=>⟨rfl,rfl⟩⟩,rfl,fun b hb _=>hkeep b hb⟩
 exact⟨hE,fun k ok hok=>Holds.evolve (p:=σ k) hE (fun b base h=>hkeep b (hI.lt hok h)) (hI.content k ok hok),hI.inj,fun b hb=>Nat.lt_of_lt_of_le (hI.low b hb) hsize,hI.apart⟩
theorem drew_obj {σ:Gh} {s:List Obj} {w:World} (hI:Inv σ s w):Evolve σ s w σ s w.drew∧Inv σ s w.drew :=
 same_obj hI rfl rfl rfl (Nat.le_refl _) (fun _ _=>rfl)
theorem alloc_obj {σ:Gh} {s:List Obj} {w:World} (hI:Inv σ s w) (x:Go.Obj):Evolve σ s w σ s (w.alloc x)∧Inv σ s (w.alloc x) :=
 same_obj hI rfl rfl rfl (by simp) (fun b hb=>Go.RowKit.Below.heap_alloc w x b hb)
structure TyI where
 sz:Nat
 agg:Bool
 byt:Nat
 zero:List Value
def tyI (P:Program) (t:TypeId):Option TyI :=
 match P.info? t,P.underlying t with
 | some i,some d=>match i.zero with
  | some z=>if z.cells.size=i.size∧z.cells.toList.all Value.oneCell'=true then
    some ⟨i.size,(match d with | .struct _ | .array _ _=>true | _=>false),i.bytes,z.cells.toList⟩ else none
  | none=>none
 | _,_=>none
theorem tyI_spec {P:Program} {t:TypeId} {i:TyI} (h:tyI P t=some i):∃ti d z,P.info? t=some ti∧P.underlying t=some d∧ti.zero=some z∧ti.size=i.sz∧ti.bytes=i.byt ∧
  z.cells.toList=i.zero∧i.zero.length=i.sz∧(∀v∈i.zero,v.oneCell'=true)∧(∀w,(isAgg t).run P w=.ok i.agg w):=by
 unfold tyI at h
 cases h1:P.info? t with
 | none=>simp [h1] at h
 | some ti =>
  cases h2:P.underlying t with
  | none=>simp [h1,h2] at h
  | some d =>
   cases h3:ti.zero with
   | none=>simp [h1,h2,h3] at h
   | some z =>
    simp only[h1,h2,h3] at h
    split at h
    ·rename_i hc
     simp only[Option.some.injEq] at h
     subst h
     refine⟨ti,d,z,rfl,rfl,h3,rfl,rfl,rfl,by simpa using hc.1,fun v hv=>List.all_eq_true.1 hc.2 v hv,fun w=>?_⟩
     cases d <;> simp [isAgg,run_underlying h2]
    ·cases h
def cv:Value→V
 | .slice none 0 0=>.fu []
 | .agg _=>.any
 | .tuple _=>.any
 | v=>.d (.sc v)
theorem cv_rep {σ s w} (v:Value):RepV σ s w (cv v) v:=by
 unfold cv
 split
 ·exact .fu .nil
 ·exact .any
 ·exact .any
 ·rename_i h1 h2 h3
  refine .d (.sc v ?_)
  cases v <;> simp_all [Value.oneCell']
def cvA:Value→V
 | .agg cs=>if cs.toList.all Value.oneCell'=true then .ag (cs.toList.map cv) else .any
 | v=>cv v
theorem cvA_rep {σ s w} (v:Value):RepV σ s w (cvA v) v:=by
 unfold cvA
 split
 ·rename_i cs
  split
  ·rename_i h
   rw[List.all_eq_true] at h
   refine .ag (by simp) (fun i x hx=>?_) (fun i x hx=>?_)
   ·rw[List.getElem?_map] at hx
    obtain⟨y,hy,rfl⟩:=Option.map_eq_some_iff.1 hx
    have h2:cs[i]?=some y:=by rw[← Array.getElem?_toList]; exact hy
    rw[Array.getD_eq_getD_getElem?,h2]
    exact h y (List.mem_of_getElem? hy)
   ·rw[List.getElem?_map] at hx
    obtain⟨y,hy,rfl⟩:=Option.map_eq_some_iff.1 hx
    have h2:cs[i]?=some y:=by rw[← Array.getElem?_toList]; exact hy
    rw[Array.getD_eq_getD_getElem?,h2]
    exact cv_rep y
  ·exact .any
 ·exact cv_rep _
def ev (e:Nat→V):Operand→V
 | .tmp t=>e t
 | .const v=>cvA v
 | .global _=>.any
 | .func f=>.cl (.func f) [] []
def cellsV:V→Option (List V)
 | .ag cs=>some cs
 | .un | .any | .tu _ | .cap ..=>none
 | v=>some [v]
theorem RepD.one {O w x u} (h:RepD O w x u):u.oneCell'=true:=by
 cases h <;> first | assumption | rfl
theorem cellsV_spec {σ:Gh} {s:List Obj} {w:World} {x:V} {u:Value} {cs:List V} (hr:RepV σ s w x u) (hc:cellsV x=some cs) :
  u.cells.size=cs.length∧∀(i:Nat) (y:V),cs[i]?=some y→∃c,u.cells[i]?=some c∧c.oneCell'=true∧RepV σ s w y c:=by
 have single:∀{y:V} {c:Value},c.oneCell'=true→RepV σ s w y c→c.cells.size=[y].length∧∀(i:Nat) (z:V),[y][i]?=some z→∃b,c.cells[i]?=some b∧b.oneCell'=true∧RepV σ s w z b:=by
  intro y c h1 h2
  have hcells:c.cells=#[c]:=by cases c <;> first | rfl | simp [Value.oneCell'] at h1
  refine⟨by simp [hcells],fun i z hz=>?_⟩
  cases i with
  | zero=>simp at hz; subst hz; exact⟨c,by simp [hcells],h1,h2⟩
  | succ n=>simp at hz
 cases hr with
 | d h=>simp only[cellsV,Option.some.injEq] at hc; subst hc; exact single h.one (.d h)
 | ag h1 h2 h3 =>
  simp only[cellsV,Option.some.injEq] at hc; subst hc
  refine⟨h1,fun i y hy=>?_⟩
  have hi:=(List.getElem?_eq_some_iff.1 hy).1
  have e:∀{arr:Array Value},i < arr.size→arr[i]?=some (arr.getD i undef):=fun h=>by simp [Array.getD,h]
  exact⟨_,e (by simp only[Value.cells]; omega),h2 i y hy,h3 i y hy⟩
 | tu h1 h2=>simp [cellsV] at hc
 | fu h=>simp only[cellsV,Option.some.injEq] at hc; subst hc; exact single rfl (.fu h)
 | so o h1 h2 h3 h4=>simp only[cellsV,Option.some.injEq] at hc; subst hc; exact single h3.one (.so o h1 h2 h3 h4)
 | rf o h1 h2 h3 h4=>simp only[cellsV,Option.some.injEq] at hc; subst hc; exact single h3 (.rf o h1 h2 h3 h4)
 | pp o h1 h2 h3=>simp only[cellsV,Option.some.injEq] at hc; subst hc; exact single rfl (.pp o h1 h2 h3)
 | mp o h1 h2 h3 h4=>simp only[cellsV,Option.some.injEq] at hc; subst hc; exact single h3 (.mp o h1 h2 h3 h4)
 | bx h1 h2 h3 hu h4=>simp only[cellsV,Option.some.injEq] at hc; subst hc; exact single rfl (.bx h1 h2 h3 hu h4)
 | cap h1 h2=>simp [cellsV] at hc
 | cl h1 h2 h3 h4=>simp only[cellsV,Option.some.injEq] at hc; subst hc; exact single rfl (.cl h1 h2 h3 h4)
 | un=>simp [cellsV] at hc
 | any=>simp [cellsV] at hc
def mkVWp (agg:Bool) (n:Nat) (cs:List V) (K:V→Prop):Prop :=
 match agg with
 | true=>n≤cs.length∧K (.ag (cs.take n))
 | false=>n=1∧match cs with | []=>False | v::_=>K v
def loadWp (P:Program) (t:TypeId) (s:List Obj) (p:V) (K:V→Prop):Prop :=
 match tyI P t with
 | none=>False
 | some i=>match p with
  | .d (.el cs)=>mkVWp i.agg i.sz (cs.map .d) K
  | .bx v=>mkVWp i.agg i.sz [v] K
  | .rf id g k off=>match s[id]? with
   | none=>False
   | some o=>o.g=g∧match o.els[k]? with
    | none=>False
    | some cs=>mkVWp i.agg i.sz (cs.drop off) K
  | .pp id g k off _ _=>match s[id]? with
   | none=>False
   | some o=>o.g=g∧match o.els[k]? with
    | none=>False
    | some cs=>mkVWp i.agg i.sz (cs.drop off) K
  | _=>False
theorem addr_add {a:Addr} (h:a.spot=none) (n:Nat):a.add n=⟨a.block,a.off + n,none⟩:=by
 obtain⟨b,o,sp⟩:=a
 simp only at h
 subst h
 unfold Addr.add
 split <;> simp_all
theorem run_loadVar {P:Program} {t:TypeId} {i:TyI} (ht:tyI P t=some i) {w:World} {a:Addr} (ha:a.spot=none) (f:Nat→Value) (n1:i.agg=false→i.sz=1)
  (hc:∀j,j < i.sz→w.cell? ⟨a.block,a.off + j,none⟩=some (f j)) :
  (loadVar t a).run P w=.ok (if i.agg then .agg ((List.range i.sz).map f).toArray else f 0) w:=by
 obtain⟨ti,d,z,h1,h2,h3,h4,h5,h6,h7,h8,h9⟩:=tyI_spec ht
 have hsz:(sizeOf t).run P w=.ok i.sz w:=by simp [sizeOf,typeInfo,h1,h4]
 cases hagg:i.agg with
 | true =>
  rw[hagg] at h9
  have hl:=run_loadCells (P:=P) w a i.sz f (fun j hj=>by rw[addr_add ha]; exact hc j hj)
  simp [loadVar,h9,hsz,hl]
 | false =>
  rw[hagg] at h9
  have hc0:=hc 0 (by rw[n1 hagg]; omega)
  have e:(⟨a.block,a.off + 0,none⟩:Addr)=a:=by obtain⟨b,o,sp⟩:=a; simp_all
  rw[e] at hc0
  simp [loadVar,h9,hc0]
theorem mkV_load {P:Program} {t:TypeId} {i:TyI} (ht:tyI P t=some i) {σ s w} {a:Addr} (ha:a.spot=none) {cs:List V} {K:V→Prop} (hk:mkVWp i.agg i.sz cs K)
  (hc:∀j x,cs[j]?=some x→∃u,w.cell? ⟨a.block,a.off + j,none⟩=some u∧u.oneCell'=true∧RepV σ s w x u) :
  ∃v c,(loadVar t a).run P w=.ok c w∧RepV σ s w v c∧K v:=by
 have hf:∃f:Nat→Value,∀j x,cs[j]?=some x→w.cell? ⟨a.block,a.off + j,none⟩=some (f j)∧(f j).oneCell'=true∧RepV σ s w x (f j):=by
  refine⟨fun j=>(w.cell? ⟨a.block,a.off + j,none⟩).getD undef,fun j x hx=>?_⟩
  obtain⟨u,h1,h2,h3⟩:=hc j x hx
  simp only[h1,Option.getD_some]
  exact⟨trivial,h2,h3⟩
 obtain⟨f,hf⟩:=hf
 unfold mkVWp at hk
 cases hagg:i.agg with
 | true =>
  rw[hagg] at hk
  obtain⟨hn,hk⟩:=hk
  have hget:∀j,j < i.sz→cs[j]?=some (cs[j]?.getD .any):=fun j hj=>by simp [show j < cs.length by omega]
  refine⟨_,_,run_loadVar ht ha f (by simp [hagg]) (fun j hj=>(hf j _ (hget j hj)).1),?_,hk⟩
  rw[hagg]
  simp only[if_true]
  have e:∀j,j < i.sz→((List.range i.sz).map f).toArray.getD j undef=f j:=fun j hj=>by simp [Array.getD,hj]
  have e2:∀j x,(cs.take i.sz)[j]?=some x→j < i.sz∧cs[j]?=some x:=by
   intro j x hx
   rw[List.getElem?_take] at hx
   split at hx
   ·exact⟨by assumption,hx⟩
   ·cases hx
  refine .ag (by simp [Nat.min_eq_left hn]) (fun j x hx=>?_) (fun j x hx=>?_)
  ·rw[e j (e2 j x hx).1]; exact(hf j x (e2 j x hx).2).2.1
  ·rw[e j (e2 j x hx).1]; exact(hf j x (e2 j x hx).2).2.2
 | false =>
  rw[hagg] at hk
  obtain⟨hn,hk⟩:=hk
  cases cs with
  | nil=>exact hk.elim
  | cons v rest =>
   refine⟨v,_,run_loadVar ht ha f (fun _=>hn) (fun j hj=>?_),?_,hk⟩
   ·have:j=0:=by omega
    subst this
    exact(hf 0 v rfl).1
   ·rw[hagg]
    exact(hf 0 v rfl).2.2
theorem load_rf {P:Program} {t:TypeId} {σ:Gh} {s:List Obj} {w:World} {p:V} {u:Value} {K:V→Prop} (hI:Inv σ s w) (hp:RepV σ s w p u) (hnp:∀id g i off b a,p≠.pp id g i off b a) (h:loadWp P t s p K) :
  ∃v c,(Instr.loadAt t u).run P w=.ok c w∧RepV σ s w v c∧K v:=by
 unfold loadWp at h
 cases ht:tyI P t with
 | none=>rw[ht] at h; exact h.elim
 | some i =>
  rw[ht] at h
  simp only at h
  have fin:∀(a:Addr) (v:V) (c:Value),u=.pointer (some a)→(loadVar t a).run P w=.ok c w→RepV σ s w v c→K v→∃v c,(Instr.loadAt t u).run P w=.ok c w∧RepV σ s w v c∧K v:=by
   rintro a v c rfl h1 h2 h3
   exact⟨v,c,by simp [Instr.loadAt,Instr.sureAddr,h1],h2,h3⟩
  cases hp with
  | pp o ho hg hk=>exact absurd rfl (hnp _ _ _ _ _ _)
  | d hx =>
   cases hx with
   | el cs a f h1 h2 h3 =>
    obtain⟨v,c,k1,k2,k3⟩:=mkV_load (σ:=σ) (s:=s) (w:=w) ht h1 h (fun j x hx=>by
     rw[List.getElem?_map] at hx
     obtain⟨y,hy,rfl⟩:=Option.map_eq_some_iff.1 hx
     exact⟨f j,(h2 j y hy).1,(h3 j y hy).one,.d (h3 j y hy)⟩)
    exact fin a v c rfl k1 k2 k3
   | _=>exact h.elim
  | bx h1 h2 h3 hu h4 =>
   obtain⟨v,c,k1,k2,k3⟩:=mkV_load (σ:=σ) (s:=s) (w:=w) ht h1 h (fun j x hx=>by
    cases j with
    | zero=>simp at hx; subst hx; exact⟨_,h2,hu,h4⟩
    | succ j=>simp at hx)
   exact fin _ v c rfl k1 k2 k3
  | rf o ho hg hu hk =>
   simp only[ho] at h
   obtain⟨hgg,h⟩:=h
   obtain⟨b,base,hs,hC,rfl⟩:=hk hgg
   split at h
   ·exact h.elim
   ·rename_i id g k off _ cs hcs
    rcases hI.content _ o ho with h1 | ⟨b',base',arr,E,h1,h2,h3,h4,h5⟩
    ·exact(h1.notC hs hC).elim
    ·rw[hs] at h1; cases h1
     obtain⟨v,c,k1,k2,k3⟩:=mkV_load (σ:=σ) (s:=s) (w:=w) (a:=⟨b,base + k * o.sz + off,none⟩) ht rfl h (fun j x hx=>by
      rw[List.getElem?_drop] at hx
      obtain⟨y,k1,k2,k3⟩:=h5 k (off + j) x (by rw[hcs]; exact hx)
      refine⟨y,?_,k2,k3⟩
      simp only[World.cell?,h2]
      simpa [Nat.add_assoc] using k1)
     exact fin _ v c rfl k1 k2 k3
  | _=>exact h.elim
theorem load_sound {P:Program} {t:TypeId} {σ:Gh} {s:List Obj} {w:World} {p:V} {u:Value} {K:V→Prop} (hI:Inv σ s w) (hp:RepV σ s w p u) (h:loadWp P t s p K) :
  ∃v c,(Instr.loadAt t u).run P w=.ok c w∧RepV σ s w v c∧K v:=by
 by_cases hpp:∃id g i off b a,p=.pp id g i off b a
 ·obtain⟨id,g,i,off,b,a,rfl⟩:=hpp
  exact load_rf hI hp.pp_rf (by intros; simp) h
 ·exact load_rf hI hp (fun id g i off b a he=>hpp ⟨id,g,i,off,b,a,he⟩) h
def putCells (cs:List V) (off:Nat) (ns:List V):List V:=cs.take off++ns++cs.drop (off + ns.length)
def storeWp (P:Program) (t:TypeId) (s:List Obj) (p x:V) (K:List Obj→Prop):Prop :=
 match tyI P t with
 | none=>False
 | some i=>match p with
  | .rf id g k off=>match s[id]? with
   | none=>False
   | some o=>o.g=g∧o.live=true∧match o.els[k]? with
    | none=>False
    | some cs=>match cellsV x with
     | none=>False
     | some ns=>ns.length=i.sz∧off + i.sz≤cs.length∧K (s.set id { o with els:=o.els.set k (putCells cs off ns) })
  | .pp id g k off _ _=>match s[id]? with
   | none=>False
   | some o=>o.g=g∧o.live=true∧match o.els[k]? with
    | none=>False
    | some cs=>match cellsV x with
     | none=>False
     | some ns=>ns.length=i.sz∧off + i.sz≤cs.length∧K (s.set id { o with els:=o.els.set k (putCells cs off ns) })
  | _=>False
theorem getElem?_putCells (cs:List V) (off:Nat) (ns:List V) (h:off + ns.length≤cs.length) (j:Nat) :
  (putCells cs off ns)[j]?=if off≤j∧j < off + ns.length then ns[j - off]? else cs[j]?:=by
 have hl:(cs.take off).length=off:=by simp; omega
 unfold putCells
 by_cases h1:j < off
 ·rw[if_neg (by omega),List.append_assoc,List.getElem?_append_left (by omega),List.getElem?_take,if_pos h1]
 ·by_cases h2:j < off + ns.length
  ·rw[if_pos (by omega),List.append_assoc,List.getElem?_append_right (by omega),hl,List.getElem?_append_left (by omega)]
  ·rw[if_neg (by omega),List.getElem?_append_right (by simp; omega),List.getElem?_drop]
   congr 1
   simp
   omega
theorem length_putCells (cs:List V) (off:Nat) (ns:List V) (h:off + ns.length≤cs.length):(putCells cs off ns).length=cs.length:=by
 simp [putCells]; omega
theorem updG_id (σ:Gh) (id:Nat):updG σ id (σ id)=σ:=by
 obtain⟨m,b⟩:=σ
 unfold updG
 congr 1
 funext k
 split
 ·rename_i h; rw[h]
 ·rfl
theorem write_obj {σ:Gh} {s:List Obj} {w:World} (hI:Inv σ s w) {id:Nat} {o:Obj} (ho:s[id]?=some o) (hl:o.live=true) {k off:Nat} {cs ns:List V} (hcs:o.els[k]?=some cs)
  (hfit:off + ns.length≤cs.length) {b base:Nat} (hs:σ id=some (b,base)) (hC:IsC w b) {us:List Value} (hus:us.length=ns.length)
  (hrep:∀(j:Nat) (x:V),ns[j]?=some x→∃u,us[j]?=some u∧u.oneCell'=true∧RepV σ s w x u) (hone:∀u∈us,u.oneCell'=true) (P:Program) :
  ∃w',(storeCells ⟨b,base + k * o.sz + off,none⟩ us).run P w=.ok () w'∧Evolve σ s w σ (s.set id { o with els:=o.els.set k (putCells cs off ns) }) w' ∧
   Inv σ (s.set id { o with els:=o.els.set k (putCells cs off ns) }) w':=by
 rcases hI.content _ o ho with h1 | ⟨b',base',arr,E,h1,h2,h3,h4,h5⟩
 ·exact(h1.notC hs hC).elim
 rw[hs] at h1; cases h1
 have hk:k < o.els.length:=(List.getElem?_eq_some_iff.1 hcs).1
 have hcl:cs.length=o.sz:=h3 cs (List.mem_of_getElem? hcs)
 have hksz:k * o.sz + o.sz≤o.els.length * o.sz:=by
  have:=Nat.mul_le_mul_right o.sz (show k + 1≤o.els.length from hk)
  rw[Nat.add_mul,Nat.one_mul] at this
  exact this
 have hrun:=run_storeCells_at P b (base + k * o.sz + off) E us 0 arr w h2 (by rw[hus]; omega) hone
 simp only[Nat.add_zero] at hrun
 generalize harr':(arr.toList.take (base + k * o.sz + off)++us++arr.toList.drop (base + k * o.sz + off + us.length)).toArray=arr' at hrun
 have hsize:arr'.size=arr.size:=by rw[← harr']; simp; omega
 have hget:∀p,arr'[p]?=if base + k * o.sz + off≤p∧p < base + k * o.sz + off + us.length then us[p - (base + k * o.sz + off)]? else arr[p]?:=by
  intro p
  have hl:(arr.toList.take (base + k * o.sz + off)).length=base + k * o.sz + off:=by simp; omega
  rw[← harr',List.getElem?_toArray]
  by_cases g1:p < base + k * o.sz + off
  ·rw[if_neg (by omega),List.append_assoc,List.getElem?_append_left (by omega),List.getElem?_take,if_pos g1,Array.getElem?_toList]
  ·by_cases g2:p < base + k * o.sz + off + us.length
   ·rw[if_pos (by omega),List.append_assoc,List.getElem?_append_right (by omega),hl,List.getElem?_append_left (by omega)]
   ·rw[if_neg (by omega),List.getElem?_append_right (by simp; omega),List.getElem?_drop,Array.getElem?_toList]
    congr 1
    simp
    omega
 refine⟨_,hrun,?_⟩
 have:=set_obj (p:=σ id) (w':=w.setRow b arr') (o':={ o with els:=o.els.set k (putCells cs off ns) }) hI ho hl rfl rfl rfl (by simp)
  (fun b1 _ hne=>setRow_other w b b1 arr' (fun e=>hne base (by rw[hs,e])))
  (fun b1 base1 arr1 E1 he hh=>by
   rw[hs] at he; cases he
   rw[h2] at hh; cases hh
   exact⟨arr',setRow_heap w b arr arr' E (0,0) h2,hsize⟩)
  (fun b1 base1 he hm=>by
   rw[hs] at he; cases he
   exact(hC.notM hm).elim)
  (Nat.le_refl _) (fun _=>⟨rfl,rfl⟩) (fun b1 base1 he=>.inl ⟨base1,he⟩)
  (fun hE=>.inr ⟨b,base,arr',E,hs,setRow_heap w b arr arr' E (0,0) h2,(by
   intro e he
   simp only at he
   rcases List.mem_or_eq_of_mem_set he with h' | h'
   ·exact h3 e h'
   ·rw[h',length_putCells _ _ _ hfit]; exact hcl),(by simp only[List.length_set]; omega),(by
   intro i j x hx
   simp only at hx ⊢
   rw[updG_id] at hE ⊢
   by_cases hik:i=k
   ·subst hik
    rw[List.getElem?_set_self hk] at hx
    simp only[Option.bind_some] at hx
    rw[getElem?_putCells _ _ _ hfit] at hx
    split at hx
    ·rename_i hin
     obtain⟨u,k1,k2,k3⟩:=hrep _ x hx
     refine⟨u,?_,k2,k3.evolve hE⟩
     rw[hget,if_pos (by omega),← k1]
     congr 1
     omega
    ·rename_i hin
     obtain⟨u,k1,k2,k3⟩:=h5 i j x (by rw[hcs]; exact hx)
     refine⟨u,?_,k2,k3.evolve hE⟩
     rw[hget,if_neg (by omega)]
     exact k1
   ·rw[List.getElem?_set_ne (Ne.symm hik)] at hx
    obtain⟨u,k1,k2,k3⟩:=h5 i j x hx
    refine⟨u,?_,k2,k3.evolve hE⟩
    rw[hget,if_neg ?_]
    ·exact k1
    ·have hjl:j < o.sz:=by
      cases he:o.els[i]? with
      | none=>rw[he] at hx; cases hx
      | some e =>
       rw[he] at hx
       have:=(List.getElem?_eq_some_iff.1 hx).1
       rw[h3 e (List.mem_of_getElem? he)] at this
       exact this
     rcases Nat.lt_or_gt_of_ne hik with hlt | hlt
     ·have:=Nat.mul_le_mul_right o.sz (show i + 1≤k from hlt)
      rw[Nat.add_mul,Nat.one_mul] at this
      omega
     ·have:=Nat.mul_le_mul_right o.sz (show k + 1≤i from hlt)
      rw[Nat.add_mul,Nat.one_mul] at this
      omega)⟩)
 rw[updG_id] at this
 exact this
theorem store_rf {P:Program} {t:TypeId} {σ:Gh} {s:List Obj} {w:World} {p x:V} {u c:Value} {K:List Obj→Prop} (hI:Inv σ s w) (hp:RepV σ s w p u) (hx:RepV σ s w x c) (hnp:∀id g i off b a,p≠.pp id g i off b a) (h:storeWp P t s p x K) :
  ∃s' w',(Instr.storeAt t u c).run P w=.ok () w'∧Evolve σ s w σ s' w'∧Inv σ s' w'∧K s':=by
 unfold storeWp at h
 cases ht:tyI P t with
 | none=>rw[ht] at h; exact h.elim
 | some i =>
  rw[ht] at h
  simp only at h
  cases hp with
  | rf o ho hg hu hk =>
   simp only[ho] at h
   obtain⟨hgg,hl,h⟩:=h
   obtain⟨b,base,hs,hC,rfl⟩:=hk hgg
   split at h
   ·exact h.elim
   ·rename_i id g k off _ cs hcs
    split at h
    ·exact h.elim
    ·rename_i ns hns
     obtain⟨h1,h2,h3⟩:=h
     obtain⟨hc1,hc2⟩:=cellsV_spec hx hns
     obtain⟨ti,d,z,k1,k2,k3,k4,k5,k6,k7,k8,k9⟩:=tyI_spec ht
     have hsz:∀w,(sizeOf t).run P w=.ok i.sz w:=fun w=>by simp [sizeOf,typeInfo,k1,k4]
     obtain⟨w',r1,r2,r3⟩:=write_obj hI ho hl hcs (ns:=ns) (off:=off) (by omega) hs hC (us:=c.cells.toList) (by simpa using hc1)
      (fun j x hx=>by
       obtain⟨u,e1,e2,e3⟩:=hc2 j x hx
       exact⟨u,by rw[Array.getElem?_toList]; exact e1,e2,e3⟩)
      (fun u hu=>by
       obtain⟨j,hj,rfl⟩:=List.mem_iff_getElem.1 hu
       have hj':j < ns.length:=by simpa [hc1] using hj
       obtain⟨u,e1,e2,e3⟩:=hc2 j ns[j] (by simp [hj'])
       have:c.cells.toList[j]=u:=by
        rw[← Array.getElem?_toList] at e1
        exact(List.getElem?_eq_some_iff.1 e1).2
       rw[this]; exact e2) P
     refine⟨_,w',?_,r2,r3,h3⟩
     simp [Instr.storeAt,Instr.sureAddr,storeVar,hsz,hc1,h1,r1]
  | pp o ho hg hk=>exact absurd rfl (hnp _ _ _ _ _ _)
  | _=>exact h.elim
theorem store_sound {P:Program} {t:TypeId} {σ:Gh} {s:List Obj} {w:World} {p x:V} {u c:Value} {K:List Obj→Prop} (hI:Inv σ s w) (hp:RepV σ s w p u) (hx:RepV σ s w x c) (h:storeWp P t s p x K) :
  ∃s' w',(Instr.storeAt t u c).run P w=.ok () w'∧Evolve σ s w σ s' w'∧Inv σ s' w'∧K s':=by
 by_cases hpp:∃id g i off b a,p=.pp id g i off b a
 ·obtain⟨id,g,i,off,b,a,rfl⟩:=hpp
  exact store_rf hI hp.pp_rf hx (by intros; simp) h
 ·exact store_rf hI hp hx (fun id g i off b a he=>hpp ⟨id,g,i,off,b,a,he⟩) h
def fOff (P:Program) (t:TypeId) (f:Nat):Option Nat :=
 match P.underlying t with
 | some (.struct fields)=>match fields[f]? with
  | some fd=>match P.info? fd.type with
   | some i=>if i.size=0 then none else some fd.offset
   | none=>none
  | none=>none
 | _=>none
theorem fOff_spec {P:Program} {t f off} (h:fOff P t f=some off):∃fields fd,P.underlying t=some (.struct fields)∧fields[f]?=some fd∧fd.offset=off ∧
  ∀(a:Addr) (w:World),(fieldPlace a fd).run P w=.ok (a.add off) w:=by
 unfold fOff at h
 split at h
 ·rename_i fields hu
  split at h
  ·rename_i fd hf
   split at h
   ·rename_i i hi
    split at h
    ·cases h
    ·rename_i hne
     simp only[Option.some.injEq] at h
     exact⟨fields,fd,hu,hf,h,fun a w=>by simp [fieldPlace,sizeOf,typeInfo,hi,hne,h]⟩
   ·cases h
  ·cases h
 ·cases h
def atG (s:List Obj) (id g:Nat) (K:Obj→Prop):Prop :=
 match s[id]? with
 | none=>False
 | some o=>o.g=g∧K o
theorem atG_spec {s:List Obj} {id g:Nat} {K:Obj→Prop} (h:atG s id g K):∃o,s[id]?=some o∧o.g=g∧K o:=by
 unfold atG at h
 split at h
 ·exact h.elim
 ·rename_i o ho; exact⟨o,ho,h.1,h.2⟩
def fieldAddrWp (P:Program) (t:TypeId) (s:List Obj) (p:V) (f:Nat) (K:V→Prop):Prop :=
 match fOff P t f with
 | none=>False
 | some d=>match p with
  | .d (.el cs)=>K (.d (.el (cs.drop d)))
  | .rf id g k off=>atG s id g fun _=>K (.rf id g k (off + d))
  | .pp id g k off b a=>atG s id g fun _=>K (.pp id g k (off + d) b (a + d))
  | .d (.sc (.pointer (some ⟨b,a,none⟩)))=>K (.d (.sc (.pointer (some ⟨b,a + d,none⟩))))
  | _=>False
theorem rf_ptr {σ:Gh} {s:List Obj} {w:World} {id g k off:Nat} {u:Value} (hp:RepV σ s w (.rf id g k off) u) {o:Obj} (ho:s[id]?=some o) (hg:o.g=g) :
  ∃b base,σ id=some (b,base)∧IsC w b∧u=.pointer (some ⟨b,base + k * o.sz + off,none⟩):=by
 cases hp with
 | rf o' ho' hg' hu hk =>
  rw[ho] at ho'; cases ho'
  exact hk hg
theorem RepD.drop {O:Nat→Prop} {w:World} {cs:List D} {a:Addr} (h:RepD O w (.el cs) (.pointer (some a))) (d:Nat):RepD O w (.el (cs.drop d)) (.pointer (some (a.add d))):=by
 cases h with
 | el _ _ f h1 h2 h3 =>
  rw[addr_add h1]
  refine .el _ _ (fun j=>f (d + j)) rfl (fun j x hx=>?_) (fun j x hx=>?_)
  ·rw[List.getElem?_drop] at hx
   have:=h2 (d + j) x hx
   simpa [Nat.add_assoc] using this
  ·rw[List.getElem?_drop] at hx
   exact h3 (d + j) x hx
theorem fieldAddr_sound {P:Program} {t:TypeId} {σ:Gh} {s:List Obj} {w:World} {p:V} {u:Value} {f:Nat} {K:V→Prop} (hp:RepV σ s w p u) (h:fieldAddrWp P t s p f K) :
  ∃v c,(Instr.fieldAt t u f).run P w=.ok c w∧RepV σ s w v c∧K v:=by
 unfold fieldAddrWp at h
 split at h
 ·exact h.elim
 ·rename_i d hd
  obtain⟨fields,fd,h1,h2,h3,h4⟩:=fOff_spec hd
  have hrun:∀a:Addr,(Instr.fieldAt t (.pointer (some a)) f).run P w=.ok (.pointer (some (a.add d))) w:=fun a=>by
   simp [Instr.fieldAt,run_underlying h1,h2,Instr.sureAddr,h4]
  cases hp with
  | d hx =>
   cases hx with
   | el cs a f' k1 k2 k3=>exact⟨_,_,hrun a,.d (RepD.drop (.el cs a f' k1 k2 k3) d),h⟩
   | sc v hv =>
    split at h
    case h_4 =>
     rename_i b a he
     simp only[V.d.injEq,D.sc.injEq] at he
     subst he
     refine⟨_,_,hrun _,?_,h⟩
     rw[addr_add rfl]
     exact .d (.sc _ rfl)
    all_goals first | exact h.elim | (rename_i he; cases he)
   | _=>exact h.elim
  | rf o ho hg hu hk =>
   obtain⟨o',e1,e2,e3⟩:=atG_spec h
   rw[ho] at e1; cases e1
   obtain⟨b,base,k1,kC,rfl⟩:=hk e2
   refine⟨_,_,hrun _,.rf o ho hg rfl (fun _=>⟨b,base,k1,kC,?_⟩),e3⟩
   rw[addr_add rfl]
   simp [Nat.add_assoc]
  | pp o ho hg hk =>
   obtain⟨o',e1,e2,e3⟩:=atG_spec h
   rw[ho] at e1; cases e1
   refine⟨_,_,hrun _,?_,e3⟩
   rw[addr_add rfl]
   exact .pp o ho hg fun he=>let ⟨base,h1,h2,h3⟩:=hk he; ⟨base,h1,h2,by rw[h3]; simp [Nat.add_assoc]⟩
  | _=>exact h.elim
def slE (P:Program) (t:TypeId):Option Nat :=
 match P.underlying t with
 | some (.slice e)=>(P.info? e).map (·.size)
 | _=>none
def arE (P:Program) (t:TypeId):Option (Nat × Nat) :=
 match P.underlying t with
 | some (.array n e)=>(P.info? e).map fun i=>(n,i.size)
 | _=>none
theorem slE_spec {P:Program} {t z} (h:slE P t=some z):∃e i,P.underlying t=some (.slice e)∧P.info? e=some i∧i.size=z:=by
 unfold slE at h
 split at h
 ·rename_i e hu
  obtain⟨i,h1,h2⟩:=Option.map_eq_some_iff.1 h
  exact⟨e,i,hu,h1,h2⟩
 ·cases h
theorem arE_spec {P:Program} {t n z} (h:arE P t=some (n,z)):∃e i,P.underlying t=some (.array n e)∧P.info? e=some i∧i.size=z:=by
 unfold arE at h
 split at h
 ·rename_i m e hu
  obtain⟨i,h1,h2⟩:=Option.map_eq_some_iff.1 h
  simp only[Prod.mk.injEq] at h2
  obtain⟨rfl,h2⟩:=h2
  exact⟨e,i,hu,h1,h2⟩
 ·cases h
def elP (els:List (List D)) (i z:Nat) (K:V→Prop):Prop :=
 match els[i]? with
 | none=>False
 | some cs=>cs.length=z∧K (.d (.el cs))
def indexAddrWp (P:Program) (t:TypeId) (s:List Obj) (x i:V) (K:V→Prop):Prop :=
 match i with
 | .d (.sc (.int _ n))=>match slE P t with
  | some z=>match x with
   | .d (.sl els)=>0≤n∧n < els.length∧elP els n.toNat z K
   | .fu els=>0≤n∧n < els.length∧elP els n.toNat z K
   | .so id g lo m=>atG s id g fun o=>0≤n∧n < m∧o.sz=z∧K (.rf id g (lo + n.toNat) 0)
   | _=>False
  | none=>match arE P t with
   | some (len,z)=>match x with
    | .d (.el cs)=>0≤n∧n < len∧K (.d (.el (cs.drop (n.toNat * z))))
    | .rf id g k off=>atG s id g fun _=>0≤n∧n < len∧K (.rf id g k (off + n.toNat * z))
    | _=>False
   | none=>False
 | _=>False
theorem RepD.elem {O:Nat→Prop} {w:World} {els:List (List D)} {a:Option Addr} {n cap:Nat} (h:RepD O w (.sl els) (.slice a n cap)) {i:Nat} {cs:List D} (hcs:els[i]?=some cs) {z:Nat} (hz:cs.length=z) :
  ∃ad,a=some ad∧n=els.length∧RepD O w (.el cs) (.pointer (some (ad.add (i * z)))):=by
 have hlt:=(List.getElem?_eq_some_iff.1 hcs).1
 cases h with
 | nil=>simp at hlt
 | sl _ ad _ sz f h1 h2 h3 h4 h5 =>
  have hne:els≠[]:=by intro e; rw[e] at hlt; simp at hlt
  have hsz:sz=z:=by rw[← hz]; exact(h3 cs (List.mem_of_getElem? hcs)).symm
  subst hsz
  refine⟨ad,rfl,rfl,?_⟩
  rw[addr_add (h2 hne)]
  exact .el _ _ (f i) rfl (fun j x hx=>h4 i j x (by rw[hcs]; exact hx)) (fun j x hx=>h5 i j x (by rw[hcs]; exact hx))
theorem indexAddr_sound {P:Program} {t:TypeId} {σ:Gh} {s:List Obj} {w:World} {x i:V} {u ui:Value} {K:V→Prop} (hx:RepV σ s w x u) (hi:RepV σ s w i ui) (h:indexAddrWp P t s x i K) :
  ∃v c,(Instr.indexAt t u ui).run P w=.ok c w∧RepV σ s w v c∧K v:=by
 unfold indexAddrWp at h
 split at h
 case h_2=>exact h.elim
 rename_i k n
 cases hi with | d hi=>?_
 cases hi with | sc _ _=>?_
 split at h
 ·rename_i z hz
  obtain⟨e,ti,h1,h2,h3⟩:=slE_spec hz
  have hrun:∀(ad:Addr) (len cap:Nat),0≤n→n < len→(Instr.indexAt t (.slice (some ad) len cap) (.int k n)).run P w=.ok (.pointer (some (ad.add (n.toNat * z)))) w:=by
   intro ad len cap g1 g2
   simp [Instr.indexAt,asIntOf,run_underlying h1,g1,g2,sizeOf,typeInfo,h2,h3]
  have byval:∀(els:List (List D)) (a:Option Addr) (m cap:Nat),RepD (Own σ s) w (.sl els) (.slice a m cap)→0≤n∧n < els.length∧elP els n.toNat z K →
    ∃v c,(Instr.indexAt t (.slice a m cap) (.int k n)).run P w=.ok c w∧RepV σ s w v c∧K v:=by
   intro els a m cap hr ⟨g1,g2,g3⟩
   unfold elP at g3
   split at g3
   ·exact g3.elim
   ·rename_i cs hcs
    obtain⟨ad,rfl,rfl,hel⟩:=hr.elem hcs g3.1
    exact⟨_,_,hrun ad _ cap g1 g2,.d hel,g3.2⟩
  cases hx with
  | d hx =>
   cases hx with
   | nil=>exact byval _ _ _ _ .nil h
   | sl els a cap sz f k1 k2 k3 k4 k5=>exact byval _ _ _ _ (.sl els a cap sz f k1 k2 k3 k4 k5) h
   | _=>exact h.elim
  | fu hx=>exact byval _ _ _ _ hx h
  | so o ho hg hu hk =>
   obtain⟨o',e1,e2,e3,e4,e5,e6⟩:=atG_spec h
   rw[ho] at e1; cases e1
   rcases hk e2 with ⟨_,⟨a,rfl⟩,_,rfl⟩ | ⟨b,base,cap,E,arr,g1,g2,rfl,g4,g5⟩
   ·omega
   ·refine⟨_,_,hrun _ _ _ e3 e4,.rf o ho hg rfl (fun _=>⟨b,base,g1,⟨arr,E,g2⟩,?_⟩),e6⟩
    rw[addr_add rfl,e5,Nat.add_mul]
    simp [Nat.add_assoc]
  | _=>exact h.elim
 ·split at h
  ·rename_i hsl len z hz
   obtain⟨e,ti,h1,h2,h3⟩:=arE_spec hz
   have hrun:∀(ad:Addr),0≤n→n < len→(Instr.indexAt t (.pointer (some ad)) (.int k n)).run P w=.ok (.pointer (some (ad.add (n.toNat * z)))) w:=by
    intro ad g1 g2
    simp [Instr.indexAt,asIntOf,run_underlying h1,Instr.sureAddr,g1,g2,sizeOf,typeInfo,h2,h3]
   cases hx with
   | d hx =>
    cases hx with
    | el cs a f k1 k2 k3=>exact⟨_,_,hrun a h.1 h.2.1,.d (RepD.drop (.el cs a f k1 k2 k3) _),h.2.2⟩
    | _=>exact h.elim
   | rf o ho hg hu hk =>
    obtain⟨o',e1,e2,e3,e4,e5⟩:=atG_spec h
    rw[ho] at e1; cases e1
    obtain⟨b,base,k1,kC,rfl⟩:=hk e2
    refine⟨_,_,hrun _ e3 e4,.rf o ho hg rfl (fun _=>⟨b,base,k1,kC,?_⟩),e5⟩
    rw[addr_add rfl]
    simp [Nat.add_assoc]
   | _=>exact h.elim
  ·exact h.elim
def partWp (P:Program) (t:TypeId) (cs:List V) (off:Nat) (K:V→Prop):Prop :=
 match tyI P t with
 | none=>False
 | some i=>match i.agg with
  | true=>off + i.sz≤cs.length∧K (.ag ((cs.drop off).take i.sz))
  | false=>match cs[off]? with
   | none=>False
   | some v=>K v
theorem part_sound {P:Program} {t:TypeId} {σ:Gh} {s:List Obj} {w:World} {cs:List V} {arr:Array Value} {off:Nat} {K:V→Prop} (hx:RepV σ s w (.ag cs) (.agg arr)) (h:partWp P t cs off K) :
  ∃v c,(part t arr off).run P w=.ok c w∧RepV σ s w v c∧K v:=by
 unfold partWp at h
 cases hx with | ag h1 h2 h3=>?_
 split at h
 ·exact h.elim
 ·rename_i i hi
  obtain⟨ti,d,z,k1,k2,k3,k4,k5,k6,k7,k8,k9⟩:=tyI_spec hi
  have hsz:∀w,(sizeOf t).run P w=.ok i.sz w:=fun w=>by simp [sizeOf,typeInfo,k1,k4]
  split at h
  ·rename_i hagg
   rw[hagg] at k9
   refine⟨_,.agg (arr.extract off (off + i.sz)),by simp [part,k9,hsz],?_,h.2⟩
   have e:∀(j:Nat) (x:V),((cs.drop off).take i.sz)[j]?=some x→cs[off + j]?=some x∧(arr.extract off (off + i.sz)).getD j undef=arr.getD (off + j) undef:=by
    intro j x hx
    rw[List.getElem?_take] at hx
    split at hx
    ·rename_i hj
     rw[List.getElem?_drop] at hx
     refine⟨hx,?_⟩
     have e2:(arr.extract off (off + i.sz))[j]?=arr[off + j]?:=by
      rw[Array.getElem?_extract,if_pos (by rw[h1]; omega)]
     rw[Array.getD_eq_getD_getElem?,Array.getD_eq_getD_getElem?,e2]
    ·cases hx
   refine .ag (by simp [h1]; omega) (fun j x hx=>?_) (fun j x hx=>?_)
   ·rw[(e j x hx).2]; exact h2 _ _ (e j x hx).1
   ·rw[(e j x hx).2]; exact h3 _ _ (e j x hx).1
  ·rename_i hagg
   rw[hagg] at k9
   split at h
   ·exact h.elim
   ·rename_i v hv
    have hlt:=(List.getElem?_eq_some_iff.1 hv).1
    obtain⟨c,hc⟩:∃c,arr[off]?=some c:=⟨arr[off]'(by omega),by rw[Array.getElem?_eq_getElem]⟩
    have hd:arr.getD off undef=c:=by rw[Array.getD_eq_getD_getElem?,hc]; rfl
    exact⟨v,c,by simp [part,k9,hc],by rw[← hd]; exact h3 _ _ hv,h⟩
def fieldWp (P:Program) (t:TypeId) (x:V) (f:Nat) (K:V→Prop):Prop :=
 match x with
 | .ag cs=>match P.underlying t with
  | some (.struct fields)=>match fields[f]? with
   | some fd=>partWp P fd.type cs fd.offset K
   | none=>False
  | _=>False
 | _=>False
theorem field_sound {P:Program} {t:TypeId} {σ:Gh} {s:List Obj} {w:World} {x:V} {u:Value} {f:Nat} {K:V→Prop} (hx:RepV σ s w x u) (h:fieldWp P t x f K) :
  ∃v c,(Instr.field t u f).run P w=.ok c w∧RepV σ s w v c∧K v:=by
 unfold fieldWp at h
 split at h
 case h_2=>exact h.elim
 split at h
 case h_2=>exact h.elim
 split at h
 case h_2=>exact h.elim
 rename_i hu _ fd hfd
 cases hx with | ag h1 h2 h3=>?_
 obtain⟨v,c,r1,r2,r3⟩:=part_sound (.ag h1 h2 h3) h
 exact⟨v,c,by simp [Instr.field,run_underlying hu,hfd,asAgg,r1],r2,r3⟩
def indexWp (P:Program) (t:TypeId) (x i:V) (K:V→Prop):Prop :=
 match i with
 | .d (.sc (.int _ n))=>match x with
  | .ag cs=>match P.underlying t with
   | some (.array len e)=>match (P.info? e).map (·.size) with
    | some z=>0≤n∧n < len∧partWp P e cs (n.toNat * z) K
    | none=>False
   | _=>False
  | _=>False
 | _=>False
theorem index_sound {P:Program} {t:TypeId} {σ:Gh} {s:List Obj} {w:World} {x i:V} {u ui:Value} {K:V→Prop} (hx:RepV σ s w x u) (hi:RepV σ s w i ui) (h:indexWp P t x i K) :
  ∃v c,(Instr.index t u ui).run P w=.ok c w∧RepV σ s w v c∧K v:=by
 unfold indexWp at h
 split at h
 case h_2=>exact h.elim
 rename_i k n
 cases hi with | d hi=>?_
 cases hi with | sc _ _=>?_
 split at h
 case h_2=>exact h.elim
 split at h
 case h_2=>exact h.elim
 rename_i hu
 split at h
 case h_2=>exact h.elim
 rename_i z hz
 obtain⟨ti,h1,h2⟩:=Option.map_eq_some_iff.1 hz
 cases hx with | ag k1 k2 k3=>?_
 obtain⟨v,c,r1,r2,r3⟩:=part_sound (.ag k1 k2 k3) h.2.2
 refine⟨v,c,?_,r2,r3⟩
 simp [Instr.index,asIntOf,run_underlying hu,h.1,h.2.1,sizeOf,typeInfo,h1,h2,r1]
def RepsL (σ:Gh) (s:List Obj) (w:World) (cs:List V) (arr:Array Value):Prop :=
 arr.size=cs.length∧∀(i:Nat) (x:V),cs[i]?=some x→∃c,arr[i]?=some c∧c.oneCell'=true∧RepV σ s w x c
theorem RepsL.ag {σ s w cs arr} (h:RepsL σ s w cs arr):RepV σ s w (.ag cs) (.agg arr):=by
 have e:∀(i:Nat) (x:V),cs[i]?=some x→(arr.getD i undef).oneCell'=true∧RepV σ s w x (arr.getD i undef):=by
  intro i x hx
  obtain⟨c,h1,h2,h3⟩:=h.2 i x hx
  rw[Array.getD_eq_getD_getElem?,h1]
  exact⟨h2,h3⟩
 exact .ag h.1 (fun i x hx=>(e i x hx).1) (fun i x hx=>(e i x hx).2)
theorem zero_reps {P:Program} {t:TypeId} {i:TyI} (ht:tyI P t=some i) (σ:Gh) (s:List Obj) (w:World):∃z,(∀w,(zeroValue t).run P w=.ok z w)∧RepsL σ s w (i.zero.map cv) z.cells∧z.cells.size=i.sz∧z.cells.toList=i.zero:=by
 obtain⟨ti,d,z,k1,k2,k3,k4,k5,k6,k7,k8,k9⟩:=tyI_spec ht
 refine⟨z,fun w=>by simp [zeroValue,typeInfo,k1,k3],⟨by rw[← Array.length_toList,k6]; simp,fun j x hx=>?_⟩,by rw[← Array.length_toList,k6,k7],k6⟩
 rw[List.getElem?_map] at hx
 obtain⟨v,hv,rfl⟩:=Option.map_eq_some_iff.1 hx
 exact⟨v,by rw[← Array.getElem?_toList,k6]; exact hv,k8 v (List.mem_of_getElem? hv),cv_rep v⟩
theorem foldl_put (off:Nat):∀(l:List Value) (k:Nat) (cells:Array Value),off + k + l.length≤cells.size →
  ((l.zipIdx k).foldl (fun cs (x:Value × Nat)=>cs.setIfInBounds (off + x.2) x.1) cells).size=cells.size ∧
  ∀p,((l.zipIdx k).foldl (fun cs (x:Value × Nat)=>cs.setIfInBounds (off + x.2) x.1) cells)[p]?=if off + k≤p∧p < off + k + l.length then l[p - (off + k)]? else cells[p]?
 | [],k,cells,_=>by simp; intro p h1 h2; omega
 | v::l,k,cells,h=>by
  simp only[List.length_cons] at h
  simp only[List.zipIdx_cons,List.foldl_cons]
  obtain⟨h1,h2⟩:=foldl_put off l (k + 1) (cells.setIfInBounds (off + k) v) (by simp; omega)
  refine⟨by rw[h1]; simp,fun p=>?_⟩
  rw[h2 p]
  by_cases hp:p=off + k
  ·subst hp
   rw[if_neg (by omega),if_pos (by simp),Array.getElem?_setIfInBounds_self_of_lt (by omega)]
   simp
  ·rw[Array.getElem?_setIfInBounds_ne (by omega)]
   by_cases hq:off + (k + 1)≤p∧p < off + (k + 1) + l.length
   ·rw[if_pos hq,if_pos (by simp only[List.length_cons]; omega)]
    rw[show p - (off + k)=(p - (off + (k + 1))) + 1 by omega]
    simp
   ·rw[if_neg hq,if_neg (by simp only[List.length_cons]; omega)]
def fillV (place:Nat→Option (Nat × Nat)) (cs:List V):List (Nat × V)→Option (List V)
 | []=>some cs
 |(i,v)::rest=>match place i with
  | none=>none
  | some (off,size)=>match cellsV v with
   | none=>none
   | some ns=>if ns.length=size∧off + ns.length≤cs.length then fillV place (putCells cs off ns) rest else none
theorem fill_sound {σ:Gh} {s:List Obj} {w:World} {place:Nat→Option (Nat × Nat)}:∀(parts:List (Nat × V)) (ps:List (Nat × Value)) (cs:List V) (arr:Array Value) (cs':List V),RepsL σ s w cs arr →
  ps.length=parts.length→(∀(j:Nat) i x,parts[j]?=some (i,x)→∃u,ps[j]?=some (i,u)∧RepV σ s w x u)→fillV place cs parts=some cs' →
  ∃arr',Instr.fill place arr ps=some arr'∧RepsL σ s w cs' arr'
 | [],[],cs,arr,cs',hr,_,_,h=>by
  simp only[fillV,Option.some.injEq] at h
  subst h
  exact⟨arr,rfl,hr⟩
 | [],p::ps,_,_,_,_,hl,_,_=>by simp at hl
 | _::_,[],_,_,_,_,hl,_,_=>by simp at hl
 |(i,v)::parts,(i',u)::ps,cs,arr,cs',hr,hl,hp,h=>by
  obtain⟨u',hu,hru⟩:=hp 0 i v rfl
  simp only[List.getElem?_cons_zero,Option.some.injEq,Prod.mk.injEq] at hu
  obtain⟨rfl,rfl⟩:=hu
  simp only[fillV] at h
  split at h
  ·cases h
  ·rename_i off size hpl
   split at h
   ·cases h
   ·rename_i ns hns
    split at h
    ·rename_i hc
     obtain⟨h1,h2⟩:=cellsV_spec hru hns
     have hrep:=foldl_put off u.cells.toList 0 arr (by simp; rw[hr.1,h1]; exact hc.2)
     have e:u.cells.zipIdx.foldl (fun cs (x:Value × Nat)=>cs.setIfInBounds (off + x.2) x.1) arr=(u.cells.toList.zipIdx 0).foldl (fun cs (x:Value × Nat)=>cs.setIfInBounds (off + x.2) x.1) arr:=by
      rw[← Array.foldl_toList]; simp
     have hr':RepsL σ s w (putCells cs off ns) ((u.cells.toList.zipIdx 0).foldl (fun cs (x:Value × Nat)=>cs.setIfInBounds (off + x.2) x.1) arr):=by
      refine⟨by rw[hrep.1,hr.1,length_putCells _ _ _ hc.2],fun j x hx=>?_⟩
      rw[getElem?_putCells _ _ _ hc.2] at hx
      rw[hrep.2]
      split at hx
      ·rename_i hj
       rw[if_pos (by simp; omega)]
       obtain⟨c,k1,k2,k3⟩:=h2 _ x hx
       exact⟨c,by rw[Array.getElem?_toList]; simpa using k1,k2,k3⟩
      ·rename_i hj
       rw[if_neg (by simp; omega)]
       exact hr.2 j x hx
     obtain⟨arr',k1,k2⟩:=fill_sound parts ps _ _ cs' hr' (by simpa using hl) (fun j i x hx=>hp (j + 1) i x (by simpa using hx)) h
     refine⟨arr',?_,k2⟩
     simp only[Instr.fill,hpl]
     rw[if_neg (by simp [h1,hc.1,hr.1]; omega)]
     rw[← e] at k1
     exact k1
    ·cases h
def structPl (P:Program) (t:TypeId):Option (List (Nat × Nat)) :=
 match P.underlying t with
 | some (.struct fields)=>fields.toList.mapM fun f=>(P.info? f.type).map fun i=>(f.offset,i.size)
 | _=>none
def buildWp (P:Program) (t:TypeId) (parts:List (Nat × V)) (K:V→Prop):Prop :=
 match tyI P t with
 | none=>False
 | some i=>match structPl P t with
  | some pl=>match fillV (pl[·]?) (i.zero.map cv) parts with
   | some cs=>K (.ag cs)
   | none=>False
  | none=>match arE P t with
   | some (_,z)=>match fillV (fun j=>some (j * z,z)) (i.zero.map cv) parts with
    | some cs=>K (.ag cs)
    | none=>False
   | none=>False
theorem run_mapM_list {P:Program} {α β:Type} (f:α→Sem β) (g:α→Option β) (hfg:∀a b,g a=some b→∀w,(f a).run P w=.ok b w) (w:World):∀(l:List α) (r:List β),l.mapM g=some r→(l.mapM f).run P w=.ok r w
 | [],r,h=>by
  simp at h; subst h
  simp [List.mapM_nil]
 | a::l,r,h=>by
  rw[List.mapM_cons] at h
  cases ha:g a with
  | none=>simp [ha] at h
  | some b =>
   cases hl:l.mapM g with
   | none=>simp [ha,hl] at h
   | some r' =>
    simp [ha,hl] at h
    subst h
    rw[List.mapM_cons]
    simp [hfg a b ha w,run_mapM_list f g hfg w l r' hl]
theorem build_sound {P:Program} {t:TypeId} {σ:Gh} {s:List Obj} {w:World} {parts:List (Nat × V)} {ps:List (Nat × Value)} {K:V→Prop}
  (hl:ps.length=parts.length) (hp:∀(j:Nat) i x,parts[j]?=some (i,x)→∃u,ps[j]?=some (i,u)∧RepV σ s w x u) (h:buildWp P t parts K) :
  ∃v c,(Instr.build t ps.toArray).run P w=.ok c w∧RepV σ s w v c∧K v:=by
 unfold buildWp at h
 split at h
 ·exact h.elim
 ·rename_i i hi
  obtain⟨z,hz,hzr,_,_⟩:=zero_reps hi σ s w
  split at h
  ·rename_i pl hpl
   unfold structPl at hpl
   split at hpl
   ·rename_i fields hu
    split at h
    ·rename_i cs hcs
     obtain⟨arr',k1,k2⟩:=fill_sound parts ps _ _ cs hzr hl hp hcs
     refine⟨_,_,?_,k2.ag,h⟩
     have hm:(fields.mapM (fun f=>do pure (f.offset,← sizeOf f.type):Field→Sem (Nat × Nat))).run P w=.ok pl.toArray w:=by
      have:=run_mapM_list (P:=P) (fun f=>do pure (f.offset,← sizeOf f.type):Field→Sem (Nat × Nat)) (fun f=>(P.info? f.type).map fun i=>(f.offset,i.size))
       (fun f b hb w=>by
        obtain⟨ti,e1,rfl⟩:=Option.map_eq_some_iff.1 hb
        simp [sizeOf,typeInfo,e1]) w fields.toList pl hpl
      rw[← Array.toArray_toList (xs:=fields)]
      rw[List.mapM_toArray,Sem.run_map,this]
      rfl
     have hpl':(fun x:Nat=>pl.toArray[x]?)=(fun x:Nat=>pl[x]?):=by funext x; simp
     simp only[Instr.build,Sem.run_bind,hz,Result.andThen_ok,run_underlying hu,hm,hpl',k1,Sem.run_pure]
    ·exact h.elim
   ·cases hpl
  ·split at h
   ·rename_i len zz hzz
    obtain⟨e,ti,h1,h2,h3⟩:=arE_spec hzz
    split at h
    ·rename_i cs hcs
     obtain⟨arr',k1,k2⟩:=fill_sound parts ps _ _ cs hzr hl hp hcs
     refine⟨_,_,?_,k2.ag,h⟩
     have hsz:(sizeOf e).run P w=.ok zz w:=by simp [sizeOf,typeInfo,h2,h3]
     simp only[Instr.build,Sem.run_bind,hz,Result.andThen_ok,run_underlying h1,hsz,k1,Sem.run_pure]
    ·exact h.elim
   ·exact h.elim
theorem new_obj {σ:Gh} {s:List Obj} {w:World} (hI:Inv σ s w) {sz:Nat} {els:List (List V)} {arr:Array Value} (E:TypeId) (hl:∀e∈els,e.length=sz) (hs:els.length * sz≤arr.size)
  (hc:∀(i j:Nat) (x:V),(els[i]?.bind (·[j]?))=some x→∃u,arr[i * sz + j]?=some u∧u.oneCell'=true∧RepV σ s w x u) :
  Evolve σ s w (updG σ s.length (some (w.heap.size,0))) (s++[⟨0,true,sz,els⟩]) (w.alloc (.cells arr E)) ∧
  Inv (updG σ s.length (some (w.heap.size,0))) (s++[⟨0,true,sz,els⟩]) (w.alloc (.cells arr E)):=by
 refine push_obj (p:=some (w.heap.size,0)) hI rfl rfl rfl (by simp) (fun b hb=>Go.RowKit.Below.heap_alloc w _ b hb) (fun b base h=>by cases h; exact Nat.le_refl _)
  (fun hE=>.inr ⟨w.heap.size,0,arr,E,rfl,heap_alloc_new w _,hl,by simpa using hs,fun i j x hx=>?_⟩)
 obtain⟨u,h1,h2,h3⟩:=hc i j x hx
 exact⟨u,by simpa using h1,h2,h3.evolve hE⟩
theorem new_rf {σ:Gh} {s:List Obj} {w:World} {o:Obj} {b base:Nat} (hC:IsC w b):RepV (updG σ s.length (some (b,base))) (s++[o]) w (.rf s.length o.g 0 0) (.pointer (some ⟨b,base,none⟩)) :=
 .rf o (by simp) (Nat.le_refl _) rfl (fun _=>⟨b,base,updG_same _ _ _,hC,by simp⟩)
def allocWp (P:Program) (t:TypeId) (s:List Obj) (K:V→List Obj→Prop):Prop :=
 match tyI P t with
 | none=>False
 | some i=>K (.rf s.length 0 0 0) (s++[⟨0,true,i.sz,[i.zero.map cv]⟩])
theorem one_cells {cs:List V} {arr:Array Value} {σ:Gh} {s:List Obj} {w:World} (h:RepsL σ s w cs arr) (sz:Nat) :
  ∀(i j:Nat) (x:V),(([cs]:List (List V))[i]?.bind (·[j]?))=some x→∃u,arr[i * sz + j]?=some u∧u.oneCell'=true∧RepV σ s w x u:=by
 intro i j x hx
 cases i with
 | zero=>simp at hx; simpa using h.2 j x hx
 | succ n=>simp at hx
theorem alloc_sound {P:Program} {t:TypeId} {σ:Gh} {s:List Obj} {w:World} {K:V→List Obj→Prop} (hI:Inv σ s w) (h:allocWp P t s K) :
  ∃v c σ' s' w',(Instr.alloc t true (.tuple #[])).run P w=.ok c w'∧Evolve σ s w σ' s' w'∧Inv σ' s' w'∧RepV σ' s' w' v c∧K v s':=by
 unfold allocWp at h
 split at h
 ·exact h.elim
 ·rename_i i hi
  obtain⟨z,hz,hr,hs,hl⟩:=zero_reps hi σ s w
  have:=new_obj (els:=[i.zero.map cv]) (sz:=i.sz) (arr:=z.cells) hI t (by simp; rw[← hl]; simpa using hs) (by simp [hs]) (one_cells hr i.sz)
  refine⟨_,.pointer (some ⟨w.heap.size,0,none⟩),_,_,w.alloc (.cells z.cells t),?_,this.1,this.2,new_rf (o:=⟨0,true,i.sz,[i.zero.map cv]⟩) ⟨_,_,heap_alloc_new w _⟩,h⟩
  simp [Instr.alloc,hz,newVar,newRow]
def boxWp (s:List Obj) (x:V) (K:V→List Obj→Prop):Prop :=
 match cellsV x with
 | none=>False
 | some cs=>K (.rf s.length 0 0 0) (s++[⟨0,true,cs.length,[cs]⟩])
theorem box_sound {P:Program} {t:TypeId} {σ:Gh} {s:List Obj} {w:World} {x:V} {u:Value} {K:V→List Obj→Prop} (hI:Inv σ s w) (hx:RepV σ s w x u) (h:boxWp s x K) :
  ∃v c σ' s' w',(Instr.box t u).run P w=.ok c w'∧Evolve σ s w σ' s' w'∧Inv σ' s' w'∧RepV σ' s' w' v c∧K v s':=by
 unfold boxWp at h
 split at h
 ·exact h.elim
 ·rename_i cs hcs
  have hr:RepsL σ s w cs u.cells:=cellsV_spec hx hcs
  have:=new_obj (els:=[cs]) (sz:=cs.length) (arr:=u.cells) hI t (by simp) (by simp [hr.1]) (one_cells hr _)
  refine⟨_,.pointer (some ⟨w.heap.size,0,none⟩),_,_,w.alloc (.cells u.cells t),?_,this.1,this.2,new_rf (o:=⟨0,true,cs.length,[cs]⟩) ⟨_,_,heap_alloc_new w _⟩,h⟩
  simp [Instr.box,newVar,newRow]
def RepsE (σ:Gh) (s:List Obj) (w:World) (sz:Nat) (els:List (List V)) (arr:Array Value):Prop :=
 (∀e∈els,e.length=sz)∧arr.size=els.length * sz ∧
 ∀(i j:Nat) (x:V),(els[i]?.bind (·[j]?))=some x→∃c,arr[i * sz + j]?=some c∧c.oneCell'=true∧RepV σ s w x c
def fillE (sz:Nat) (els:List (List V)):List (Nat × V)→Option (List (List V))
 | []=>some els
 |(i,v)::rest=>match cellsV v with
  | none=>none
  | some ns=>if i < els.length∧ns.length=sz then fillE sz (els.set i ns) rest else none
theorem fillE_sound {σ:Gh} {s:List Obj} {w:World} {sz:Nat}:∀(parts:List (Nat × V)) (ps:List (Nat × Value)) (els:List (List V)) (arr:Array Value) (els':List (List V)),RepsE σ s w sz els arr →
  ps.length=parts.length→(∀(j:Nat) i x,parts[j]?=some (i,x)→∃u,ps[j]?=some (i,u)∧RepV σ s w x u)→fillE sz els parts=some els' →
  ∃arr',Instr.fill (fun i=>some (i * sz,sz)) arr ps=some arr'∧RepsE σ s w sz els' arr'∧els'.length=els.length
 | [],[],els,arr,els',hr,_,_,h=>by
  simp only[fillE,Option.some.injEq] at h
  subst h
  exact⟨arr,rfl,hr,rfl⟩
 | [],p::ps,_,_,_,_,hl,_,_=>by simp at hl
 | _::_,[],_,_,_,_,hl,_,_=>by simp at hl
 |(i,v)::parts,(i',u)::ps,els,arr,els',hr,hl,hp,h=>by
  obtain⟨u',hu,hru⟩:=hp 0 i v rfl
  simp only[List.getElem?_cons_zero,Option.some.injEq,Prod.mk.injEq] at hu
  obtain⟨rfl,rfl⟩:=hu
  simp only[fillE] at h
  split at h
  ·cases h
  ·rename_i ns hns
   split at h
   ·rename_i hc
    obtain⟨hc1,hc2⟩:=hc
    obtain⟨h1,h2⟩:=cellsV_spec hru hns
    obtain⟨r1,r2,r3⟩:=hr
    have hb:=Nat.mul_le_mul_right sz (show i' + 1≤els.length from hc1)
    rw[Nat.add_mul,Nat.one_mul] at hb
    have hrep:=foldl_put (i' * sz) u.cells.toList 0 arr (by simp; rw[h1]; omega)
    have e:u.cells.zipIdx.foldl (fun cs (x:Value × Nat)=>cs.setIfInBounds (i' * sz + x.2) x.1) arr=(u.cells.toList.zipIdx 0).foldl (fun cs (x:Value × Nat)=>cs.setIfInBounds (i' * sz + x.2) x.1) arr:=by
     rw[← Array.foldl_toList]; simp
    have hr':RepsE σ s w sz (els.set i' ns) ((u.cells.toList.zipIdx 0).foldl (fun cs (x:Value × Nat)=>cs.setIfInBounds (i' * sz + x.2) x.1) arr):=by
     refine⟨fun e he=>?_,by rw[hrep.1,r2,List.length_set],fun k j x hx=>?_⟩
     ·rcases List.mem_or_eq_of_mem_set he with h' | h'
      ·exact r1 e h'
      ·rw[h']; exact hc2
     ·rw[hrep.2]
      have hsize:u.cells.toList.length=sz:=by simp [h1,hc2]
      by_cases hk:k=i'
      ·subst hk
       rw[List.getElem?_set_self hc1] at hx
       simp only[Option.bind_some] at hx
       have hj:=(List.getElem?_eq_some_iff.1 hx).1
       rw[if_pos (by rw[hsize]; omega)]
       obtain⟨c,k1,k2,k3⟩:=h2 _ x hx
       refine⟨c,?_,k2,k3⟩
       rw[Array.getElem?_toList,← k1]
       congr 1
       omega
      ·rw[List.getElem?_set_ne (Ne.symm hk)] at hx
       have hj:j < sz:=by
        cases he:els[k]? with
        | none=>rw[he] at hx; cases hx
        | some e =>
         rw[he] at hx
         have:=(List.getElem?_eq_some_iff.1 hx).1
         rw[r1 e (List.mem_of_getElem? he)] at this
         exact this
       rw[if_neg ?_]
       ·exact r3 k j x hx
       ·rw[hsize]
        rcases Nat.lt_or_gt_of_ne hk with hlt | hlt
        ·have:=Nat.mul_le_mul_right sz (show k + 1≤i' from hlt)
         rw[Nat.add_mul,Nat.one_mul] at this
         omega
        ·have:=Nat.mul_le_mul_right sz (show i' + 1≤k from hlt)
         rw[Nat.add_mul,Nat.one_mul] at this
         omega
    obtain⟨arr',k1,k2,k3⟩:=fillE_sound parts ps _ _ els' hr' (by simpa using hl) (fun j i x hx=>hp (j + 1) i x (by simpa using hx)) h
    refine⟨arr',?_,k2,by simpa using k3⟩
    simp only[Instr.fill]
    rw[if_neg (by simp [h1,hc2,r2]; omega)]
    rw[← e] at k1
    exact k1
   ·cases h
def toD:V→Option D
 | .d x=>some x
 | .fu els=>some (.sl els)
 | _=>none
theorem toD_spec {σ:Gh} {s:List Obj} {w:World} {x:V} {u:Value} {y:D} (hr:RepV σ s w x u) (h:toD x=some y):RepD (Own σ s) w y u:=by
 cases hr <;> simp only[toD,Option.some.injEq] at h <;> first | (cases h; done) | (subst h; assumption)
def allD (els:List (List V)):Option (List (List D)):=els.mapM fun e=>e.mapM toD
theorem mapM_get {α β:Type} {f:α→Option β}:∀{l:List α} {r:List β},l.mapM f=some r→r.length=l.length∧∀(i:Nat) (y:β),r[i]?=some y→∃x,l[i]?=some x∧f x=some y
 | [],r,h=>by simp at h; subst h; simp
 | a::l,r,h=>by
  rw[List.mapM_cons] at h
  cases ha:f a with
  | none=>simp [ha] at h
  | some b =>
   cases hl:l.mapM f with
   | none=>simp [ha,hl] at h
   | some r' =>
    simp [ha,hl] at h
    subst h
    obtain⟨h1,h2⟩:=mapM_get hl
    refine⟨by simp [h1],fun i y hy=>?_⟩
    cases i with
    | zero=>simp at hy; subst hy; exact⟨a,rfl,ha⟩
    | succ i=>simpa using h2 i y (by simpa using hy)
theorem allD_spec {els:List (List V)} {ds:List (List D)} (h:allD els=some ds):ds.length=els.length ∧
  (∀(i:Nat) (e:List D),ds[i]?=some e→∃e',els[i]?=some e'∧e.length=e'.length) ∧
  ∀(i j:Nat) (y:D),(ds[i]?.bind (·[j]?))=some y→∃x,(els[i]?.bind (·[j]?))=some x∧toD x=some y:=by
 obtain⟨h1,h2⟩:=mapM_get h
 refine⟨h1,fun i e he=>?_,fun i j y hy=>?_⟩
 ·obtain⟨e',k1,k2⟩:=h2 i e he
  exact⟨e',k1,(mapM_get k2).1⟩
 ·cases he:ds[i]? with
  | none=>rw[he] at hy; cases hy
  | some e =>
   rw[he] at hy
   obtain⟨e',k1,k2⟩:=h2 i e he
   obtain⟨x,k3,k4⟩:=(mapM_get k2).2 j y hy
   exact⟨x,by rw[k1]; exact k3,k4⟩
theorem RepD.of_row {O:Nat→Prop} {w:World} {els:List (List D)} {b base cap sz:Nat} (hcap:els.length≤cap) (hsz:∀e∈els,e.length=sz) (hO:¬O b)
  (h:∀(i j:Nat) (x:D),(els[i]?.bind (·[j]?))=some x→∃u,w.cell? ⟨b,base + i * sz + j,none⟩=some u∧RepD O w x u):RepD O w (.sl els) (.slice (some ⟨b,base,none⟩) els.length cap):=by
 refine .sl els ⟨b,base,none⟩ cap sz (fun i j=>(w.cell? ⟨b,base + i * sz + j,none⟩).getD undef) hcap (fun _=>rfl) hsz (fun i j x hx=>?_) (fun i j x hx=>?_)
 ·obtain⟨u,h1,h2⟩:=h i j x hx
  simp only[h1,Option.getD_some]
  exact⟨trivial,hO⟩
 ·obtain⟨u,h1,h2⟩:=h i j x hx
  simpa only[h1,Option.getD_some] using h2
theorem own_lt {σ:Gh} {s:List Obj} {w:World} (hI:Inv σ s w) {b:Nat} (h:Own σ s b):b < w.heap.size:=by
 rcases h with h | ⟨id,o,base,h1,_,h3⟩
 ·exact hI.low b h
 ·exact hI.lt h1 h3
def slTy (P:Program) (t:TypeId):Option (TypeId × TyI) :=
 match P.underlying t with
 | some (.slice e)=>(tyI P e).map fun i=>(e,i)
 | _=>none
theorem slTy_spec {P:Program} {t e:TypeId} {i:TyI} (h:slTy P t=some (e,i)):P.underlying t=some (.slice e)∧tyI P e=some i:=by
 unfold slTy at h
 split at h
 ·rename_i e' hu
  obtain⟨i',h1,h2⟩:=Option.map_eq_some_iff.1 h
  simp only[Prod.mk.injEq] at h2
  obtain⟨rfl,rfl⟩:=h2
  exact⟨hu,h1⟩
 ·cases h
def buildSliceWp (P:Program) (t:TypeId) (len:Nat) (parts:List (Nat × V)) (s:List Obj) (K:V→List Obj→Prop):Prop :=
 match slTy P t with
 | none=>False
 | some (_,i)=>(len * i.sz≤16777216∧0 < i.sz)∧match fillE i.sz (List.replicate len (i.zero.map cv)) parts with
  | none=>False
  | some els=>match allD els with
   | some ds=>K (.fu ds) s
   | none=>K (.so s.length 0 0 len) (s++[⟨0,true,i.sz,els⟩])
theorem zeroRow {P:Program} {t:TypeId} {i:TyI} (ht:tyI P t=some i) (σ:Gh) (s:List Obj) (w:World) (n:Nat) (z:Value) (hz:z.cells.toList=i.zero) :
  RepsE σ s w i.sz (List.replicate n (i.zero.map cv)) ((Array.range (n * i.sz)).map (z.cells[· % z.cells.size]!)):=by
 obtain⟨ti,d,z',k1,k2,k3,k4,k5,k6,k7,k8,k9⟩:=tyI_spec ht
 have hzs:z.cells.size=i.sz:=by rw[← Array.length_toList,hz,k7]
 refine⟨fun e he=>by rw[List.eq_of_mem_replicate he]; simp [k7],by simp,fun a j x hx=>?_⟩
 have ha:a < n:=by
  cases he:(List.replicate n (i.zero.map cv))[a]? with
  | none=>rw[he] at hx; cases hx
  | some e=>simpa using (List.getElem?_eq_some_iff.1 he).1
 simp only[List.getElem?_replicate,ha,if_true,Option.bind_some,List.getElem?_map] at hx
 obtain⟨v,hv,rfl⟩:=Option.map_eq_some_iff.1 hx
 have hj:j < i.sz:=by rw[← k7]; exact(List.getElem?_eq_some_iff.1 hv).1
 have hb:=Nat.mul_le_mul_right i.sz (show a + 1≤n from ha)
 rw[Nat.add_mul,Nat.one_mul] at hb
 refine⟨v,?_,k8 v (List.mem_of_getElem? hv),cv_rep v⟩
 have hmod:(a * i.sz + j) % z.cells.size=j:=by rw[hzs,Nat.mul_add_mod_self_right,Nat.mod_eq_of_lt hj]
 have hget:z.cells[j]! = v:=by
  rw[getElem!_def,← Array.getElem?_toList,hz,hv]
 simp [show a * i.sz + j < n * i.sz by omega,hmod,hget]
theorem buildSlice_sound {P:Program} {t:TypeId} {len:Nat} {σ:Gh} {s:List Obj} {w:World} {parts:List (Nat × V)} {ps:List (Nat × Value)} {K:V→List Obj→Prop} (hI:Inv σ s w)
  (hl:ps.length=parts.length) (hp:∀(j:Nat) i x,parts[j]?=some (i,x)→∃u,ps[j]?=some (i,u)∧RepV σ s w x u) (h:buildSliceWp P t len parts s K) :
  ∃v c σ' s' w',(Instr.buildSlice t len ps.toArray).run P w=.ok c w'∧Evolve σ s w σ' s' w'∧Inv σ' s' w'∧RepV σ' s' w' v c∧K v s':=by
 unfold buildSliceWp at h
 split at h
 ·exact h.elim
 rename_i e i hti
 obtain⟨hu,hi⟩:=slTy_spec hti
 obtain⟨⟨hb,hpos⟩,h⟩:=h
 split at h
 ·exact h.elim
 rename_i els hels
 obtain⟨ti,d,z,k1,k2,k3,k4,k5,k6,k7,k8,k9⟩:=tyI_spec hi
 have hz:∀w,(zeroValue e).run P w=.ok z w:=fun w=>by simp [zeroValue,typeInfo,k1,k3]
 have hsz:∀w,(sizeOf e).run P w=.ok i.sz w:=fun w=>by simp [sizeOf,typeInfo,k1,k4]
 obtain⟨arr',f1,f2,f3⟩:=fillE_sound parts ps _ _ els (zeroRow hi σ s w len z k6) hl hp hels
 have hlen:els.length=len:=by simpa using f3
 have hrun:(Instr.buildSlice t len ps.toArray).run P w=.ok (.slice (some ⟨w.heap.size,0,none⟩) len len) (w.alloc (.cells arr' e)):=by
  have hb':¬(len * i.sz > 2 ^ 24):=by omega
  by_cases h0:len=0
  ·subst h0
   have hr0:∀g:Nat→Value,(Array.range 0).map g=#[]:=fun g=>by apply Array.ext' ; simp
   rw[Nat.zero_mul,hr0] at f1
   simp only[Instr.buildSlice,Sem.run_bind,run_underlying hu,hsz,Result.andThen_ok,Nat.zero_mul,hr0,f1]
   simp [newRow]
  ·have h0':¬(len * i.sz=0):=by
    have:=Nat.mul_pos (Nat.pos_of_ne_zero h0) hpos; omega
   simp only[Instr.buildSlice,Sem.run_bind,run_underlying hu,hsz,Result.andThen_ok,if_neg hb',if_neg h0',hz,f1,Sem.run_pure]
   simp [newRow]
 obtain⟨r1,r2,r3⟩:=f2
 split at h
 ·rename_i ds hds
  obtain⟨d1,d2,d3⟩:=allD_spec hds
  obtain⟨hE,hI'⟩:=alloc_obj hI (.cells arr' e)
  refine⟨_,_,σ,s,_,hrun,hE,hI',?_,h⟩
  have hd:RepD (Own σ s) (w.alloc (.cells arr' e)) (.sl ds) (.slice (some ⟨w.heap.size,0,none⟩) ds.length ds.length):=by
   refine RepD.of_row (sz:=i.sz) (Nat.le_refl _) (fun x hx=>?_) (fun ho=>by have:=own_lt hI ho; omega) (fun a j y hy=>?_)
   ·obtain⟨a,ha⟩:=List.mem_iff_getElem?.1 hx
    obtain⟨e',g1,g2⟩:=d2 a x ha
    rw[g2]; exact r1 e' (List.mem_of_getElem? g1)
   ·obtain⟨x,g1,g2⟩:=d3 a j y hy
    obtain⟨c,c1,c2,c3⟩:=r3 a j x g1
    exact⟨c,by simpa using c1,(toD_spec c3 g2).evolve hE⟩
  rw[show len=ds.length by omega]
  exact .fu hd
 ·have:=new_obj (els:=els) (sz:=i.sz) (arr:=arr') hI e r1 (by omega) r3
  refine⟨_,_,_,_,_,hrun,this.1,this.2,?_,h⟩
  refine .so ⟨0,true,i.sz,els⟩ (by simp) (Nat.le_refl _) ⟨_,_,rfl⟩ (fun _=>.inr ⟨w.heap.size,0,len,e,arr',updG_same _ _ _,heap_alloc_new w _,by simp,Nat.le_refl _,by simp [r2,hlen]⟩)
def makeSliceWp (P:Program) (t:TypeId) (l c:V) (s:List Obj) (K:V→List Obj→Prop):Prop :=
 match slTy P t with
 | none=>False
 | some (_,i)=>match l,c with
  | .d (.sc (.int _ n)),.d (.sc (.int _ m))=>(0≤n∧n≤m∧i.byt * m≤140737488355328∧m≤9223372036854775807∧0 < i.sz) ∧
    K (.so s.length 0 0 n.toNat) (s++[⟨0,true,i.sz,List.replicate n.toNat (i.zero.map cv)⟩])
  | _,_=>False
theorem makeSlice_sound {P:Program} {t:TypeId} {l c:V} {ul uc:Value} {σ:Gh} {s:List Obj} {w:World} {K:V→List Obj→Prop} (hI:Inv σ s w) (hl:RepV σ s w l ul) (hc:RepV σ s w c uc)
  (h:makeSliceWp P t l c s K):∃v r σ' s' w',(Instr.makeSlice t ul uc).run P w=.ok r w'∧Evolve σ s w σ' s' w'∧Inv σ' s' w'∧RepV σ' s' w' v r∧K v s':=by
 unfold makeSliceWp at h
 split at h
 ·exact h.elim
 rename_i e i hti
 obtain⟨hu,hi⟩:=slTy_spec hti
 split at h
 case h_2=>exact h.elim
 rename_i kl n kc m
 obtain⟨⟨h1,h2,h3,h4,h5⟩,h⟩:=h
 cases hl with | d hl=>?_
 cases hl with | sc _ _=>?_
 cases hc with | d hc=>?_
 cases hc with | sc _ _=>?_
 obtain⟨ti,d,z,k1,k2,k3,k4,k5,k6,k7,k8,k9⟩:=tyI_spec hi
 have hz:∀w,(zeroValue e).run P w=.ok z w:=fun w=>by simp [zeroValue,typeInfo,k1,k3]
 have hsz:∀w,(sizeOf e).run P w=.ok i.sz w:=fun w=>by simp [sizeOf,typeInfo,k1,k4]
 obtain⟨N,rfl⟩:=Int.eq_ofNat_of_zero_le h1
 obtain⟨M,rfl⟩:=Int.eq_ofNat_of_zero_le (show 0≤m by omega)
 have w1:IntKind.i64.wrap (N:Int)=N:=IntWalk.i64_in _ (by omega)
 have w2:IntKind.i64.wrap (M:Int)=M:=IntWalk.i64_in _ (by omega)
 have hbig:¬((i.byt:Int) * (M:Int) > 2 ^ 48):=by omega
 obtain⟨r1,r2,r3⟩:=zeroRow hi σ s w M z k6
 have hrun:(Instr.makeSlice t (.int kl N) (.int kc M)).run P w=.ok (.slice (some ⟨w.heap.size,0,none⟩) N M) (w.alloc (.cells ((Array.range (M * i.sz)).map (z.cells[· % z.cells.size]!)) e)):=by
  have hr0:∀g:Nat→Value,(Array.range 0).map g=#[]:=fun g=>by apply Array.ext' ; simp
  have c1:¬((M:Int) < 0):=by omega
  have c2:¬((N:Int) < 0):=by omega
  have c3:¬((N:Int) > M):=by omega
  by_cases h0:M * i.sz=0
  ·simp only[Instr.makeSlice,run_underlying hu,asInt,asIntOf,typeInfo,k1,k5,w1,w2,Sem.run_bind,Result.andThen_ok,run_program,Sem.run_pure,Int.toNat_natCast,h0,hr0]
   simp [c1,c2,c3,hsz,newRow,h0,hr0]
   intro hx; exfalso; omega
  ·simp only[Instr.makeSlice,run_underlying hu,asInt,asIntOf,typeInfo,k1,k5,w1,w2,Sem.run_bind,Result.andThen_ok,run_program,Sem.run_pure,Int.toNat_natCast]
   simp [c1,c2,c3,hsz,newRow,h0,hz]
   intro hx; exfalso; omega
 have:=new_obj (els:=List.replicate N (i.zero.map cv)) (sz:=i.sz) (arr:=(Array.range (M * i.sz)).map (z.cells[· % z.cells.size]!)) hI e (fun x hx=>by rw[List.eq_of_mem_replicate hx]; simp [k7])
  (by simp; exact Nat.mul_le_mul_right _ (by omega)) (fun a j x hx=>by
   refine r3 a j x ?_
   rw[List.getElem?_replicate] at hx ⊢
   split at hx
   ·rw[if_pos (by omega)]; exact hx
   ·cases hx)
 refine⟨_,_,_,_,_,hrun,this.1,this.2,?_,h⟩
 refine .so ⟨0,true,i.sz,List.replicate N (i.zero.map cv)⟩ (by simp) (Nat.le_refl _) ⟨_,_,rfl⟩ (fun _=>.inr ⟨w.heap.size,0,M,e,(Array.range (M * i.sz)).map (z.cells[· % z.cells.size]!),updG_same _ _ _,heap_alloc_new w _,by simp,by omega,by simp⟩)
def intV:V→Option Int
 | .d (.sc (.int _ n))=>some n
 | _=>none
theorem intV_spec {σ:Gh} {s:List Obj} {w:World} {x:V} {u:Value} {n:Int} (hr:RepV σ s w x u) (h:intV x=some n):∃k,u=.int k n:=by
 unfold intV at h
 split at h
 ·simp only[Option.some.injEq] at h
  subst h
  cases hr with | d hr=>?_
  cases hr with | sc _ _=>exact⟨_,rfl⟩
 ·cases h
def elsV (s:List Obj):V→Option (List (List V))
 | .d (.sl els)=>some (els.map (·.map .d))
 | .fu els=>some (els.map (·.map .d))
 | .so id g lo n=>match s[id]? with
  | some o=>if o.g=g∧lo + n≤o.els.length then some ((o.els.drop lo).take n) else none
  | none=>none
 | _=>none
theorem elsV_map {els:List (List D)} {i j:Nat} {x:V} (h:((els.map (·.map V.d))[i]?.bind (·[j]?))=some x):∃y,x=.d y∧(els[i]?.bind (·[j]?))=some y:=by
 rw[List.getElem?_map] at h
 cases he:els[i]? with
 | none=>rw[he] at h; cases h
 | some e =>
  rw[he] at h
  simp only[Option.map_some,Option.bind_some,List.getElem?_map] at h
  obtain⟨y,hy,rfl⟩:=Option.map_eq_some_iff.1 h
  exact⟨y,rfl,hy⟩
theorem elsV_spec {σ:Gh} {s:List Obj} {w:World} (hI:Inv σ s w) {x:V} {u:Value} {es:List (List V)} (hr:RepV σ s w x u) (h:elsV s x=some es) {z:Nat} (hz:∀e∈es,e.length=z) :
  ∃a cap,u=.slice a es.length cap∧(a=none→es=[])∧es.length≤cap∧∃news:List Value,news.length=es.length * z∧(∀c∈news,c.oneCell'=true) ∧
   (∀ad,a=some ad→∀(j:Nat) (c:Value),news[j]?=some c→w.cell? (ad.add j)=some c) ∧
   ∀(i j:Nat) (y:V),(es[i]?.bind (·[j]?))=some y→∃c,news[i * z + j]?=some c∧c.oneCell'=true∧RepV σ s w y c:=by
 -- from cells that are there
 have key:∀(a:Option Addr) (cap:Nat),(a=none→es=[])→es.length≤cap→(es≠[]→∃ad,a=some ad∧ad.spot=none∧∀(i j:Nat) (y:V),(es[i]?.bind (·[j]?))=some y →
    ∃c,w.cell? ⟨ad.block,ad.off + i * z + j,none⟩=some c∧c.oneCell'=true∧RepV σ s w y c) →
   ∃a' cap',Value.slice a es.length cap=.slice a' es.length cap'∧(a'=none→es=[])∧es.length≤cap'∧∃news:List Value,news.length=es.length * z∧(∀c∈news,c.oneCell'=true) ∧
    (∀ad,a'=some ad→∀(j:Nat) (c:Value),news[j]?=some c→w.cell? (ad.add j)=some c) ∧
    ∀(i j:Nat) (y:V),(es[i]?.bind (·[j]?))=some y→∃c,news[i * z + j]?=some c∧c.oneCell'=true∧RepV σ s w y c:=by
  intro a cap h1 h2 h3
  refine⟨a,cap,rfl,h1,h2,?_⟩
  by_cases hne:es=[]
  ·subst hne
   exact⟨[],by simp,by simp,by simp,by simp⟩
  ·obtain⟨ad,rfl,hsp,hc⟩:=h3 hne
   have hdiv:∀p,p < es.length * z→0 < z∧p / z < es.length∧p / z * z + p % z=p∧p % z < z:=by
    intro p hp
    have hzp:0 < z:=by
     rcases Nat.eq_zero_or_pos z with h' | h'
     ·subst h'; simp at hp
     ·exact h'
    refine⟨hzp,?_,by rw[Nat.mul_comm]; exact Nat.div_add_mod p z,Nat.mod_lt _ hzp⟩
    rw[Nat.div_lt_iff_lt_mul hzp]; exact hp
   have hat:∀p,p < es.length * z→∃y,(es[p / z]?.bind (·[p % z]?))=some y:=by
    intro p hp
    obtain⟨g1,g2,g3,g4⟩:=hdiv p hp
    have hel:(es[p / z]'g2).length=z:=hz _ (List.getElem_mem g2)
    exact⟨(es[p / z]'g2)[p % z]'(by omega),by simp [g2,hel,g4]⟩
   have hcell:∀p,p < es.length * z→∃c,w.cell? ⟨ad.block,ad.off + p,none⟩=some c∧c.oneCell'=true:=by
    intro p hp
    obtain⟨y,hy⟩:=hat p hp
    obtain⟨c,k1,k2,_⟩:=hc _ _ y hy
    exact⟨c,by rw[← k1,Nat.add_assoc,(hdiv p hp).2.2.1],k2⟩
   refine⟨(List.range (es.length * z)).map fun p=>(w.cell? ⟨ad.block,ad.off + p,none⟩).getD undef,by simp,?_,?_,?_⟩
   ·intro c hc'
    obtain⟨p,hp,rfl⟩:=List.mem_map.1 hc'
    obtain⟨c,k1,k2⟩:=hcell p (by simpa using hp)
    rw[k1]; exact k2
   ·intro ad' had j c hj
    cases had
    rw[List.getElem?_map] at hj
    obtain⟨p,hp,rfl⟩:=Option.map_eq_some_iff.1 hj
    have hlt:j < es.length * z:=by simpa using (List.getElem?_eq_some_iff.1 hp).1
    obtain rfl:p=j:=by
     have:=(List.getElem?_eq_some_iff.1 hp).2
     simpa using this.symm
    obtain⟨c,k1,_⟩:=hcell p hlt
    rw[addr_add hsp,k1]; rfl
   ·intro i j y hy
    obtain⟨c,k1,k2,k3⟩:=hc i j y hy
    refine⟨c,?_,k2,k3⟩
    have hij:i * z + j < es.length * z:=by
     cases he:es[i]? with
     | none=>rw[he] at hy; cases hy
     | some e =>
      rw[he] at hy
      have hj:=(List.getElem?_eq_some_iff.1 hy).1
      rw[hz e (List.mem_of_getElem? he)] at hj
      have:=Nat.mul_le_mul_right z (show i + 1≤es.length from (List.getElem?_eq_some_iff.1 he).1)
      rw[Nat.add_mul,Nat.one_mul] at this
      omega
    rw[List.getElem?_map,List.getElem?_range hij]
    simp only[Option.map_some]
    rw[← Nat.add_assoc,k1]
    rfl
 have byval:∀(els:List (List D)) (a:Option Addr) (n cap:Nat),RepD (Own σ s) w (.sl els) (.slice a n cap)→es=els.map (·.map .d)→n=es.length∧(a=none→es=[])∧es.length≤cap ∧
   (es≠[]→∃ad,a=some ad∧ad.spot=none∧∀(i j:Nat) (y:V),(es[i]?.bind (·[j]?))=some y →
    ∃c,w.cell? ⟨ad.block,ad.off + i * z + j,none⟩=some c∧c.oneCell'=true∧RepV σ s w y c):=by
  intro els a n cap hd he
  subst he
  cases hd with
  | nil=>simp
  | sl _ ad _ sz f h1 h2 h3 h4 h5 =>
   refine⟨by simp,by simp,by simpa using h1,fun hne=>⟨ad,rfl,h2 (by intro h'; subst h'; simp at hne),fun i j y hy=>?_⟩⟩
   obtain⟨y',rfl,hy'⟩:=elsV_map hy
   have hsz:sz=z:=by
    cases hei:els[i]? with
    | none=>rw[hei] at hy'; cases hy'
    | some e =>
     have:=h3 e (List.mem_of_getElem? hei)
     have h'':=hz (e.map .d) (List.mem_map.2 ⟨e,List.mem_of_getElem? hei,rfl⟩)
     simp at h''
     omega
   subst hsz
   exact⟨f i j,(h4 i j y' hy').1,(h5 i j y' hy').one,.d (h5 i j y' hy')⟩
 unfold elsV at h
 split at h
 ·simp only[Option.some.injEq] at h
  cases hr with | d hr=>?_
  have hu:∃a n cap,u=.slice a n cap:=by cases hr <;> exact⟨_,_,_,rfl⟩
  obtain⟨a,n,cap,rfl⟩:=hu
  obtain⟨rfl,e2,e3,e4⟩:=byval _ a n cap hr h.symm
  exact key a cap e2 e3 e4
 ·simp only[Option.some.injEq] at h
  cases hr with | fu hr=>?_
  obtain⟨e1,e2,e3,e4⟩:=byval _ _ _ _ hr h.symm
  rw[e1]
  exact key _ _ e2 (by omega) e4
 ·rename_i id g lo n
  split at h
  case h_2=>cases h
  rename_i o ho
  split at h
  case isFalse=>cases h
  rename_i hc
  simp only[Option.some.injEq] at h
  subst h
  have hlen:((o.els.drop lo).take n).length=n:=by simp; omega
  cases hr with | so o' ho' hg hu hk=>?_
  rw[ho] at ho'; cases ho'
  rcases hk hc.1 with ⟨_,⟨a,rfl⟩,rfl,rfl⟩ | ⟨b,base,cap,E,arr,g1,g2,rfl,g4,g5⟩
  ·have:=key a 0 (by simp) (by simp) (by simp)
   simp only[List.take_zero] at this ⊢
   exact this
  ·have:=key (some ⟨b,base + lo * o.sz,none⟩) cap (by simp) (by omega) (fun hne=>⟨_,rfl,rfl,fun i j y hy=>?_⟩)
   ·rw[hlen] at this ⊢; exact this
   ·have hi:i < n∧(o.els[lo + i]?.bind (·[j]?))=some y:=by
     rw[List.getElem?_take] at hy
     split at hy
     ·rw[List.getElem?_drop] at hy; exact⟨by assumption,hy⟩
     ·cases hy
    rcases hI.content _ o ho with h1 | ⟨b',base',arr',E',h1,h2,h3,h4,h5⟩
    ·exact(h1.notC g1 ⟨arr,E,g2⟩).elim
    ·rw[g1] at h1; cases h1
     rw[g2] at h2; cases h2
     have hsz:o.sz=z:=by
      cases hei:o.els[lo + i]? with
      | none=>rw[hei] at hi; cases hi.2
      | some e =>
       have e1:=h3 e (List.mem_of_getElem? hei)
       have e2:=hz e (List.mem_of_getElem? (i:=i) (by rw[List.getElem?_take,if_pos hi.1,List.getElem?_drop]; exact hei))
       omega
     subst hsz
     obtain⟨c,k1,k2,k3⟩:=h5 (lo + i) j y hi.2
     refine⟨c,?_,k2,k3⟩
     simp only[World.cell?,g2]
     rw[Nat.add_mul] at k1
     simpa [Nat.add_assoc] using k1
 ·cases h
def appendWp (P:Program) (t:TypeId) (a x:V) (s:List Obj) (K:V→List Obj→Prop):Prop :=
 match slTy P t with
 | none=>False
 | some (_,i)=>match elsV s x with
  | none=>False
  | some ns=>((∀e∈ns,e.length=i.sz)∧0 < i.sz∧0 < i.byt)∧match a with
   | .fu els=>match els,x with
    | _::_,.d (.sl ds)=>((els.length + ds.length) * i.byt≤140737488355328∧∀e∈els,e.length=i.sz)∧K (.d (.sl (els++ds))) s
    | _,_=>((els=[]∨0 < ns.length)∧(els.length + ns.length) * i.byt≤140737488355328∧∀e∈els,e.length=i.sz) ∧
      K (.so s.length 0 0 (els.length + ns.length)) (s++[⟨0,true,i.sz,els.map (·.map .d)++ns⟩])
   | .so id g lo n=>atG s id g fun o=>(o.live=true∧o.sz=i.sz∧lo + n≤o.els.length∧(n + ns.length) * i.byt≤140737488355328) ∧
     K (.so id (g + 1) 0 (n + ns.length)) (s.set id ⟨g + 1,true,i.sz,(o.els.drop lo).take n++ns⟩)
   | _=>False
theorem app_content {σ:Gh} {s:List Obj} {w:World} {z:Nat} {es ns:List (List V)} {olds news:List Value} (ho:olds.length=es.length * z)
  (h1:∀(i j:Nat) (y:V),(es[i]?.bind (·[j]?))=some y→∃c,olds[i * z + j]?=some c∧c.oneCell'=true∧RepV σ s w y c)
  (h2:∀(i j:Nat) (y:V),(ns[i]?.bind (·[j]?))=some y→∃c,news[i * z + j]?=some c∧c.oneCell'=true∧RepV σ s w y c) :
  ∀(i j:Nat) (y:V),((es++ns)[i]?.bind (·[j]?))=some y→∃c,(olds++news)[i * z + j]?=some c∧c.oneCell'=true∧RepV σ s w y c:=by
 intro i j y hy
 by_cases hi:i < es.length
 ·rw[List.getElem?_append_left hi] at hy
  obtain⟨c,k1,k2,k3⟩:=h1 i j y hy
  refine⟨c,?_,k2,k3⟩
  rw[List.getElem?_append_left (by
   have:=(List.getElem?_eq_some_iff.1 k1).1
   exact this)]
  exact k1
 ·rw[List.getElem?_append_right (by omega)] at hy
  obtain⟨c,k1,k2,k3⟩:=h2 _ j y hy
  refine⟨c,?_,k2,k3⟩
  have hmul:i * z=es.length * z + (i - es.length) * z:=by
   rw[← Nat.add_mul]; congr 1; omega
  rw[List.getElem?_append_right (by rw[ho,hmul]; omega),← k1]
  congr 1
  rw[ho,hmul]
  omega
theorem toArr_get {l:List Value} {arr:Array Value} {p:Nat} {c:Value} (h:l[p]?=some c):(l.toArray++arr)[p]?=some c:=by
 have hlt:=(List.getElem?_eq_some_iff.1 h).1
 rw[Array.getElem?_append_left (by simpa using hlt)]
 simpa using h
theorem run_append_none {P:Program} {t ty e:TypeId} {ti:TypeInfo} (hu:P.underlying t=some (.slice e)) (hi:P.info? e=some ti) {w:World} {ux:Value} (hs:Src P ti.size t ux 0 [] w)
  (base:Option Addr) (n cap:Nat) (h:n≤cap):(Builtin.append_ #[t,t] ty #[.slice base n cap,ux]).run P w=.ok (.slice base n cap) w:=by
 cases base <;> simp [Builtin.append_,run_underlying hu,sizeOf,typeInfo,hi,hs.len,h,hs.cells,storeCells]
theorem append_sound {P:Program} {t ty:TypeId} {a x:V} {ua ux:Value} {σ:Gh} {s:List Obj} {w:World} {K:V→List Obj→Prop} (hI:Inv σ s w) (ha:RepV σ s w a ua) (hx:RepV σ s w x ux)
  (h:appendWp P t a x s K):∃v r σ' s' w',(Builtin.append_ #[t,t] ty #[ua,ux]).run P w=.ok r w'∧Evolve σ s w σ' s' w'∧Inv σ' s' w'∧RepV σ' s' w' v r∧K v s':=by
 unfold appendWp at h
 split at h
 ·exact h.elim
 rename_i e i hti
 obtain⟨hu,hi⟩:=slTy_spec hti
 split at h
 ·exact h.elim
 rename_i ns hns
 obtain⟨⟨hz,hpos,hbp⟩,h⟩:=h
 obtain⟨ti,d,z,k1,k2,k3,k4,k5,k6,k7,k8,k9⟩:=tyI_spec hi
 obtain⟨ax,capx,rfl,xnone,xcap,news,n1,n2,n3,n4⟩:=elsV_spec hI hx hns hz
 have hzsz:z.cells.size=i.sz:=by rw[← Array.length_toList,k6,k7]
 have hsrc:Src P ti.size t (.slice ax ns.length capx) ns.length news w:=by
  rw[k4]
  cases ax with
  | none =>
   have:ns=[]:=xnone rfl
   subst this
   have hn:news=[]:=List.eq_nil_of_length_eq_zero (by simpa using n1)
   subst hn
   exact Src.ofNil w hu capx
  | some ad=>exact Src.ofSlice w hu ad ns.length capx news n1 (n3 ad rfl) n2
 -- it grows
 have grow:∀(es:List (List V)) (base:Option Addr) (cap:Nat) (olds:List Value),olds.length=es.length * i.sz→(base=none→es=[])→(∀e∈es,e.length=i.sz) →
   (∀ad,base=some ad→∀(j:Nat) (c:Value),olds[j]?=some c→w.cell? (ad.add j)=some c) →
   (∀(i' j:Nat) (y:V),(es[i']?.bind (·[j]?))=some y→∃c,olds[i' * i.sz + j]?=some c∧c.oneCell'=true∧RepV σ s w y c) →
   cap < es.length + ns.length→(es.length + ns.length) * i.byt≤140737488355328 →
   ∃(arr:Array Value) (cap':Nat),(Builtin.append_ #[t,t] ty #[.slice base es.length cap,.slice ax ns.length capx]).run P w=.ok (.slice (some ⟨w.heap.size,0,none⟩) (es.length + ns.length) cap') (w.drew.alloc (.cells arr e)) ∧
    es.length + ns.length≤cap'∧arr.size=cap' * i.sz ∧
    ∀(i' j:Nat) (y:V),((es++ns)[i']?.bind (·[j]?))=some y→∃c,arr[i' * i.sz + j]?=some c∧c.oneCell'=true∧RepV σ s w y c:=by
  intro es base cap olds o1 o2 o3 o4 o5 hcap hbyt
  have hold:(Builtin.firstCells ti.size es.length (.slice base es.length cap)).run P w.drew=.ok olds.toArray w.drew:=by
   rw[k4]
   cases base with
   | none =>
    have:es=[]:=o2 rfl
    subst this
    have hn:olds=[]:=List.eq_nil_of_length_eq_zero (by simpa using o1)
    subst hn
    exact run_firstCells_none w.drew i.sz 0 0 cap
   | some ad=>exact run_firstCells_some w.drew i.sz es.length ad es.length cap olds o1 (by simpa using o4 ad rfl)
  have hle:es.length + ns.length≤(es.length + ns.length) * i.byt:=Nat.le_mul_of_pos_right _ hbp
  have hrun:=run_append_grow_src (P:=P) w t t ty e ti z hu k1 k3 base es.length cap olds hold (.slice ax ns.length capx) ns.length news hsrc hcap (by omega) (growslice_fits hcap (by rw[k5]; exact hbyt))
  have hge:=grownCap_ge w (es.length + ns.length) cap e
  refine⟨_,_,hrun,hge,?_,?_⟩
  ·simp only[Array.size_append,List.size_toArray,size_zeroCells,List.length_append,o1,n1,hzsz]
   rw[← Nat.add_mul,← Nat.add_mul]
   congr 1
   omega
  ·intro i' j y hy
   obtain⟨c,c1,c2,c3⟩:=app_content o1 o5 n4 i' j y hy
   exact⟨c,toArr_get c1,c2,c3⟩
 have hboth:∀(es:List (List V)),(∀e∈es,e.length=i.sz)→∀e∈es++ns,e.length=i.sz:=by
  intro es hes e he
  rcases List.mem_append.1 he with h' | h'
  ·exact hes e h'
  ·exact hz e h'
 obtain⟨hEd,hId⟩:=drew_obj hI
 split at h
 ·
  rename_i els
  have hels:elsV s (.fu els)=some (els.map (·.map .d)):=rfl
  have fuz:(∀e∈els,e.length=i.sz)→∀e∈els.map (·.map V.d),e.length=i.sz:=by
   intro hh e he
   obtain⟨e',he',rfl⟩:=List.mem_map.1 he
   simpa using hh e' he'
  split at h
  ·
   rename_i d0 drest ds
   obtain⟨⟨hb,hl⟩,h⟩:=h
   have hnds:ns=ds.map (·.map .d):=by simpa [elsV] using hns.symm
   obtain⟨base,cap,hua,a1,a2,olds,o1,o2,o3,o4⟩:=elsV_spec hI ha hels (fuz hl)
   have hcapeq:cap=(d0::drest).length:=by
    cases ha with | fu ha=>?_
    simp only[Value.slice.injEq] at hua
    omega
   subst hua
   have hesl:((d0::drest).map (·.map V.d)).length=(d0::drest).length:=by simp
   by_cases hm:ns.length=0
   ·have hds:ds=[]:=by
     rw[hnds] at hm
     simpa using hm
    subst hds
    have hn0:ns=[]:=by simpa using hnds
    subst hn0
    have hnew:news=[]:=List.eq_nil_of_length_eq_zero (by simpa using n1)
    subst hnew
    cases base with
    | none=>simp at a1
    | some ad =>
     refine⟨_,.slice (some ad) ((d0::drest).map (·.map V.d)).length cap,σ,s,w,run_append_none hu k1 hsrc _ _ _ (by simp [hcapeq]),Evolve.refl _ _ _,hI,?_,h⟩
     ·rw[List.append_nil]
      exact .d (toD_spec ha rfl)
   ·obtain⟨arr,cap',g1,g2,g3,g4⟩:=grow ((d0::drest).map (·.map .d)) base cap olds o1 a1 (fuz hl) o3 o4 (by rw[hesl]; omega) (by rw[hesl,hnds]; simpa using hb)
    obtain⟨hE,hI'⟩:=alloc_obj hId (.cells arr e)
    refine⟨_,_,σ,s,_,g1,hEd.trans hE,hI',?_,h⟩
    have hlen:((d0::drest).map (·.map V.d)).length + ns.length=((d0::drest)++ds).length:=by rw[hnds]; simp; omega
    rw[hlen]
    refine .d (RepD.of_row (sz:=i.sz) (by rw[← hlen]; exact g2) (fun x hx=>?_) (fun ho=>by have:=own_lt hId ho; simp at this) (fun a j y hy=>?_))
    ·rcases List.mem_append.1 hx with h' | h'
     ·exact hl x h'
     ·have:=hz (x.map .d) (by rw[hnds]; exact List.mem_map.2 ⟨x,h',rfl⟩)
      simpa using this
    ·have hy':(((d0::drest).map (·.map V.d)++ns)[a]?.bind (·[j]?))=some (.d y):=by
      rw[hnds,← List.map_append,List.getElem?_map]
      cases hea:((d0::drest)++ds)[a]? with
      | none=>rw[hea] at hy; cases hy
      | some ea =>
       rw[hea] at hy
       simp only[Option.map_some,Option.bind_some,List.getElem?_map]
       rw[show ea[j]?=some y from hy]
       rfl
     obtain⟨c,c1,c2,c3⟩:=g4 a j _ hy'
     refine⟨c,by
      show (w.drew.alloc (.cells arr e)).cell? ⟨w.drew.heap.size,0 + a * i.sz + j,none⟩=some c
      rw[World.cell?_alloc_new]; simpa using c1,?_⟩
     have:=(c3.evolve hEd).evolve hE
     cases this with | d h'=>exact h'
  ·
   obtain⟨⟨hne,hb,hl⟩,h⟩:=h
   obtain⟨base,cap,hua,a1,a2,olds,o1,o2,o3,o4⟩:=elsV_spec hI ha hels (fuz hl)
   have hcapeq:cap=els.length:=by
    cases ha with | fu ha=>?_
    simp only[Value.slice.injEq] at hua
    omega
   subst hua
   have hesl:(els.map (·.map V.d)).length=els.length:=by simp
   by_cases hm:ns.length=0
   ·have he0:els=[]:=hne.resolve_right (by omega)
    subst he0
    have hn0:ns=[]:=List.eq_nil_of_length_eq_zero hm
    subst hn0
    have hnew:news=[]:=List.eq_nil_of_length_eq_zero (by simpa using n1)
    subst hnew
    have:=push_obj (p:=none) (o':=⟨0,true,i.sz,[]⟩) (w':=w) hI rfl rfl rfl (Nat.le_refl _) (fun _ _=>rfl) (fun _ _ h'=>by cases h') (fun _=>.inl (.inl ⟨rfl,rfl⟩))
    refine⟨_,.slice base 0 cap,_,_,w,run_append_none hu k1 hsrc _ _ _ (Nat.zero_le _),this.1,this.2,?_,h⟩
    ·subst hcapeq
     exact .so ⟨0,true,i.sz,[]⟩ (by simp) (Nat.le_refl _) ⟨_,_,rfl⟩ (fun _=>.inl ⟨updG_same _ _ _,⟨base,rfl⟩,rfl,rfl⟩)
   ·obtain⟨arr,cap',g1,g2,g3,g4⟩:=grow (els.map (·.map .d)) base cap olds o1 a1 (fuz hl) o3 o4 (by rw[hesl]; omega) (by rw[hesl]; exact hb)
    have:=new_obj (els:=els.map (·.map .d)++ns) (sz:=i.sz) (arr:=arr) hId e (hboth _ (fuz hl)) (by rw[g3]; exact Nat.mul_le_mul_right _ (by simpa using g2))
     (fun i' j y hy=>let ⟨c,c1,c2,c3⟩:=g4 i' j y hy; ⟨c,c1,c2,c3.evolve hEd⟩)
    refine⟨_,_,_,_,_,g1,hEd.trans this.1,this.2,?_,h⟩
    rw[hesl]
    refine .so ⟨0,true,i.sz,els.map (·.map .d)++ns⟩ (by simp) (Nat.le_refl _) ⟨_,_,rfl⟩ (fun _=>.inr ⟨w.heap.size,0,cap',e,arr,updG_same _ _ _,heap_alloc_new w.drew _,by simp,by rw[hesl] at g2; exact g2,by simp [g3]⟩)
 ·
  rename_i id g lo n
  obtain⟨o,ho,hg,⟨hlive,hosz,hlo,hb⟩,h⟩:=atG_spec h
  have hels:elsV s (.so id g lo n)=some ((o.els.drop lo).take n):=by simp [elsV,ho,hg,hlo]
  have hesl:((o.els.drop lo).take n).length=n:=by simp; omega
  have hez:∀e∈(o.els.drop lo).take n,e.length=i.sz:=by
   intro e he
   have he':e∈o.els:=List.mem_of_mem_drop (List.mem_of_mem_take he)
   rcases hI.content _ o ho with h0 | ⟨b,base,arr,E,h1,h2,h3,h4,h5⟩
   ·cases ha with | so o' ho' hg' hu' hk=>?_
    rw[ho] at ho'; cases ho'
    rcases hk hg with ⟨hs0,_⟩ | ⟨b,bs,cp,E,arr,hs1,hh,_⟩
    ·rw[h0.els_nil hs0] at he'; cases he'
    ·exact(h0.notC hs1 ⟨arr,E,hh⟩).elim
   ·rw[← hosz]; exact h3 e he'
  obtain⟨base,cap,hua,a1,a2,olds,o1,o2,o3,o4⟩:=elsV_spec hI ha hels hez
  rw[hesl] at hua a2
  cases ha with | so o' ho' hg' hu' hk=>?_
  rw[ho] at ho'; cases ho'
  have hk':=hk hg
  by_cases hcap:cap < n + ns.length
  ·
   obtain⟨arr,cap',g1,g2,g3,g4⟩:=grow _ base cap olds o1 a1 hez o3 o4 (by rw[hesl]; exact hcap) (by rw[hesl]; exact hb)
   rw[hesl] at g1 g2
   subst hua
   have:=set_obj (p:=some (w.heap.size,0)) (o':=⟨g + 1,true,i.sz,(o.els.drop lo).take n++ns⟩) (w':=w.drew.alloc (.cells arr e)) hI ho hlive rfl rfl rfl (by simp)
    (fun b hb' _=>Go.RowKit.Below.heap_alloc w.drew _ b hb')
    (fun b base' arr' E' he hh=>⟨arr',by rw[Go.RowKit.Below.heap_alloc w.drew _ b (by exact lt_heap hh)]; exact hh,rfl⟩)
    (fun b base' he hm=>let ⟨es,c,hh⟩:=hm; ⟨es,c,by rw[Go.RowKit.Below.heap_alloc w.drew _ b (by exact lt_heap hh)]; exact hh⟩)
    (by simp only; omega) (fun h'=>by simp only at h'; omega) (fun b base' he=>by cases he; exact .inr (Nat.le_refl _))
    (fun hE=>.inr ⟨w.heap.size,0,arr,e,rfl,heap_alloc_new w.drew _,hboth _ hez,by simp only[List.length_append,hesl,g3]; rw[Nat.zero_add]; exact Nat.mul_le_mul_right _ g2,fun i' j y hy=>by
     obtain⟨c,c1,c2,c3⟩:=g4 i' j y hy
     exact⟨c,by simpa using c1,c2,c3.evolve hE⟩⟩)
   refine⟨_,_,_,_,_,g1,this.1,this.2,?_,h⟩
   exact .so ⟨g + 1,true,i.sz,(o.els.drop lo).take n++ns⟩ (by simp [(List.getElem?_eq_some_iff.1 ho).1]) (Nat.le_refl _) ⟨_,_,rfl⟩ (fun _=>.inr ⟨w.heap.size,0,cap',e,arr,updG_same _ _ _,heap_alloc_new w.drew _,by simp,g2,by simp [g3]⟩)
  ·
   have hroom:n + ns.length≤cap:=by omega
   rcases hk' with ⟨hs0,⟨aa,hua'⟩,rfl,rfl⟩ | ⟨b,bs,cp,E,arr,hs1,hh,hua',hcp,hfit⟩
   ·
    rw[hua] at hua'
    simp only[Value.slice.injEq] at hua'
    obtain⟨rfl,_,rfl⟩:=hua'
    have hn0:ns=[]:=List.eq_nil_of_length_eq_zero (by omega)
    subst hn0
    have hnew:news=[]:=List.eq_nil_of_length_eq_zero (by simpa using n1)
    subst hnew
    subst hua
    have:=set_obj (p:=none) (o':=⟨g + 1,true,i.sz,(o.els.drop 0).take 0++[]⟩) (w':=w) hI ho hlive rfl rfl rfl (Nat.le_refl _) (fun _ _ _=>rfl)
     (fun _ _ arr' _ _ hh=>⟨arr',hh,rfl⟩) (fun _ _ _ hm=>hm) (by simp only; omega) (fun h'=>by simp only at h'; omega) (fun _ _ he=>by cases he) (fun _=>.inl (.inl ⟨rfl,by simp⟩))
    refine⟨_,.slice base 0 0,_,_,w,run_append_none hu k1 hsrc _ _ _ (Nat.le_refl _),this.1,this.2,?_,h⟩
    ·exact .so ⟨g + 1,true,i.sz,(o.els.drop 0).take 0++[]⟩ (by simp [(List.getElem?_eq_some_iff.1 ho).1]) (Nat.le_refl _) ⟨_,_,rfl⟩ (fun _=>.inl ⟨updG_same _ _ _,⟨base,rfl⟩,rfl,rfl⟩)
   ·rw[hua] at hua'
    simp only[Value.slice.injEq] at hua'
    obtain⟨rfl,_,rfl⟩:=hua'
    subst hua
    have hq:bs + lo * o.sz + n * i.sz + news.length≤arr.size:=by
     rw[n1,← hosz]
     have e1:(lo + cap) * o.sz=lo * o.sz + cap * o.sz:=Nat.add_mul _ _ _
     have e2:=Nat.mul_le_mul_right o.sz hroom
     rw[Nat.add_mul] at e2
     omega
    have hst:=run_storeCells_at P b (bs + lo * o.sz + n * i.sz) E news 0 arr w hh (by omega) n2
    simp only[Nat.add_zero] at hst
    generalize harr':(arr.toList.take (bs + lo * o.sz + n * i.sz)++news++arr.toList.drop (bs + lo * o.sz + n * i.sz + news.length)).toArray=arr' at hst
    have hsize:arr'.size=arr.size:=by rw[← harr']; simp; omega
    have hlt:∀p,p < bs + lo * o.sz + n * i.sz→arr'[p]?=arr[p]?:=by
     intro p hp
     rw[← harr',List.getElem?_toArray,List.append_assoc,List.getElem?_append_left (by simp; omega),List.getElem?_take,if_pos hp,Array.getElem?_toList]
    have hin:∀q,q < news.length→arr'[bs + lo * o.sz + n * i.sz + q]?=news[q]?:=by
     intro q hq'
     have hl:(arr.toList.take (bs + lo * o.sz + n * i.sz)).length=bs + lo * o.sz + n * i.sz:=by simp; omega
     rw[← harr',List.getElem?_toArray,List.append_assoc,List.getElem?_append_right (by omega),hl,List.getElem?_append_left (by omega)]
     congr 1
     omega
    have:=set_obj (p:=some (b,bs + lo * o.sz)) (o':=⟨g + 1,true,i.sz,(o.els.drop lo).take n++ns⟩) (w':=w.setRow b arr') hI ho hlive rfl rfl rfl (by simp)
     (fun b1 _ hne=>setRow_other w b b1 arr' (fun e=>hne bs (by rw[hs1,e])))
     (fun b1 base1 arr1 E1 he hh'=>by
      rw[hs1] at he; cases he
      rw[hh] at hh'; cases hh'
      exact⟨arr',setRow_heap w b arr arr' E (0,0) hh,hsize⟩)
     (fun b1 base1 he hm=>by
      rw[hs1] at he; cases he
      exact(IsC.notM ⟨arr,E,hh⟩ hm).elim)
     (by simp only; omega) (fun h'=>by simp only at h'; omega) (fun b1 base1 he=>by cases he; exact .inl ⟨bs,hs1⟩)
     (fun hE=>.inr ⟨b,bs + lo * o.sz,arr',E,rfl,setRow_heap w b arr arr' E (0,0) hh,hboth _ hez,(by
      simp only[List.length_append,hesl,Nat.add_mul]
      rw[hsize]
      omega),fun i' j y hy=>by
      obtain⟨c,c1,c2,c3⟩:=app_content (z:=i.sz) o1 o4 n4 i' j y hy
      refine⟨c,?_,c2,c3.evolve hE⟩
      simp only
      by_cases hij:i' * i.sz + j < olds.length
      ·rw[List.getElem?_append_left hij] at c1
       rw[hlt _ (by rw[o1,hesl] at hij; omega)]
       have hc:=o3 ⟨b,bs + lo * o.sz,none⟩ rfl _ c c1
       rw[addr_add rfl] at hc
       simp only[World.cell?,hh] at hc
       simpa [Nat.add_assoc] using hc
      ·rw[List.getElem?_append_right (by omega)] at c1
       have hlt':=(List.getElem?_eq_some_iff.1 c1).1
       have:=hin _ hlt'
       rw[c1] at this
       rw[← this]
       congr 1
       rw[o1,hesl] at *
       omega⟩)
    refine⟨_,.slice (some ⟨b,bs + lo * o.sz,none⟩) (n + ns.length) cap,_,_,w.setRow b arr',?_,this.1,this.2,?_,h⟩
    ·have hcells:=hsrc.cells
     rw[k4] at hcells
     simp [Builtin.append_,run_underlying hu,sizeOf,typeInfo,k1,Builtin.lenOf,hroom,hcells,k4,Addr.add_lit,hst]
    ·exact .so ⟨g + 1,true,i.sz,(o.els.drop lo).take n++ns⟩ (by simp [(List.getElem?_eq_some_iff.1 ho).1]) (Nat.le_refl _) ⟨_,_,rfl⟩
      (fun _=>.inr ⟨b,bs + lo * o.sz,cap,E,arr',updG_same _ _ _,setRow_heap w b arr arr' E (0,0) hh,by simp,hroom,by rw[hsize]; simp only[Nat.zero_add]; rw[← hosz,Nat.add_mul] at *; omega⟩)
 ·exact h.elim
theorem run_append_full0_zeros {P:Program} (w:World) (t tn ty e:TypeId) (i:TypeInfo) (z:Value) (k kn:IntKind) (ht:P.underlying t=some (.slice e)) (htn:P.underlying tn=some (.int kn)) (hi:P.info? e=some i) (hz:i.zero=some z)
  (base:Option Addr) (n:Nat) (h0:0 < n) (hs:0 < i.size) (h63:(n:Int)≤9223372036854775807) (h48:n * i.bytes≤281474976710656) :
  (Builtin.append_ #[t,tn] ty #[.slice base 0 0,.int k n]).run P w =
   .ok (.slice (some ⟨w.heap.size,0,none⟩) n (grownCap w n 0 e)) (w.drew.alloc (.cells (Builtin.zeroCells z.cells n++Builtin.zeroCells z.cells (grownCap w n 0 e - n)) e)):=by
 have hn:n≠0:=by omega
 have hw:IntKind.i64.wrap (n:Int)=n:=by rw[IntKind.wrap_i64]; omega
 have h63':¬(9223372036854775807 < (n:Int)):=by omega
 have h48':¬(281474976710656 < Builtin.nextslicecap n 0 * i.bytes):=by rw[nextslicecap_zero h0]; omega
 have h48i:¬(281474976710656 < (n:Int) * (i.bytes:Int)):=by
  rw[← Int.natCast_mul]
  omega
 have hneg:¬((n:Int) < 0):=by omega
 have hns:¬(n * i.size=0):=Nat.mul_ne_zero hn (by omega)
 have hold:∀w:World,(Builtin.firstCells i.size 0 (.slice base 0 0)).run P w=.ok #[] w:=by
  intro w
  cases base with
  | none=>exact run_firstCells_none w i.size 0 0 0
  | some ad=>exact run_firstCells_some w i.size 0 ad 0 0 [] (by simp) (by simp)
 simp [Builtin.append_,run_underlying ht,run_underlying htn,sizeOf,typeInfo,zeroValue,hi,hz,asInt,asIntOf,hw,hn,hneg,hns,h63',h48',h48i,Question.forced,hold,newRow,grownCap]
def appendZWp (P:Program) (t t':TypeId) (a x:V) (s:List Obj) (K:V→List Obj→Prop):Prop :=
 match slTy P t with
 | none=>False
 | some (_,i)=>match P.underlying t' with
  | some (.int _)=>match a,x with
   | .fu els,.d (.sc (.int _ n))=>(els=[]∧0 < n∧(i.byt:Int) * n≤140737488355328∧n≤140737488355328∧0 < i.sz) ∧
     K (.so s.length 0 0 n.toNat) (s++[⟨0,true,i.sz,List.replicate n.toNat (i.zero.map cv)⟩])
   | _,_=>False
  | _=>False
theorem appendZ_sound {P:Program} {t t' ty:TypeId} {a x:V} {ua ux:Value} {σ:Gh} {s:List Obj} {w:World} {K:V→List Obj→Prop} (hI:Inv σ s w) (ha:RepV σ s w a ua) (hx:RepV σ s w x ux)
  (h:appendZWp P t t' a x s K):∃v r σ' s' w',(Builtin.append_ #[t,t'] ty #[ua,ux]).run P w=.ok r w'∧Evolve σ s w σ' s' w'∧Inv σ' s' w'∧RepV σ' s' w' v r∧K v s':=by
 unfold appendZWp at h
 split at h
 ·exact h.elim
 rename_i e i hti
 obtain⟨hu,hi⟩:=slTy_spec hti
 split at h
 case h_2=>exact h.elim
 rename_i kn hun
 split at h
 case h_2=>exact h.elim
 rename_i els k n
 obtain⟨⟨rfl,h1,h2,h3,h4⟩,h⟩:=h
 cases hx with | d hx=>?_
 cases hx with | sc _ _=>?_
 cases ha with | fu ha=>?_
 rename_i base
 obtain⟨ti,d,z,k1,k2,k3,k4,k5,k6,k7,k8,k9⟩:=tyI_spec hi
 have hzsz:z.cells.size=i.sz:=by rw[← Array.length_toList,k6,k7]
 obtain⟨N,rfl⟩:=Int.eq_ofNat_of_zero_le (show 0≤n by omega)
 have h48:N * ti.bytes≤281474976710656:=by
  rw[k5,Nat.mul_comm]
  have:((i.byt * N:Nat):Int)≤140737488355328:=by rw[Int.natCast_mul]; exact h2
  omega
 have hrun:=run_append_full0_zeros (P:=P) w t t' ty e ti z k kn hu hun k1 k3 base N (by omega) (by rw[k4]; exact h4) (by omega) h48
 have hge:=grownCap_ge w N 0 e
 generalize grownCap w N 0 e=cap at hrun hge
 obtain⟨hEd,hId⟩:=drew_obj hI
 have hsz:(Builtin.zeroCells z.cells N++Builtin.zeroCells z.cells (cap - N)).size=cap * i.sz:=by
  simp only[Array.size_append,size_zeroCells,hzsz]
  rw[← Nat.add_mul]
  congr 1
  omega
 obtain⟨r1,r2,r3⟩:=zeroRow hi σ s w N z k6
 have hzc:Builtin.zeroCells z.cells N=(Array.range (N * i.sz)).map (z.cells[· % z.cells.size]!):=by
  unfold Builtin.zeroCells
  rw[hzsz]
 have hget:∀(a j:Nat) (x:V),((List.replicate N (i.zero.map cv))[a]?.bind (·[j]?))=some x→∃c,(Builtin.zeroCells z.cells N++Builtin.zeroCells z.cells (cap - N))[a * i.sz + j]?=some c∧c.oneCell'=true∧RepV σ s w x c:=by
  intro a j x hx
  obtain⟨c,c1,c2,c3⟩:=r3 a j x hx
  refine⟨c,?_,c2,c3⟩
  rw[← hzc] at c1
  have hlt:=(Array.getElem?_eq_some_iff.1 c1).1
  rw[Array.getElem?_append_left hlt]
  exact c1
 generalize Builtin.zeroCells z.cells N++Builtin.zeroCells z.cells (cap - N)=arr at *
 have:=new_obj (els:=List.replicate N (i.zero.map cv)) (sz:=i.sz) (arr:=arr) hId e (fun x hx=>by rw[List.eq_of_mem_replicate hx]; simp [k7])
  (by rw[hsz,List.length_replicate]; exact Nat.mul_le_mul_right _ hge) (fun a j x hx=>let ⟨c,c1,c2,c3⟩:=hget a j x hx; ⟨c,c1,c2,c3.evolve hEd⟩)
 refine⟨_,_,_,_,_,hrun,hEd.trans this.1,this.2,?_,h⟩
 exact .so ⟨0,true,i.sz,List.replicate N (i.zero.map cv)⟩ (by simp) (Nat.le_refl _) ⟨_,_,rfl⟩ (fun _=>.inr ⟨w.heap.size,0,cap,e,arr,updG_same _ _ _,heap_alloc_new w.drew _,by simp,hge,by simp [hsz]⟩)
def obnd (x:Option V) (dflt:Int):Option Int :=
 match x with
 | none=>some dflt
 | some v=>intV v
def chunkL (cs:List D) (z l n:Nat):List (List D):=(List.range n).map fun i=>(cs.drop ((l + i) * z)).take z
def arSliceWp (P:Program) (t:TypeId) (x:V) (lo hi mx:Option V) (K:V→Prop):Prop :=
 match arE P t with
 | none=>False
 | some (len,z)=>match x,obnd lo 0,obnd hi len,mx with
  | .d (.el cs),some l,some h,none=>((0≤l∧l≤h∧h≤len)∧cs.length=len * z)∧K (.d (.sl (chunkL cs z l.toNat (h - l).toNat)))
  | _,_,_,_=>False
def sliceWp (P:Program) (t:TypeId) (x:V) (lo hi mx:Option V) (s:List Obj) (K:V→Prop):Prop :=
 match slE P t with
 | none=>arSliceWp P t x lo hi mx K
 | some z=>match elsV s x with
  | none=>False
  | some es=>match obnd lo 0,obnd hi es.length with
   | some l,some h=>(0≤l∧l≤h∧h≤es.length)∧match x,mx with
    | .d (.sl els),none=>(l=0∨∀e∈els,e.length=z)∧K (.d (.sl ((els.drop l.toNat).take (h - l).toNat)))
    | .fu els,none=>(l=0∨∀e∈els,e.length=z)∧K (bif els.isEmpty then .fu [] else .d (.sl ((els.drop l.toNat).take (h - l).toNat)))
    | .d (.sl els),some m=>hi.isSome=true∧intV m=some h∧(l=0∨∀e∈els,e.length=z)∧K (.fu ((els.drop l.toNat).take (h - l).toNat))
    | .so id g lo' _,none=>atG s id g fun o=>o.sz=z∧if l=0∨l < h then K (.so id g (lo' + l.toNat) (h - l).toNat) else K (.d (.sl []))
    | _,_=>False
   | _,_=>False
theorem RepD.sub {O:Nat→Prop} {w:World} {els:List (List D)} {a:Option Addr} {n cap l h m z:Nat} (hr:RepD O w (.sl els) (.slice a n cap)) (hl:l≤h) (hh:h≤els.length) (hm:h≤m) (hm':m≤cap)
  (hz:l=0∨∀e∈els,e.length=z):RepD O w (.sl ((els.drop l).take (h - l))) (.slice (if m=l then a else a.map (·.add (l * z))) (h - l) (m - l)):=by
 have hlen:((els.drop l).take (h - l)).length=h - l:=by simp; omega
 cases hr with
 | nil =>
  simp only[List.length_nil] at hh
  obtain rfl:h=0:=by omega
  obtain rfl:l=0:=by omega
  obtain rfl:m=0:=by omega
  exact .nil
 | sl _ ad _ sz f h1 h2 h3 h4 h5 =>
  by_cases hml:m=l
  ·rw[if_pos hml]
   have e0:(els.drop l).take (h - l)=[]:=List.eq_nil_of_length_eq_zero (by rw[hlen]; omega)
   have:=RepD.sl (O:=O) (w:=w) [] ad (m - l) sz f (by simp) (by simp) (by simp) (by simp) (by simp)
   rw[e0,show h - l=0 by omega]
   exact this
  ·rw[if_neg hml]
   simp only[Option.map_some]
   have hget:∀(i:Nat) (e:List D),((els.drop l).take (h - l))[i]?=some e→els[l + i]?=some e:=by
    intro i e he
    rw[List.getElem?_take] at he
    split at he
    ·rw[List.getElem?_drop] at he; exact he
    ·cases he
   have hszz:∀e∈(els.drop l).take (h - l),e.length=sz:=fun e he=>h3 e (List.mem_of_mem_drop (List.mem_of_mem_take he))
   have hmul:∀(i j:Nat) (x:D),(((els.drop l).take (h - l))[i]?.bind (·[j]?))=some x→(els[l + i]?.bind (·[j]?))=some x∧ad.add (l * z)=⟨ad.block,ad.off + l * sz,none⟩:=by
    intro i j x hx
    cases he:((els.drop l).take (h - l))[i]? with
    | none=>rw[he] at hx; cases hx
    | some e =>
     rw[he] at hx
     have he':=hget i e he
     refine⟨by rw[he']; exact hx,?_⟩
     have hne:els≠[]:=by intro h'; subst h'; simp at he'
     rw[addr_add (h2 hne)]
     rcases hz with rfl | hz
     ·simp
     ·have:=hz e (List.mem_of_getElem? he')
      have:=h3 e (List.mem_of_getElem? he')
      rw[show z=sz by omega]
   have:=RepD.sl (O:=O) (w:=w) ((els.drop l).take (h - l)) (ad.add (l * z)) (m - l) sz (fun i j=>f (l + i) j) (by rw[hlen]; omega)
    (fun hne=>by
     have hne':els≠[]:=by intro h'; subst h'; simp at hne
     rw[addr_add (h2 hne')]) hszz
    (fun i j x hx=>by
     obtain⟨g1,g2⟩:=hmul i j x hx
     have:=h4 (l + i) j x g1
     rw[g2]
     simpa [Nat.add_mul,Nat.add_assoc] using this)
    (fun i j x hx=>h5 (l + i) j x (hmul i j x hx).1)
   rw[hlen] at this
   exact this
theorem obnd_run {σ:Gh} {s:List Obj} {w:World} {x:Option V} {u:Option Value} {dflt n:Int} (hr:∀v,x=some v→∃c,u=some c∧RepV σ s w v c) (hn:x=none→u=none) (h:obnd x dflt=some n) :
  (u=none∧n=dflt)∨∃k,u=some (.int k n):=by
 cases x with
 | none=>simp only[obnd,Option.some.injEq] at h; exact .inl ⟨hn rfl,h.symm⟩
 | some v =>
  obtain⟨c,rfl,hc⟩:=hr v rfl
  obtain⟨k,rfl⟩:=intV_spec hc h
  exact .inr ⟨k,rfl⟩
theorem run_slice {P:Program} {t e:TypeId} {ti:TypeInfo} (hu:P.underlying t=some (.slice e)) (hi:P.info? e=some ti) {a:Option Addr} {n cap:Nat} {lo hi' mx:Option Value} {l h m:Nat}
  (hlo:(lo=none∧l=0)∨∃k,lo=some (.int k l)) (hhi:(hi'=none∧h=n)∨∃k,hi'=some (.int k h)) (hmx:(mx=none∧m=cap)∨(hi'≠none∧∃k,mx=some (.int k m)))
  (hlh:l≤h) (hhm:h≤m) (hmc:m≤cap) (w:World) :
  (Instr.sliceAt t (.slice a n cap) lo hi' mx).run P w=.ok (.slice (if m=l then a else a.map (·.add (l * ti.size))) (h - l) (m - l)) w:=by
 have b:∀(k:IntKind) (i y:Nat) (c:BoundsCode),i≤y→(Instr.sliceBound (.int k i) y c).run P w=.ok i w:=by
  intro k i y c hh
  simp [Instr.sliceBound,asIntOf,hh]
 rcases hlo with ⟨rfl,rfl⟩ | ⟨kl,rfl⟩ <;> rcases hhi with ⟨rfl,rfl⟩ | ⟨kh,rfl⟩ <;> rcases hmx with ⟨rfl,rfl⟩ | ⟨hne,km,rfl⟩ <;>
  first
   |(exact absurd rfl hne)
   | simp [Instr.sliceAt,Instr.slice,run_underlying hu,Instr.sliceBounds,b,hlh,hhm,hmc,sizeOf,typeInfo,hi]
theorem RepD.chunk {O:Nat→Prop} {w:World} {cs:List D} {a:Addr} {len z l n:Nat} (hr:RepD O w (.el cs) (.pointer (some a))) (hlen:cs.length=len * z) (hn:l + n≤len) :
  RepD O w (.sl (chunkL cs z l n)) (.slice (some (if len=l then a else a.add (l * z))) n (len - l)):=by
 cases hr with
 | el _ _ f h1 h2 h3 =>
  have hl:(chunkL cs z l n).length=n:=by simp [chunkL]
  by_cases hn0:n=0
  ·subst hn0
   exact RepD.sl [] _ (len - l) 0 (fun _ _=>undef) (by simp) (by simp) (by simp) (by simp) (by simp)
  ·rw[if_neg (by omega),addr_add h1]
   have hget:∀(i j:Nat) (x:D),((chunkL cs z l n)[i]?.bind (·[j]?))=some x→cs[(l + i) * z + j]?=some x:=by
    intro i j x hx
    unfold chunkL at hx
    rw[List.getElem?_map] at hx
    cases hi:(List.range n)[i]? with
    | none=>rw[hi] at hx; cases hx
    | some k =>
     have hk:k=i:=by
      have:=List.getElem?_eq_some_iff.1 hi
      obtain⟨h1,h2⟩:=this
      simpa using h2.symm
     subst hk
     rw[hi] at hx
     simp only[Option.map_some,Option.bind_some] at hx
     rw[List.getElem?_take] at hx
     split at hx
     ·rwa [List.getElem?_drop] at hx
     ·cases hx
   have:=RepD.sl (O:=O) (w:=w) (chunkL cs z l n) ⟨a.block,a.off + l * z,none⟩ (len - l) z (fun i j=>f ((l + i) * z + j)) (by omega) (fun _=>rfl)
    (fun e he=>by
     unfold chunkL at he
     obtain⟨i,hi,rfl⟩:=List.mem_map.1 he
     have hi:=List.mem_range.1 hi
     have:=Nat.mul_le_mul_right z (show l + i + 1≤len by omega)
     rw[Nat.add_mul,Nat.one_mul] at this
     rw[List.length_take,List.length_drop]
     omega)
    (fun i j x hx=>by
     have:=h2 _ x (hget i j x hx)
     have e:a.off + ((l + i) * z + j)=a.off + l * z + i * z + j:=by rw[Nat.add_mul]; omega
     rw[e] at this
     exact this)
    (fun i j x hx=>h3 _ x (hget i j x hx))
   rw[hl] at this
   exact this
theorem arSlice_sound {P:Program} {t:TypeId} {x:V} {ux:Value} {lo hi mx:Option V} {ul uh um:Option Value} {σ:Gh} {s:List Obj} {w:World} {K:V→Prop} (hx:RepV σ s w x ux)
  (hl:∀v,lo=some v→∃c,ul=some c∧RepV σ s w v c) (hln:lo=none→ul=none) (hh:∀v,hi=some v→∃c,uh=some c∧RepV σ s w v c) (hhn:hi=none→uh=none)
  (hmn:mx=none→um=none) (h:arSliceWp P t x lo hi mx K) :
  ∃v c,(Instr.sliceAt t ux ul uh um).run P w=.ok c w∧RepV σ s w v c∧K v:=by
 unfold arSliceWp at h
 split at h
 ·exact h.elim
 rename_i len z hz
 obtain⟨e,ti,e1,e2,e3⟩:=arE_spec hz
 split at h
 case h_2=>exact h.elim
 rename_i cs l h' hl0 hh0
 obtain⟨⟨⟨b1,b2,b3⟩,hlen⟩,hK⟩:=h
 obtain⟨L,rfl⟩:=Int.eq_ofNat_of_zero_le b1
 obtain⟨H,rfl⟩:=Int.eq_ofNat_of_zero_le (show 0≤h' by omega)
 have hl1:=obnd_run hl hln hl0
 have hh1:=obnd_run hh hhn hh0
 have hm1:=hmn rfl
 subst hm1
 cases hx with | d hx=>?_
 have hxx:=hx
 cases hx with | el _ a f h1 h2 h3=>?_
 have hr:=RepD.chunk (l:=L) (n:=H - L) hxx hlen (by omega)
 rw[← e3] at hr
 refine⟨_,_,?_,.d hr,by rw[show ((H:Int) - L).toNat=H - L by omega,Int.toNat_natCast,← e3] at hK; exact hK⟩
 have b:∀(k:IntKind) (i y:Nat) (c:BoundsCode),i≤y→(Instr.sliceBound (.int k i) y c).run P w=.ok i w:=by
  intro k i y c hh
  simp [Instr.sliceBound,asIntOf,hh]
 have hL:L≤H:=by omega
 have hH:H≤len:=by omega
 rcases hl1 with ⟨rfl,hl1⟩ | ⟨kl,rfl⟩ <;> rcases hh1 with ⟨rfl,hh1⟩ | ⟨kh,rfl⟩
 ·obtain rfl:L=0:=by omega
  obtain rfl:H=len:=by omega
  simp [Instr.sliceAt,run_underlying e1,Instr.sureAddr,Instr.sliceBounds,sizeOf,typeInfo,e2]
 ·obtain rfl:L=0:=by omega
  simp [Instr.sliceAt,run_underlying e1,Instr.sureAddr,Instr.sliceBounds,b,hH,sizeOf,typeInfo,e2]
 ·obtain rfl:H=len:=by omega
  simp [Instr.sliceAt,run_underlying e1,Instr.sureAddr,Instr.sliceBounds,b,hL,sizeOf,typeInfo,e2]
 ·simp [Instr.sliceAt,run_underlying e1,Instr.sureAddr,Instr.sliceBounds,b,hL,hH,sizeOf,typeInfo,e2]
theorem slice_sound {P:Program} {t:TypeId} {x:V} {ux:Value} {lo hi mx:Option V} {ul uh um:Option Value} {σ:Gh} {s:List Obj} {w:World} {K:V→Prop} (hx:RepV σ s w x ux)
  (hl:∀v,lo=some v→∃c,ul=some c∧RepV σ s w v c) (hln:lo=none→ul=none) (hh:∀v,hi=some v→∃c,uh=some c∧RepV σ s w v c) (hhn:hi=none→uh=none)
  (hm:∀v,mx=some v→∃c,um=some c∧RepV σ s w v c) (hmn:mx=none→um=none) (h:sliceWp P t x lo hi mx s K) :
  ∃v c,(Instr.sliceAt t ux ul uh um).run P w=.ok c w∧RepV σ s w v c∧K v:=by
 unfold sliceWp at h
 split at h
 ·exact arSlice_sound hx hl hln hh hhn hmn h
 rename_i z hz
 obtain⟨e,ti,e1,e2,e3⟩:=slE_spec hz
 split at h
 ·exact h.elim
 rename_i es hes
 split at h
 case h_2=>exact h.elim
 rename_i l h' hl0 hh0
 obtain⟨⟨b1,b2,b3⟩,h⟩:=h
 obtain⟨L,rfl⟩:=Int.eq_ofNat_of_zero_le b1
 obtain⟨H,rfl⟩:=Int.eq_ofNat_of_zero_le (show 0≤h' by omega)
 have hl1:=obnd_run hl hln hl0
 have hh1:=obnd_run hh hhn hh0
 have hl2:(ul=none∧L=0)∨∃k,ul=some (.int k (L:Int)):=hl1.imp (fun h=>⟨h.1,by omega⟩) id
 have e4:((H:Int) - L).toNat=H - L:=by omega
 simp only[Int.toNat_natCast,e4] at h
 have data:∀(els:List (List D)),RepD (Own σ s) w (.sl els) ux→es.length=els.length→(L=0∨∀e∈els,e.length=z)→∀(M:Nat),H≤M→(∀a n cap,ux=.slice a n cap→M≤cap∧((um=none∧M=cap)∨(uh≠none∧∃k,um=some (.int k (M:Int))))) →
   ∃c a cap,ux=.slice a els.length cap∧(Instr.sliceAt t ux ul uh um).run P w=.ok c w∧RepD (Own σ s) w (.sl ((els.drop L).take (H - L))) c∧c=.slice (if M=L then a else a.map (·.add (L * z))) (H - L) (M - L):=by
  intro els hd hlen hzz M hM hcond
  have hu:∃a n cap,ux=.slice a n cap:=by cases hd <;> exact⟨_,_,_,rfl⟩
  obtain⟨a,n,cap,rfl⟩:=hu
  have hn:n=els.length∧els.length≤cap:=by cases hd <;> simp_all
  obtain⟨rfl,hcap⟩:=hn
  obtain⟨c1,c2⟩:=hcond a _ cap rfl
  have hrun:=run_slice (P:=P) e1 e2 (a:=a) (n:=els.length) (cap:=cap) (lo:=ul) (hi':=uh) (mx:=um) (l:=L) (h:=H) (m:=M) hl2 (hh1.imp (fun h=>⟨h.1,by omega⟩) id) c2 (by omega) hM c1 w
  rw[e3] at hrun
  exact⟨_,a,cap,rfl,hrun,RepD.sub hd (by omega) (by omega) hM c1 hzz,rfl⟩
 split at h
 ·
  rename_i els
  have hd:RepD (Own σ s) w (.sl els) ux:=toD_spec hx rfl
  have hlen:es.length=els.length:=by simp only[elsV,Option.some.injEq] at hes; rw[← hes]; simp
  have hu:∃a n cap,ux=.slice a n cap:=by cases hd <;> exact⟨_,_,_,rfl⟩
  obtain⟨a,n,cap,rfl⟩:=hu
  have hn:n=els.length∧els.length≤cap:=by cases hd <;> simp_all
  obtain⟨c,_,_,_,r1,r2,_⟩:=data els hd hlen (h.1.imp (by omega) id) cap (by omega) (fun a' n' cap' he=>by cases he; exact⟨Nat.le_refl _,.inl ⟨hmn rfl,rfl⟩⟩)
  exact⟨_,c,r1,.d r2,h.2⟩
 ·rename_i els
  have hd:RepD (Own σ s) w (.sl els) ux:=toD_spec hx rfl
  have hlen:es.length=els.length:=by simp only[elsV,Option.some.injEq] at hes; rw[← hes]; simp
  have hu:∃a n cap,ux=.slice a n cap:=by cases hd <;> exact⟨_,_,_,rfl⟩
  obtain⟨a,n,cap,rfl⟩:=hu
  have hn:n=els.length∧els.length≤cap:=by cases hd <;> simp_all
  have hcl:cap=els.length:=by
   cases hx with | fu _=>rfl
  obtain⟨c,a',cap',hq,r1,r2,r3⟩:=data els hd hlen (h.1.imp (by omega) id) cap (by omega) (fun a' n' cap' he=>by cases he; exact⟨Nat.le_refl _,.inl ⟨hmn rfl,rfl⟩⟩)
  cases els with
  | nil =>
   have hL:L=0:=by simp only[List.length_nil] at hlen; omega
   have hH:H=0:=by simp only[List.length_nil] at hlen; omega
   subst hL; subst hH; subst hcl
   refine⟨_,c,r1,?_,h.2⟩
   rw[r3] at r2 ⊢
   exact .fu (els:=[]) r2
  | cons x xs=>exact⟨_,c,r1,.d r2,h.2⟩
 ·rename_i els m
  obtain⟨h1,h2,h3,h⟩:=h
  have hd:RepD (Own σ s) w (.sl els) ux:=toD_spec hx rfl
  have hlen:es.length=els.length:=by simp only[elsV,Option.some.injEq] at hes; rw[← hes]; simp
  obtain⟨cm,hcm,hrm⟩:=hm m rfl
  obtain⟨km,rfl⟩:=intV_spec hrm h2
  have hhne:uh≠none:=by
   cases hi with
   | none=>simp at h1
   | some v=>obtain⟨c,rfl,_⟩:=hh v rfl; simp
  have hu:∃a n cap,ux=.slice a n cap:=by cases hd <;> exact⟨_,_,_,rfl⟩
  obtain⟨a,n,cap,rfl⟩:=hu
  have hn:n=els.length∧els.length≤cap:=by cases hd <;> simp_all
  obtain⟨c,a',cap',_,r1,r2,r3⟩:=data els hd hlen (h3.imp (by omega) id) H (Nat.le_refl _) (fun a' n' cap' he=>by cases he; exact⟨by omega,.inr ⟨hhne,km,hcm⟩⟩)
  refine⟨_,c,r1,?_,h⟩
  have hl':((els.drop L).take (H - L)).length=H - L:=by simp; omega
  rw[r3] at r2 ⊢
  have:RepV σ s w (.fu ((els.drop L).take (H - L))) (.slice (if H=L then a' else a'.map (·.add (L * z))) ((els.drop L).take (H - L)).length ((els.drop L).take (H - L)).length):=.fu (by rw[hl']; exact r2)
  rw[hl'] at this
  exact this
 ·rename_i oid g lo' n
  obtain⟨o,ho,hg,hz',hK⟩:=atG_spec h
  clear h
  cases hx with | so o' ho' hg' hu' hk=>?_
  rw[ho] at ho'; cases ho'
  have hn:es.length=n:=by
   simp only[elsV,ho,hg] at hes
   split at hes
   ·simp only[Option.some.injEq] at hes; rw[← hes]; simp; omega
   ·cases hes
  rcases hk hg with ⟨hs0,⟨aa,rfl⟩,rfl,rfl⟩ | ⟨b,bs,cp,E,arr,hs1,hhp,rfl,hcp,hfit⟩
  ·obtain rfl:L=0:=by omega
   obtain rfl:H=0:=by omega
   have hrun:=run_slice (P:=P) e1 e2 (a:=aa) (n:=0) (cap:=0) (lo:=ul) (hi':=uh) (mx:=um) (l:=0) (h:=0) (m:=0) hl2 (hh1.imp (fun h=>⟨h.1,rfl⟩) id) (.inl ⟨hmn rfl,rfl⟩) (by omega) (by omega) (by omega) w
   rw[if_pos (.inl rfl)] at hK
   refine⟨_,_,hrun,?_,hK⟩
   exact .so o ho hg' ⟨_,_,rfl⟩ (fun _=>.inl ⟨hs0,⟨aa,by simp⟩,rfl,rfl⟩)
  ·have hrun:=run_slice (P:=P) e1 e2 (a:=some ⟨b,bs + lo' * o.sz,none⟩) (n:=n) (cap:=cp) (lo:=ul) (hi':=uh) (mx:=um) (l:=L) (h:=H) (m:=cp) hl2 (hh1.imp (fun h=>⟨h.1,by omega⟩) id) (.inl ⟨hmn rfl,rfl⟩) (by omega) (by omega) (by omega) w
   by_cases hlt:(L:Int)=0∨(L:Int) < (H:Int)
   case neg =>
    rw[if_neg hlt] at hK
    obtain rfl:H=L:=by omega
    refine⟨_,_,hrun,.d ?_,hK⟩
    have hsome:∃a',(if cp=H then some (⟨b,bs + lo' * o.sz,none⟩:Addr) else (some (⟨b,bs + lo' * o.sz,none⟩:Addr)).map (·.add (H * ti.size)))=some a':=by split <;> exact⟨_,rfl⟩
    obtain⟨a',ha'⟩:=hsome
    rw[ha',Nat.sub_self]
    exact RepD.sl [] a' _ 0 (fun _ _=>undef) (by simp) (by simp) (by simp) (by simp) (by simp)
   rw[if_pos hlt] at hK
   refine⟨_,_,hrun,?_,hK⟩
   refine .so o ho hg' ⟨_,_,rfl⟩ (fun _=>.inr ⟨b,bs,cp - L,E,arr,hs1,hhp,?_,by omega,?_⟩)
   ·rcases hlt with h0 | h0
    ·obtain rfl:L=0:=by omega
     simp [Addr.add]
    ·rw[if_neg (by omega)]
     simp only[Option.map_some]
     rw[addr_add rfl,e3,hz',Nat.add_mul]
     simp [Nat.add_assoc]
   ·rw[show lo' + L + (cp - L)=lo' + cp by omega]; exact hfit
 ·exact h.elim
def capWp (P:Program) (t:TypeId) (x:V) (K:V→Prop):Prop :=
 match P.underlying t with
 | some (.slice _)=>match x with
  | .fu els=>K (.d (.sc (.int .i64 els.length)))
  | _=>False
 | _=>False
theorem cap_sound {P:Program} {t ty:TypeId} {x:V} {ux:Value} {σ:Gh} {s:List Obj} {w:World} {K:V→Prop} (hx:RepV σ s w x ux) (h:capWp P t x K) :
  ∃v c,(Builtin.cap_ #[t] ty #[ux]).run P w=.ok c w∧RepV σ s w v c∧K v:=by
 unfold capWp at h
 split at h
 ·rename_i e hu
  split at h
  ·rename_i els
   cases hx with | fu _=>?_
   exact⟨_,.int .i64 els.length,by simp [Builtin.cap_,run_underlying hu,goInt],.d (.sc _ rfl),h⟩
  ·exact h.elim
 ·exact h.elim
theorem mp_spec {σ:Gh} {s:List Obj} {w:World} (hI:Inv σ s w) {id g:Nat} {u:Value} {o:Obj} (hm:RepV σ s w (.mp id g) u) (ho:s[id]?=some o) (hg:o.g=g) :
  ∃b es c,σ id=some (b,0)∧w.heap[b]?=some (.map es c)∧o.els=mapEls es∧u=.map (some b):=by
 cases hm with
 | mp o' ho' hg' hu hk =>
  rw[ho] at ho'; cases ho'
  obtain⟨b,h1,hM,h2⟩:=hk hg
  rcases hI.content _ o ho with (⟨h3,_⟩ | ⟨b',es,c,h3,h4,h5⟩) | ⟨b',base,arr,E,h3,h4,_⟩
  ·rw[h1] at h3; cases h3
  ·rw[h1] at h3; cases h3
   exact⟨b,es,c,h1,h4,h5,h2⟩
  ·rw[h1] at h3; cases h3
   exact(IsC.notM ⟨arr,E,h4⟩ hM).elim
def lenWp (P:Program) (t:TypeId) (x:V) (s:List Obj) (K:V→Prop):Prop :=
 match P.underlying t with
 | some (.slice _)=>match x with
  | .d (.sl els)=>K (.d (.sc (.int .i64 els.length)))
  | .fu els=>K (.d (.sc (.int .i64 els.length)))
  | .so _ _ _ n=>K (.d (.sc (.int .i64 n)))
  | _=>False
 | some .string=>match x with
  | .d (.sc (.string b))=>K (.d (.sc (.int .i64 b.size)))
  | _=>False
 | some (.map _ _)=>match x with
  | .mp id g=>atG s id g fun o=>K (.d (.sc (.int .i64 o.els.length)))
  | _=>False
 | _=>False
theorem len_sound {P:Program} {t ty:TypeId} {x:V} {ux:Value} {σ:Gh} {s:List Obj} {w:World} {K:V→Prop} (hI:Inv σ s w) (hx:RepV σ s w x ux) (h:lenWp P t x s K) :
  ∃v c,(Builtin.len_ #[t] ty #[ux]).run P w=.ok c w∧RepV σ s w v c∧K v:=by
 unfold lenWp at h
 split at h
 ·rename_i e hu
  have fin:∀(a:Option Addr) (n cap:Nat),ux=.slice a n cap→K (.d (.sc (.int .i64 n)))→∃v c,(Builtin.len_ #[t] ty #[ux]).run P w=.ok c w∧RepV σ s w v c∧K v:=by
   rintro a n cap rfl hk
   exact⟨_,.int .i64 n,by simp [Builtin.len_,run_underlying hu,goInt],.d (.sc _ rfl),hk⟩
  split at h
  ·have hd:=toD_spec hx rfl
   cases hd <;> exact fin _ _ _ rfl h
  ·have hd:=toD_spec hx rfl
   cases hd <;> exact fin _ _ _ rfl h
  ·cases hx with | so o' ho' hg' hu' hk=>?_
   obtain⟨aa,cp,rfl⟩:=hu'
   exact fin _ _ _ rfl h
  ·exact h.elim
 ·rename_i hu
  split at h
  ·cases hx with | d hx=>?_
   cases hx with | sc _ _=>?_
   exact⟨_,_,by simp [Builtin.len_,run_underlying hu,goInt],.d (.sc _ rfl),h⟩
  ·exact h.elim
 ·rename_i hu
  split at h
  ·obtain⟨o,ho,hg,h⟩:=atG_spec h
   obtain⟨b,es,c,h1,h2,h3,rfl⟩:=mp_spec hI hx ho hg
   have hl:o.els.length=es.size:=by rw[h3]; simp [mapEls]
   rw[hl] at h
   exact⟨_,_,by simp [Builtin.len_,run_underlying hu,goInt,MapKept.run_getObj_map h2],.d (.sc _ rfl),h⟩
  ·exact h.elim
 ·exact h.elim
open Go.ChangeMaps (setBlock)
def kInt:V→Option Value
 | .d (.sc (.int k n))=>some (.int k n)
 | _=>none
def kVal:V→Option Value
 | .ag l=>(l.mapM kInt).map fun us=>.agg us.toArray
 | _=>none
theorem kInt_spec {σ:Gh} {s:List Obj} {w:World} {v:V} {u c:Value} (h:RepV σ s w v u) (hk:kInt v=some c):u=c:=by
 unfold kInt at hk
 split at hk
 ·cases hk
  cases h with | d h=>?_
  cases h with | sc _ _=>?_
  rfl
 ·cases hk
theorem kVals_spec {σ:Gh} {s:List Obj} {w:World}:∀(l:List V) (us:List Value) (f:Nat→Value),l.mapM kInt=some us→(∀i x,l[i]?=some x→RepV σ s w x (f i))→us.length=l.length∧∀i,i < l.length→us[i]?=some (f i)
 | [],us,f,h,_=>by
  simp at h
  subst h
  exact⟨rfl,fun i hi=>by simp at hi⟩
 | x::l,us,f,h,hr=>by
  rw[List.mapM_cons] at h
  cases hx:kInt x with
  | none=>rw[hx] at h; cases h
  | some c =>
  rw[hx] at h
  cases hl:l.mapM kInt with
  | none=>rw[hl] at h; cases h
  | some us' =>
  rw[hl] at h
  cases h
  obtain⟨h1,h2⟩:=kVals_spec l us' (fun i=>f (i + 1)) hl (fun i y hy=>hr (i + 1) y (by simpa using hy))
  refine⟨by simp [h1],fun i hi=>?_⟩
  cases i with
  | zero=>simp [kInt_spec (hr 0 x rfl) hx]
  | succ i=>simpa using h2 i (by simpa using hi)
theorem kVal_spec {σ:Gh} {s:List Obj} {w:World} {v:V} {u c:Value} (h:RepV σ s w v u) (hk:kVal v=some c):u=c:=by
 unfold kVal at hk
 split at hk
 case h_2=>cases hk
 rename_i l
 obtain⟨us,hus,rfl⟩:=Option.map_eq_some_iff.1 hk
 cases h with | @ag _ arr h1 _ h3=>?_
 obtain⟨q1,q2⟩:=kVals_spec l us (fun i=>arr.getD i undef) hus h3
 congr 1
 apply Array.ext
 ·simp [h1,q1]
 ·intro i hi hi2
  have:=q2 i (by omega)
  simp only[Array.getD_eq_getD_getElem?,Array.getElem?_eq_getElem hi,Option.getD_some] at this
  have h4:us[i]?=some us.toArray[i]:=by simp
  rw[h4] at this
  exact(Option.some.inj this).symm
def rowsK (L:List (Value × Value)):List (List V):=L.map fun p=>[V.d (.sc p.1),V.d (.sc p.2)]
def KeyOk (P:Program) (key:TypeId) (v:Value):Prop:=∃l,keyOf P key v=some l
def ValOk (v:Value):Prop:=v=.agg #[]∨v.oneCell'=true
def vV:Value→V
 | .agg #[]=>.ag []
 | v=>.d (.sc v)
def FindK (L:List (Value × Value)) (k:Value):Option Value→Prop
 | none=>∀p∈L,p.1≠k
 | some v=>(k,v)∈L∧∀p∈L,p.1=k→p.2=v
def ZeroE (P:Program) (elem:TypeId) (z:Value):Prop:=∃ti,P.info? elem=some ti∧ti.zero=some z
theorem vV_rep {σ:Gh} {s:List Obj} {w:World} {v:Value} (h:ValOk v):RepV σ s w (vV v) v:=by
 rcases h with rfl | h
 ·exact .ag rfl (fun i x hx=>by simp at hx) (fun i x hx=>by simp at hx)
 ·cases v with
  | agg _=>cases h
  | _=>exact .d (.sc _ h)
theorem rowsK_inj:∀{L L':List (Value × Value)},rowsK L=rowsK L'→L=L'
 | [],[],_=>rfl
 | [],_::_,h=>by cases h
 | _::_,[],h=>by cases h
 |(a,b)::L,(c,d)::L',h=>by
  simp only[rowsK,List.map_cons,List.cons.injEq,V.d.injEq,D.sc.injEq,and_true] at h
  obtain⟨⟨rfl,rfl⟩,h⟩:=h
  rw[rowsK_inj (L:=L) (L':=L') h]
theorem rowsK_els {L:List (Value × Value)} {es:Array MapEntry} (h:rowsK L=mapEls es):L=es.toList.map fun e=>(e.key,e.val):=by
 apply rowsK_inj
 rw[h]
 simp [rowsK,mapEls]
def lookKWp (P:Program) (t:TypeId) (s:List Obj) (m k:V) (K:V→Prop):Prop :=
 match P.underlying t with
 | some (.map key elem)=>match m with
  | .mp id g=>match kVal k with
   | some kv=>(WideMaps.KeyLaw P key∧KeyOk P key kv)∧atG s id g fun o=>∃L r z,o.els=rowsK L∧(∀p∈L,KeyOk P key p.1∧ValOk p.2)∧FindK L kv r∧(ZeroE P elem z∧ValOk z)∧K (.tu [vV (r.getD z),.d (.sc (.bool r.isSome))])
   | none=>False
  | _=>False
 | _=>False
theorem lookK_sound {P:Program} {t:TypeId} {σ:Gh} {s:List Obj} {w:World} {m k:V} {um uk:Value} {K:V→Prop} (hI:Inv σ s w) (hm:RepV σ s w m um) (hk:RepV σ s w k uk) (h:lookKWp P t s m k K) :
  ∃v c,(Instr.lookup t um uk true).run P w=.ok c w∧RepV σ s w v c∧K v:=by
 unfold lookKWp at h
 split at h
 case h_2=>exact h.elim
 rename_i key elem t1
 split at h
 case h_2=>exact h.elim
 rename_i id g
 split at h
 case h_2=>exact h.elim
 rename_i kv hkv
 obtain⟨⟨hKL,lk,hlk⟩,h⟩:=h
 obtain⟨o,ho,hg,L,r,z,hL,hok,hf,⟨⟨ti,z1,z2⟩,hz⟩,h9⟩:=atG_spec h
 obtain⟨b,es,c,h1,h2,h3,rfl⟩:=mp_spec hI hm ho hg
 obtain rfl:=kVal_spec hk hkv
 have hLe:=rowsK_els (hL.symm.trans h3)
 have hchk:∀em,(Instr.checkKey em 10000 key uk).run P w=.ok () w:=fun em=>hKL.check w em hlk
 have hkeys:∀e∈es.toList,∃l,keyOf P key e.key=some l:=fun e he=>(hok (e.key,e.val) (by rw[hLe]; exact List.mem_map.2 ⟨e,he,rfl⟩)).1
 have hval:ValOk (r.getD z):=by
  cases r with
  | none=>exact hz
  | some v=>exact(hok _ hf.1).2
 refine⟨_,.tuple #[r.getD z,.bool r.isSome],?_,.tu rfl (fun i x hx=>?_),h9⟩
 ·rcases hKL.find w hlk es.toList hkeys with ⟨f1,f2⟩ | ⟨j,e,f1,f2,f3⟩
  ·have hr:r=none:=by
    cases r with
    | none=>rfl
    | some v =>
     obtain⟨q1,_⟩:=hf
     rw[hLe] at q1
     obtain⟨e,he,hee⟩:=List.mem_map.1 q1
     exact absurd (congrArg Prod.fst hee) (f2 e he)
   subst hr
   simp [Instr.lookup,run_underlying t1,MapKept.run_getObj_map h2,hchk,f1,zeroValue,typeInfo,z1,z2]
  ·have hmem:=List.mem_of_getElem? f2
   have hin:(e.key,e.val)∈L:=by rw[hLe]; exact List.mem_map.2 ⟨e,hmem,rfl⟩
   have hr:r=some e.val:=by
    cases r with
    | none=>exact absurd f3 (hf _ hin)
    | some v=>exact congrArg some (hf.2 _ hin f3).symm
   subst hr
   simp [Instr.lookup,run_underlying t1,MapKept.run_getObj_map h2,hchk,f1]
 ·match i with
  | 0=>simp at hx; subst hx; exact vV_rep hval
  | 1=>simp at hx; subst hx; exact .d (.sc _ rfl)
  | i + 2=>simp at hx
def xVal:V→Option Value
 | .d (.sc v)=>some v
 | .ag []=>some (.agg #[])
 | _=>none
theorem xVal_spec {σ:Gh} {s:List Obj} {w:World} {v:V} {u c:Value} (h:RepV σ s w v u) (hk:xVal v=some c):u=c:=by
 unfold xVal at hk
 split at hk
 ·cases hk
  cases h with | d h=>?_
  cases h with | sc _ _=>?_
  rfl
 ·cases hk
  cases h with | @ag _ arr h1 _ _=>?_
  have:arr=#[]:=Array.eq_empty_of_size_eq_zero (by simpa using h1)
  rw[this]
 ·cases hk
def updKWp (P:Program) (t:TypeId) (s:List Obj) (m k x:V) (K:List Obj→Prop):Prop :=
 match P.underlying t with
 | some (.map key _)=>match m with
  | .mp id g=>match kVal k with
   | some kv=>match xVal x with
    | some xv=>(WideMaps.KeyLaw P key∧KeyOk P key kv)∧atG s id g fun o=>o.live=true∧∃L r,(o.els=rowsK L∧(∀p∈L,KeyOk P key p.1)∧FindK L kv r)∧match r with
     | none=>K (s.set id { o with els:=o.els++[[.d (.sc kv),.d (.sc xv)]] })
     | some v=>v=xv∧K s
    | none=>False
   | none=>False
  | _=>False
 | _=>False
theorem updK_sound {P:Program} {t:TypeId} {σ:Gh} {s:List Obj} {w:World} {m k x:V} {um uk ux:Value} {K:List Obj→Prop} (hI:Inv σ s w) (hm:RepV σ s w m um) (hk:RepV σ s w k uk) (hx:RepV σ s w x ux) (h:updKWp P t s m k x K) :
  ∃s' w',(Instr.mapUpdate t um uk ux).run P w=.ok () w'∧Evolve σ s w σ s' w'∧Inv σ s' w'∧K s':=by
 unfold updKWp at h
 split at h
 case h_2=>exact h.elim
 rename_i key elem t1
 split at h
 case h_2=>exact h.elim
 rename_i id g
 split at h
 case h_2=>exact h.elim
 rename_i kv hkv
 split at h
 case h_2=>exact h.elim
 rename_i xv hxv
 obtain⟨⟨hKL,lk,hlk⟩,h⟩:=h
 obtain⟨o,ho,hg,hlive,L,r,⟨hL,hok,hf⟩,h9⟩:=atG_spec h
 obtain⟨b,es,c,h1,h2,h3,rfl⟩:=mp_spec hI hm ho hg
 obtain rfl:=kVal_spec hk hkv
 obtain rfl:=xVal_spec hx hxv
 have hLe:=rowsK_els (hL.symm.trans h3)
 have hkeys:∀e∈es.toList,∃l,keyOf P key e.key=some l:=fun e he=>hok (e.key,e.val) (by rw[hLe]; exact List.mem_map.2 ⟨e,he,rfl⟩)
 cases r with
 | some v =>
  obtain⟨rfl,h9⟩:=h9
  rcases hKL.find w hlk es.toList hkeys with ⟨_,f2⟩ | ⟨j,e,f1,f2,f3⟩
  ·obtain⟨q1,_⟩:=hf
   rw[hLe] at q1
   obtain⟨e,he,hee⟩:=List.mem_map.1 q1
   exact absurd (congrArg Prod.fst hee) (f2 e he)
  ·have hin:(e.key,e.val)∈L:=by rw[hLe]; exact List.mem_map.2 ⟨e,List.mem_of_getElem? f2,rfl⟩
   have hv:=hf.2 _ hin f3
   simp only at hv
   have hmod:(es.modify j fun e=>{ e with key:=uk,val:=v })=es:=by
    apply Array.ext
    ·simp
    ·intro i hi hi2
     rw[Array.getElem_modify]
     split
     ·rename_i hji
      subst hji
      have:es[j]=e:=by
       have:=f2
       rw[Array.getElem?_toList,Array.getElem?_eq_getElem hi2] at this
       exact Option.some.inj this
      rw[this,← f3,← hv]
     ·rfl
   have hkey:(((es[j]?).map (·.key)).getD uk)=uk:=by
    rw[Array.getElem?_toList] at f2
    rw[f2]
    exact f3
   have hset:(setObj b (.map es c)).run P w=.ok () w:=by
    have h0:setBlock w b (.map es c)=w:=by
     have h3:w.heap.setIfInBounds b (.map es c)=w.heap:=by
      apply Array.ext
      ·simp
      ·intro i hi hi2
       by_cases hib:b=i
       ·subst hib
        rw[Array.getElem?_eq_getElem hi2] at h2
        simp [Option.some.inj h2]
       ·exact Array.getElem_setIfInBounds_ne hi2 hib
     unfold setBlock
     rw[h3]
    have h4:(setObj b (.map es c)).run P w=.ok () (setBlock w b (.map es c)):=by
     simp [setObj,Sem.run,h2,setBlock]
    rw[h4,h0]
   have hrun:(Instr.mapUpdate t (.map (some b)) uk v).run P w=.ok () w:=by
    simp [Instr.mapUpdate,run_underlying t1,MapKept.run_getObj_map h2,hKL.check w _ hlk,f1,hkey,hKL.stays w hlk,hmod,hset]
   exact⟨s,w,hrun,Evolve.refl _ _ _,hI,h9⟩
 | none =>
 have hfn:(Instr.findKey key uk es.toList).run P w=.ok none w:=by
  rcases hKL.find w hlk es.toList hkeys with ⟨f1,_⟩ | ⟨j,e,_,f2,f3⟩
  ·exact f1
  ·exact absurd f3 (hf (e.key,e.val) (by rw[hLe]; exact List.mem_map.2 ⟨e,List.mem_of_getElem? f2,rfl⟩))
 have hset:(setObj b (.map (es.push { key:=uk,val:=ux,born:=c }) (c + 1))).run P w=.ok () (setBlock w b (.map (es.push { key:=uk,val:=ux,born:=c }) (c + 1))):=by
  simp [setObj,Sem.run,h2,setBlock]
 have hrun:(Instr.mapUpdate t (.map (some b)) uk ux).run P w=.ok () (setBlock w b (.map (es.push { key:=uk,val:=ux,born:=c }) (c + 1))):=by
  simp [Instr.mapUpdate,run_underlying t1,MapKept.run_getObj_map h2,hKL.check w _ hlk,hfn,hKL.stays w hlk,hset]
 have:=set_obj (p:=σ id) (w':=setBlock w b (.map (es.push { key:=uk,val:=ux,born:=c }) (c + 1))) (o':={ o with els:=o.els++[[.d (.sc uk),.d (.sc ux)]] }) hI ho hlive rfl rfl rfl (by simp [setBlock])
  (fun b1 _ hne=>Go.ChangeMaps.heap_setBlock_other h2 _ (fun e=>hne 0 (by rw[h1,e])))
  (fun b1 base1 arr E he hh=>by
   rw[h1] at he; cases he
   rw[h2] at hh; cases hh)
  (fun b1 base1 he hm=>by
   rw[h1] at he; cases he
   exact⟨_,_,Go.ChangeMaps.heap_setBlock_same h2 _⟩)
  (Nat.le_refl _) (fun _=>⟨rfl,rfl⟩) (fun b1 base1 he=>.inl ⟨base1,he⟩)
  (fun hE=>.inl (.inr ⟨b,_,_,h1,Go.ChangeMaps.heap_setBlock_same h2 _,by simp [h3,mapEls]⟩))
 rw[updG_id] at this
 exact⟨_,_,hrun,this.1,this.2,h9⟩
open Go.ChangeMaps (setBlock)
def mapL (k:IntKind):List (List V)→Option (List (Int × Bool))
 | []=>some []
 | [.d (.sc (.int k' n)),.d (.sc (.bool b))]::rest=>if k'=k then (mapL k rest).map ((n,b)::·) else none
 | _::_=>none
theorem mapL_inv {k:IntKind} {a v:Value} {rest:List (List V)} {l:List (Int × Bool)} (h:mapL k ([V.d (.sc a),V.d (.sc v)]::rest)=some l):∃n b l',a=.int k n∧v=.bool b∧l=(n,b)::l'∧mapL k rest=some l':=by
 unfold mapL at h
 split at h
 ·rename_i he; cases he
 ·rename_i k' n b rest' he
  simp only[List.cons.injEq,V.d.injEq,D.sc.injEq,and_true] at he
  obtain⟨⟨rfl,rfl⟩,rfl⟩:=he
  split at h
  ·rename_i hk
   subst hk
   obtain⟨l',h1,h2⟩:=Option.map_eq_some_iff.1 h
   exact⟨n,b,l',rfl,rfl,h2.symm,h1⟩
  ·cases h
 ·cases h
def mapG (l:List (Int × Bool)) (n:Int):Option Bool:=(l.find? fun p=>n == p.1).map (·.2)
def mapTy (P:Program) (t:TypeId):Option IntKind :=
 match P.underlying t with
 | some (.map key elem)=>match P.underlying key,(P.info? elem).bind (·.zero) with
  | some (.int k),some (.bool false)=>some k
  | _,_=>none
 | _=>none
theorem mapTy_spec {P:Program} {t:TypeId} {k:IntKind} (h:mapTy P t=some k):∃key elem ti,P.underlying t=some (.map key elem)∧P.underlying key=some (.int k)∧P.info? elem=some ti∧ti.zero=some (.bool false):=by
 unfold mapTy at h
 split at h
 ·rename_i key elem hu
  split at h
  ·rename_i k' h1 h2
   cases h
   obtain⟨ti,h3,h4⟩:=Option.bind_eq_some_iff.1 h2
   exact⟨key,elem,ti,hu,h1,h3,h4⟩
  ·cases h
 ·cases h
theorem findNow_map {k k0:IntKind} {n:Int}:∀(es:List MapEntry) (l:List (Int × Bool)) (i:Nat),mapL k (es.map fun e=>[V.d (.sc e.key),V.d (.sc e.val)])=some l →
  (mapG l n=none∧Instr.findNow (.int k0) (.int k n) es i=some none)∨∃b j,mapG l n=some b∧Instr.findNow (.int k0) (.int k n) es i=some (some (j,.bool b))
 | [],l,i,h=>by
  simp only[List.map_nil,mapL,Option.some.injEq] at h
  subst h
  exact .inl ⟨rfl,rfl⟩
 | e::es,l,i,h=>by
  rw[List.map_cons] at h
  obtain⟨m,b,l',h1,h2,rfl,h4⟩:=mapL_inv h
  unfold Instr.findNow
  rw[h1]
  simp only[Instr.sameNow,if_true]
  by_cases hnm:n=m
  ·subst hnm
   refine .inr ⟨b,i,by simp [mapG],?_⟩
   simp [h2]
  ·have hb:(n == m)=false:=by simpa using hnm
   rw[hb]
   simp only
   have hg:mapG ((m,b)::l') n=mapG l' n:=by simp [mapG,hb]
   rw[hg]
   exact findNow_map es l' (i + 1) h4
theorem run_checkKey {P:Program} {t:TypeId} {k:IntKind} (hu:P.underlying t=some (.int k)) (b:Bool) (n:Int) (w:World):(Instr.checkKey b 10000 t (.int k n)).run P w=.ok () w:=by
 have h:∀d:Nat,(Instr.checkKey b (d + 1) t (.int k n)).run P w=.ok () w:=fun d=>by simp [Instr.checkKey,run_underlying hu]
 exact h 9999
def mapFL (k:IntKind):List (List V)→Option (List (Int × Fn))
 | []=>some []
 | [.d (.sc (.int k' n)),.d (.sc (.func fn ⟨[]⟩ ⟨[]⟩))]::rest=>if k'=k then (mapFL k rest).map ((n,fn)::·) else none
 | _::_=>none
theorem mapFL_inv {k:IntKind} {a v:Value} {rest:List (List V)} {l:List (Int × Fn)} (h:mapFL k ([V.d (.sc a),V.d (.sc v)]::rest)=some l):∃n fn l',a=.int k n∧v=.func fn #[] #[]∧l=(n,fn)::l'∧mapFL k rest=some l':=by
 unfold mapFL at h
 split at h
 ·rename_i he; cases he
 ·rename_i k' n b rest' he
  simp only[List.cons.injEq,V.d.injEq,D.sc.injEq,and_true] at he
  obtain⟨⟨rfl,rfl⟩,rfl⟩:=he
  split at h
  ·rename_i hk
   subst hk
   obtain⟨l',h1,h2⟩:=Option.map_eq_some_iff.1 h
   exact⟨n,b,l',rfl,rfl,h2.symm,h1⟩
  ·cases h
 ·cases h
def mapFG (l:List (Int × Fn)) (n:Int):Option Fn:=(l.find? fun p=>n == p.1).map (·.2)
def mapFTy (P:Program) (t:TypeId):Option IntKind :=
 match P.underlying t with
 | some (.map key elem)=>match P.underlying key,(P.info? elem).bind (·.zero) with
  | some (.int k),some .nilFunc=>some k
  | _,_=>none
 | _=>none
theorem mapFTy_spec {P:Program} {t:TypeId} {k:IntKind} (h:mapFTy P t=some k):∃key elem,P.underlying t=some (.map key elem)∧P.underlying key=some (.int k):=by
 unfold mapFTy at h
 split at h
 ·rename_i key elem hu
  split at h
  ·rename_i k' h1 h2
   cases h
   exact⟨key,elem,hu,h1⟩
  ·cases h
 ·cases h
theorem findNow_mapF {k k0:IntKind} {n:Int}:∀(es:List MapEntry) (l:List (Int × Fn)) (i:Nat),mapFL k (es.map fun e=>[V.d (.sc e.key),V.d (.sc e.val)])=some l →
  (mapFG l n=none∧Instr.findNow (.int k0) (.int k n) es i=some none)∨∃b j,mapFG l n=some b∧Instr.findNow (.int k0) (.int k n) es i=some (some (j,.func b #[] #[]))
 | [],l,i,h=>by
  simp only[List.map_nil,mapFL,Option.some.injEq] at h
  subst h
  exact .inl ⟨rfl,rfl⟩
 | e::es,l,i,h=>by
  rw[List.map_cons] at h
  obtain⟨m,b,l',h1,h2,rfl,h4⟩:=mapFL_inv h
  unfold Instr.findNow
  rw[h1]
  simp only[Instr.sameNow,if_true]
  by_cases hnm:n=m
  ·subst hnm
   refine .inr ⟨b,i,by simp [mapFG],?_⟩
   simp [h2]
  ·have hb:(n == m)=false:=by simpa using hnm
   rw[hb]
   simp only
   have hg:mapFG ((m,b)::l') n=mapFG l' n:=by simp [mapFG,hb]
   rw[hg]
   exact findNow_mapF es l' (i + 1) h4
def lookFWp (P:Program) (t:TypeId) (s:List Obj) (m k:V) (K:V→Prop):Prop :=
 match mapFTy P t with
 | none=>False
 | some ik=>match m with
  | .mp id g=>match k with
   | .d (.sc (.int k' n))=>atG s id g fun o=>k'=ik∧match (mapFL ik o.els).bind fun l=>mapFG l n with
    | none=>False
    | some fn=>K (.cl fn [] [])
   | _=>False
  | _=>False
theorem lookF_sound {P:Program} {t:TypeId} {σ:Gh} {s:List Obj} {w:World} {m k:V} {um uk:Value} {K:V→Prop} (hI:Inv σ s w) (hm:RepV σ s w m um) (hk:RepV σ s w k uk) (h:lookFWp P t s m k K) :
  ∃v c,(Instr.lookup t um uk false).run P w=.ok c w∧RepV σ s w v c∧K v:=by
 unfold lookFWp at h
 split at h
 ·exact h.elim
 rename_i ik hik
 obtain⟨key,elem,t1,t2⟩:=mapFTy_spec hik
 split at h
 case h_2=>exact h.elim
 rename_i id g
 split at h
 case h_2=>exact h.elim
 rename_i k' n
 obtain⟨o,ho,hg,rfl,h⟩:=atG_spec h
 split at h
 ·exact h.elim
 rename_i fn hfn
 obtain⟨l,hl,hgn⟩:=Option.bind_eq_some_iff.1 hfn
 obtain⟨b,es,c,h1,h2,h3,rfl⟩:=mp_spec hI hm ho hg
 cases hk with | d hk=>?_
 cases hk with | sc _ _=>?_
 rw[h3] at hl
 refine⟨_,.func fn #[] #[],?_,.cl rfl (fun i x hx=>by simp at hx) rfl (fun i x hx=>by simp at hx),h⟩
 rcases findNow_mapF (k0:=k') (n:=n) es.toList l 0 hl with ⟨g1,g2⟩ | ⟨b',j,g1,g2⟩
 ·rw[hgn] at g1; cases g1
 ·rw[hgn] at g1; cases g1
  simp [Instr.lookup,run_underlying t1,run_underlying t2,MapKept.run_getObj_map h2,run_checkKey t2,Instr.findKey,g2]
def updFWp (P:Program) (t:TypeId) (s:List Obj) (m k x:V) (K:List Obj→Prop):Prop :=
 match mapFTy P t with
 | none=>updKWp P t s m k x K
 | some ik=>match m with
  | .mp id g=>match k with
   | .d (.sc (.int k' n))=>match x with
    | .cl fn [] []=>atG s id g fun o=>(o.live=true∧k'=ik)∧match mapFL ik o.els with
     | none=>False
     | some l=>mapFG l n=none∧K (s.set id { o with els:=o.els++[[.d (.sc (.int k' n)),.d (.sc (.func fn ⟨[]⟩ ⟨[]⟩))]] })
    | _=>False
   | _=>False
  | _=>False
theorem updF_sound {P:Program} {t:TypeId} {σ:Gh} {s:List Obj} {w:World} {m k x:V} {um uk ux:Value} {K:List Obj→Prop} (hI:Inv σ s w) (hm:RepV σ s w m um) (hk:RepV σ s w k uk) (hx:RepV σ s w x ux) (h:updFWp P t s m k x K) :
  ∃s' w',(Instr.mapUpdate t um uk ux).run P w=.ok () w'∧Evolve σ s w σ s' w'∧Inv σ s' w'∧K s':=by
 unfold updFWp at h
 split at h
 ·exact updK_sound hI hm hk hx h
 rename_i ik hik
 obtain⟨key,elem,t1,t2⟩:=mapFTy_spec hik
 split at h
 case h_2=>exact h.elim
 rename_i id g
 split at h
 case h_2=>exact h.elim
 rename_i k' n
 split at h
 case h_2=>exact h.elim
 rename_i fn
 obtain⟨o,ho,hg,⟨hlive,rfl⟩,h⟩:=atG_spec h
 split at h
 ·exact h.elim
 rename_i l hl
 obtain⟨hn,h⟩:=h
 obtain⟨b,es,c,h1,h2,h3,rfl⟩:=mp_spec hI hm ho hg
 cases hk with | d hk=>?_
 cases hk with | sc _ _=>?_
 cases hx with | @cl _ _ _ f' c' q1 _ q2 _=>?_
 obtain rfl:f'=#[]:=Array.eq_empty_of_size_eq_zero (by simpa using q1)
 obtain rfl:c'=#[]:=Array.eq_empty_of_size_eq_zero (by simpa using q2)
 rw[h3] at hl
 have hfn:Instr.findNow (.int k') (.int k' n) es.toList 0=some none:=by
  rcases findNow_mapF (k0:=k') (n:=n) es.toList l 0 hl with ⟨g1,g2⟩ | ⟨b',j,g1,g2⟩
  ·exact g2
  ·rw[hn] at g1; cases g1
 have hset:(setObj b (.map (es.push { key:=.int k' n,val:=.func fn #[] #[],born:=c }) (c + 1))).run P w=.ok () (setBlock w b (.map (es.push { key:=.int k' n,val:=.func fn #[] #[],born:=c }) (c + 1))):=by
  simp [setObj,Sem.run,h2,setBlock]
 have hrun:(Instr.mapUpdate t (.map (some b)) (.int k' n) (.func fn #[] #[])).run P w=.ok () (setBlock w b (.map (es.push { key:=.int k' n,val:=.func fn #[] #[],born:=c }) (c + 1))):=by
  simp [Instr.mapUpdate,run_underlying t1,run_underlying t2,MapKept.run_getObj_map h2,run_checkKey t2,Instr.findKey,hfn,hset]
 have:=set_obj (p:=σ id) (w':=setBlock w b (.map (es.push { key:=.int k' n,val:=.func fn #[] #[],born:=c }) (c + 1))) (o':={ o with els:=o.els++[[.d (.sc (.int k' n)),.d (.sc (.func fn ⟨[]⟩ ⟨[]⟩))]] }) hI ho hlive rfl rfl rfl (by simp [setBlock])
  (fun b1 _ hne=>Go.ChangeMaps.heap_setBlock_other h2 _ (fun e=>hne 0 (by rw[h1,e])))
  (fun b1 base1 arr E he hh=>by
   rw[h1] at he; cases he
   rw[h2] at hh; cases hh)
  (fun b1 base1 he hm=>by
   rw[h1] at he; cases he
   exact⟨_,_,Go.ChangeMaps.heap_setBlock_same h2 _⟩)
  (Nat.le_refl _) (fun _=>⟨rfl,rfl⟩) (fun b1 base1 he=>.inl ⟨base1,he⟩)
  (fun hE=>.inl (.inr ⟨b,_,_,h1,Go.ChangeMaps.heap_setBlock_same h2 _,by simp [h3,mapEls]⟩))
 rw[updG_id] at this
 exact⟨_,_,hrun,this.1,this.2,h⟩
def lookupWp (P:Program) (t:TypeId) (s:List Obj) (m k:V) (K:V→Prop):Prop :=
 match mapTy P t with
 | none=>lookFWp P t s m k K
 | some ik=>match m with
  | .mp id g=>match k with
   | .d (.sc (.int k' n))=>atG s id g fun o=>k'=ik∧match mapL ik o.els with
    | none=>False
    | some l=>K (.d (.sc (.bool ((mapG l n).getD false))))
   | _=>False
  | _=>False
theorem lookup_sound {P:Program} {t:TypeId} {σ:Gh} {s:List Obj} {w:World} {m k:V} {um uk:Value} {K:V→Prop} (hI:Inv σ s w) (hm:RepV σ s w m um) (hk:RepV σ s w k uk) (h:lookupWp P t s m k K) :
  ∃v c,(Instr.lookup t um uk false).run P w=.ok c w∧RepV σ s w v c∧K v:=by
 unfold lookupWp at h
 split at h
 ·exact lookF_sound hI hm hk h
 rename_i ik hik
 obtain⟨key,elem,ti,t1,t2,t3,t4⟩:=mapTy_spec hik
 split at h
 case h_2=>exact h.elim
 rename_i id g
 split at h
 case h_2=>exact h.elim
 rename_i k' n
 obtain⟨o,ho,hg,rfl,h⟩:=atG_spec h
 split at h
 ·exact h.elim
 rename_i l hl
 obtain⟨b,es,c,h1,h2,h3,rfl⟩:=mp_spec hI hm ho hg
 cases hk with | d hk=>?_
 cases hk with | sc _ _=>?_
 rw[h3] at hl
 refine⟨_,.bool ((mapG l n).getD false),?_,.d (.sc _ rfl),h⟩
 rcases findNow_map (k0:=k') (n:=n) es.toList l 0 hl with ⟨g1,g2⟩ | ⟨b',j,g1,g2⟩
 ·simp [Instr.lookup,run_underlying t1,run_underlying t2,MapKept.run_getObj_map h2,run_checkKey t2,Instr.findKey,g1,g2,zeroValue,typeInfo,t3,t4]
 ·simp [Instr.lookup,run_underlying t1,run_underlying t2,MapKept.run_getObj_map h2,run_checkKey t2,Instr.findKey,g1,g2]
def updWp (P:Program) (t:TypeId) (s:List Obj) (m k x:V) (K:List Obj→Prop):Prop :=
 match mapTy P t with
 | none=>updFWp P t s m k x K
 | some ik=>match m with
  | .mp id g=>match k with
   | .d (.sc (.int k' n))=>match x with
    | .d (.sc (.bool b))=>atG s id g fun o=>(o.live=true∧k'=ik)∧match mapL ik o.els with
     | none=>False
     | some l=>mapG l n=none∧K (s.set id { o with els:=o.els++[[.d (.sc (.int k' n)),.d (.sc (.bool b))]] })
    | _=>False
   | _=>False
  | _=>False
theorem upd_sound {P:Program} {t:TypeId} {σ:Gh} {s:List Obj} {w:World} {m k x:V} {um uk ux:Value} {K:List Obj→Prop} (hI:Inv σ s w) (hm:RepV σ s w m um) (hk:RepV σ s w k uk) (hx:RepV σ s w x ux) (h:updWp P t s m k x K) :
  ∃s' w',(Instr.mapUpdate t um uk ux).run P w=.ok () w'∧Evolve σ s w σ s' w'∧Inv σ s' w'∧K s':=by
 unfold updWp at h
 split at h
 ·exact updF_sound hI hm hk hx h
 rename_i ik hik
 obtain⟨key,elem,ti,t1,t2,t3,t4⟩:=mapTy_spec hik
 split at h
 case h_2=>exact h.elim
 rename_i id g
 split at h
 case h_2=>exact h.elim
 rename_i k' n
 split at h
 case h_2=>exact h.elim
 rename_i bv
 obtain⟨o,ho,hg,⟨hlive,rfl⟩,h⟩:=atG_spec h
 split at h
 ·exact h.elim
 rename_i l hl
 obtain⟨hn,h⟩:=h
 obtain⟨b,es,c,h1,h2,h3,rfl⟩:=mp_spec hI hm ho hg
 cases hk with | d hk=>?_
 cases hk with | sc _ _=>?_
 cases hx with | d hx=>?_
 cases hx with | sc _ _=>?_
 rw[h3] at hl
 have hfn:Instr.findNow (.int k') (.int k' n) es.toList 0=some none:=by
  rcases findNow_map (k0:=k') (n:=n) es.toList l 0 hl with ⟨g1,g2⟩ | ⟨b',j,g1,g2⟩
  ·exact g2
  ·rw[hn] at g1; cases g1
 have hset:(setObj b (.map (es.push { key:=.int k' n,val:=.bool bv,born:=c }) (c + 1))).run P w=.ok () (setBlock w b (.map (es.push { key:=.int k' n,val:=.bool bv,born:=c }) (c + 1))):=by
  simp [setObj,Sem.run,h2,setBlock]
 have hrun:(Instr.mapUpdate t (.map (some b)) (.int k' n) (.bool bv)).run P w=.ok () (setBlock w b (.map (es.push { key:=.int k' n,val:=.bool bv,born:=c }) (c + 1))):=by
  simp [Instr.mapUpdate,run_underlying t1,run_underlying t2,MapKept.run_getObj_map h2,run_checkKey t2,Instr.findKey,hfn,hset]
 have:=set_obj (p:=σ id) (w':=setBlock w b (.map (es.push { key:=.int k' n,val:=.bool bv,born:=c }) (c + 1))) (o':={ o with els:=o.els++[[.d (.sc (.int k' n)),.d (.sc (.bool bv))]] }) hI ho hlive rfl rfl rfl (by simp [setBlock])
  (fun b1 _ hne=>Go.ChangeMaps.heap_setBlock_other h2 _ (fun e=>hne 0 (by rw[h1,e])))
  (fun b1 base1 arr E he hh=>by
   rw[h1] at he; cases he
   rw[h2] at hh; cases hh)
  (fun b1 base1 he hm=>by
   rw[h1] at he; cases he
   exact⟨_,_,Go.ChangeMaps.heap_setBlock_same h2 _⟩)
  (Nat.le_refl _) (fun _=>⟨rfl,rfl⟩) (fun b1 base1 he=>.inl ⟨base1,he⟩)
  (fun hE=>.inl (.inr ⟨b,_,_,h1,Go.ChangeMaps.heap_setBlock_same h2 _,by simp [h3,mapEls]⟩))
 rw[updG_id] at this
 exact⟨_,_,hrun,this.1,this.2,h⟩
def makeMapWp (P:Program) (t:TypeId) (r:Option Operand) (s:List Obj) (K:V→List Obj→Prop):Prop :=
 r=none∧K (.mp s.length 0) (s++[⟨0,true,2,[]⟩])
theorem makeMap_sound {P:Program} {t:TypeId} {σ:Gh} {s:List Obj} {w:World} {r:Option Operand} {K:V→List Obj→Prop} (hI:Inv σ s w) (h:makeMapWp P t r s K) :
  ∃v c σ' s' w',(Instr.makeMap t none).run P w=.ok c w'∧Evolve σ s w σ' s' w'∧Inv σ' s' w'∧RepV σ' s' w' v c∧K v s':=by
 have:=push_obj (p:=some (w.heap.size,0)) (o':=⟨0,true,2,[]⟩) (w':=w.alloc (.map #[] 0)) hI rfl rfl rfl (by simp) (fun b hb=>Go.RowKit.Below.heap_alloc w _ b hb) (fun b base h=>by cases h; exact Nat.le_refl _)
  (fun hE=>.inl (.inr ⟨w.heap.size,#[],0,rfl,heap_alloc_new w _,rfl⟩))
 refine⟨_,.map (some w.heap.size),_,_,_,?_,this.1,this.2,.mp ⟨0,true,2,[]⟩ (by simp) (Nat.le_refl _) rfl (fun _=>⟨w.heap.size,updG_same _ _ _,⟨_,_,heap_alloc_new w _⟩,rfl⟩),h.2⟩
 simp [Instr.makeMap]
def putEls (es:List (List V)) (lo:Nat) (ns:List (List V)):List (List V):=es.take lo++ns++es.drop (lo + ns.length)
theorem getElem?_putEls (es:List (List V)) (lo:Nat) (ns:List (List V)) (h:lo + ns.length≤es.length) (j:Nat) :
  (putEls es lo ns)[j]?=if lo≤j∧j < lo + ns.length then ns[j - lo]? else es[j]?:=by
 have hl:(es.take lo).length=lo:=by simp; omega
 unfold putEls
 by_cases h1:j < lo
 ·rw[if_neg (by omega),List.append_assoc,List.getElem?_append_left (by omega),List.getElem?_take,if_pos h1]
 ·by_cases h2:j < lo + ns.length
  ·rw[if_pos (by omega),List.append_assoc,List.getElem?_append_right (by omega),hl,List.getElem?_append_left (by omega)]
  ·rw[if_neg (by omega),List.getElem?_append_right (by simp; omega),List.getElem?_drop]
   congr 1
   simp
   omega
theorem length_putEls (es:List (List V)) (lo:Nat) (ns:List (List V)) (h:lo + ns.length≤es.length):(putEls es lo ns).length=es.length:=by
 simp [putEls]; omega
theorem write_run {σ:Gh} {s:List Obj} {w:World} (hI:Inv σ s w) {id:Nat} {o:Obj} (ho:s[id]?=some o) (hl:o.live=true) {lo:Nat} {ns:List (List V)} (hfit:lo + ns.length≤o.els.length) (hz:∀e∈ns,e.length=o.sz)
  {b base:Nat} (hs:σ id=some (b,base)) (hC:IsC w b) {us:List Value} (hus:us.length=ns.length * o.sz)
  (hrep:∀(i j:Nat) (y:V),(ns[i]?.bind (·[j]?))=some y→∃c,us[i * o.sz + j]?=some c∧c.oneCell'=true∧RepV σ s w y c) (hone:∀u∈us,u.oneCell'=true) (P:Program) :
  ∃w',(storeCells ⟨b,base + lo * o.sz,none⟩ us).run P w=.ok () w'∧Evolve σ s w σ (s.set id { o with els:=putEls o.els lo ns }) w' ∧
   Inv σ (s.set id { o with els:=putEls o.els lo ns }) w':=by
 rcases hI.content _ o ho with h1 | ⟨b',base',arr,E,h1,h2,h3,h4,h5⟩
 ·exact(h1.notC hs hC).elim
 rw[hs] at h1; cases h1
 have hksz:lo * o.sz + ns.length * o.sz≤o.els.length * o.sz:=by
  rw[← Nat.add_mul]; exact Nat.mul_le_mul_right _ hfit
 have hrun:=run_storeCells_at P b (base + lo * o.sz) E us 0 arr w h2 (by rw[hus]; omega) hone
 simp only[Nat.add_zero] at hrun
 generalize harr':(arr.toList.take (base + lo * o.sz)++us++arr.toList.drop (base + lo * o.sz + us.length)).toArray=arr' at hrun
 have hsize:arr'.size=arr.size:=by rw[← harr']; simp; omega
 have hget:∀p,arr'[p]?=if base + lo * o.sz≤p∧p < base + lo * o.sz + us.length then us[p - (base + lo * o.sz)]? else arr[p]?:=by
  intro p
  have hl:(arr.toList.take (base + lo * o.sz)).length=base + lo * o.sz:=by simp; omega
  rw[← harr',List.getElem?_toArray]
  by_cases g1:p < base + lo * o.sz
  ·rw[if_neg (by omega),List.append_assoc,List.getElem?_append_left (by omega),List.getElem?_take,if_pos g1,Array.getElem?_toList]
  ·by_cases g2:p < base + lo * o.sz + us.length
   ·rw[if_pos (by omega),List.append_assoc,List.getElem?_append_right (by omega),hl,List.getElem?_append_left (by omega)]
   ·rw[if_neg (by omega),List.getElem?_append_right (by simp; omega),List.getElem?_drop,Array.getElem?_toList]
    congr 1
    simp
    omega
 refine⟨_,hrun,?_⟩
 have:=set_obj (p:=σ id) (w':=w.setRow b arr') (o':={ o with els:=putEls o.els lo ns }) hI ho hl rfl rfl rfl (by simp)
  (fun b1 _ hne=>setRow_other w b b1 arr' (fun e=>hne base (by rw[hs,e])))
  (fun b1 base1 arr1 E1 he hh=>by
   rw[hs] at he; cases he
   rw[h2] at hh; cases hh
   exact⟨arr',setRow_heap w b arr arr' E (0,0) h2,hsize⟩)
  (fun b1 base1 he hm=>by
   rw[hs] at he; cases he
   exact(hC.notM hm).elim)
  (Nat.le_refl _) (fun _=>⟨rfl,rfl⟩) (fun b1 base1 he=>.inl ⟨base1,he⟩)
  (fun hE=>.inr ⟨b,base,arr',E,hs,setRow_heap w b arr arr' E (0,0) h2,(by
   intro e he
   simp only at he
   unfold putEls at he
   rcases List.mem_append.1 he with he | he
   ·rcases List.mem_append.1 he with he | he
    ·exact h3 e (List.mem_of_mem_take he)
    ·exact hz e he
   ·exact h3 e (List.mem_of_mem_drop he)),(by simp only[length_putEls _ _ _ hfit]; omega),(by
   intro i j x hx
   simp only at hx ⊢
   rw[updG_id] at hE ⊢
   rw[getElem?_putEls _ _ _ hfit] at hx
   split at hx
   ·rename_i hin
    obtain⟨c,k1,k2,k3⟩:=hrep _ j x hx
    refine⟨c,?_,k2,k3.evolve hE⟩
    have hlt:=(List.getElem?_eq_some_iff.1 k1).1
    have hmul:i * o.sz=lo * o.sz + (i - lo) * o.sz:=by rw[← Nat.add_mul]; congr 1; omega
    rw[hget,if_pos (by omega),← k1]
    congr 1
    omega
   ·rename_i hin
    obtain⟨c,k1,k2,k3⟩:=h5 i j x hx
    refine⟨c,?_,k2,k3.evolve hE⟩
    rw[hget,if_neg ?_]
    ·exact k1
    ·have hjl:j < o.sz:=by
      cases he:o.els[i]? with
      | none=>rw[he] at hx; cases hx
      | some e =>
       rw[he] at hx
       have:=(List.getElem?_eq_some_iff.1 hx).1
       rw[h3 e (List.mem_of_getElem? he)] at this
       exact this
     rw[hus]
     rcases Nat.lt_or_ge i lo with hlt | hge
     ·have:=Nat.mul_le_mul_right o.sz (show i + 1≤lo from hlt)
      rw[Nat.add_mul,Nat.one_mul] at this
      omega
     ·have:=Nat.mul_le_mul_right o.sz (show lo + ns.length≤i by omega)
      rw[Nat.add_mul] at this
      omega)⟩)
 rw[updG_id] at this
 exact this
def copyWp (P:Program) (t:TypeId) (a x:V) (s:List Obj) (K:V→List Obj→Prop):Prop :=
 match slTy P t with
 | none=>False
 | some (_,i)=>match elsV s x with
  | none=>False
  | some ns=>(∀e∈ns,e.length=i.sz)∧match a with
   | .so id g lo n=>atG s id g fun o=>(o.live=true∧o.sz=i.sz∧lo + n≤o.els.length∧ns.length≤n)∧K (.d (.sc (.int .i64 ns.length))) (s.set id { o with els:=putEls o.els lo ns })
   | _=>False
theorem src_of {P:Program} {t e:TypeId} {σ:Gh} {s:List Obj} {w:World} {x:V} {ux:Value} {ns:List (List V)} {z:Nat} (hu:P.underlying t=some (.slice e)) (hI:Inv σ s w) (hx:RepV σ s w x ux) (hns:elsV s x=some ns) (hz:∀e∈ns,e.length=z) :
  ∃news,Src P z t ux ns.length news w∧∀(i j:Nat) (y:V),(ns[i]?.bind (·[j]?))=some y→∃c,news[i * z + j]?=some c∧c.oneCell'=true∧RepV σ s w y c:=by
 obtain⟨ax,capx,rfl,xnone,xcap,news,n1,n2,n3,n4⟩:=elsV_spec hI hx hns hz
 refine⟨news,?_,n4⟩
 cases ax with
 | none =>
  have:ns=[]:=xnone rfl
  subst this
  have hn:news=[]:=List.eq_nil_of_length_eq_zero (by simpa using n1)
  subst hn
  exact Src.ofNil w hu capx
 | some ad=>exact Src.ofSlice w hu ad ns.length capx news n1 (n3 ad rfl) n2
theorem putEls_nil (es:List (List V)) (lo:Nat):putEls es lo []=es:=by simp [putEls]
theorem copy_sound {P:Program} {t ty:TypeId} {a x:V} {ua ux:Value} {σ:Gh} {s:List Obj} {w:World} {K:V→List Obj→Prop} (hI:Inv σ s w) (ha:RepV σ s w a ua) (hx:RepV σ s w x ux)
  (h:copyWp P t a x s K):∃v r s' w',(Builtin.copy_ #[t,t] ty #[ua,ux]).run P w=.ok r w'∧Evolve σ s w σ s' w'∧Inv σ s' w'∧RepV σ s' w' v r∧K v s':=by
 unfold copyWp at h
 split at h
 ·exact h.elim
 rename_i e i hti
 obtain⟨hu,hi⟩:=slTy_spec hti
 split at h
 ·exact h.elim
 rename_i ns hns
 obtain⟨hz,h⟩:=h
 obtain⟨ti,d,z,k1,k2,k3,k4,k5,k6,k7,k8,k9⟩:=tyI_spec hi
 obtain⟨news,hsrc,n4⟩:=src_of hu hI hx hns hz
 split at h
 case h_2=>exact h.elim
 rename_i id g lo n
 obtain⟨o,ho,hg,⟨hl,hsz,hfit,hle⟩,hK⟩:=atG_spec h
 have hmin:Nat.min ns.length n=ns.length:=Nat.min_eq_left hle
 have hcells:=hsrc.cells
 cases ha with | so o' ho' hg' hu' hk=>?_
 rw[ho] at ho'; cases ho'
 rcases hk hg with ⟨hs,⟨ad,rfl⟩,rfl,rfl⟩ | ⟨b,base,cap,E,arr,hs,hh,rfl,hcap,hbd⟩
 ·have hn:ns=[]:=List.eq_nil_of_length_eq_zero (by omega)
  subst hn
  have hnews:news=[]:=List.eq_nil_of_length_eq_zero (by simpa using hsrc.newsLen)
  subst hnews
  have hset:s.set id { o with els:=putEls o.els 0 [] }=s:=by
   rw[putEls_nil]
   apply List.ext_getElem?
   intro k
   by_cases hk:k=id
   ·subst hk
    rw[List.getElem?_set_self (List.getElem?_eq_some_iff.1 ho).1,ho]
   ·rw[List.getElem?_set_ne (Ne.symm hk)]
  rw[hset] at hK
  refine⟨_,.int .i64 0,s,w,?_,Evolve.refl _ _ _,hI,.d (.sc _ rfl),hK⟩
  have hlen:=hsrc.len w
  simp only[List.length_nil] at hlen hcells
  cases ad <;> simp [Builtin.copy_,run_underlying hu,sizeOf,typeInfo,k1,k4,hlen,hcells,goInt,storeCells]
 ·obtain⟨w',r1,r2,r3⟩:=write_run hI ho hl (lo:=lo) (ns:=ns) (by omega) (by rw[hsz]; exact hz) hs ⟨arr,E,hh⟩ (us:=news) (by rw[hsz]; exact hsrc.newsLen) (by rw[hsz]; exact n4) hsrc.one P
  refine⟨_,.int .i64 ns.length,_,w',?_,r2,r3,.d (.sc _ rfl),hK⟩
  have hlen:=hsrc.len w
  simp [Builtin.copy_,run_underlying hu,sizeOf,typeInfo,k1,k4,hlen,hmin,hcells,goInt,r1]
def clearWp (P:Program) (t:TypeId) (x:V) (s:List Obj) (K:V→List Obj→Prop):Prop :=
 match slTy P t with
 | none=>False
 | some (_,i)=>match x with
  | .so id g lo n=>atG s id g fun o=>(o.live=true∧o.sz=i.sz∧lo + n≤o.els.length)∧K (.tu []) (s.set id { o with els:=putEls o.els lo (List.replicate n (i.zero.map cv)) })
  | .d (.sl [])=>K (.tu []) s
  | _=>False
theorem set_same {s:List Obj} {id:Nat} {o:Obj} (ho:s[id]?=some o):s.set id o=s:=by
 apply List.ext_getElem?
 intro k
 by_cases hk:k=id
 ·subst hk
  rw[List.getElem?_set_self (List.getElem?_eq_some_iff.1 ho).1,ho]
 ·rw[List.getElem?_set_ne (Ne.symm hk)]
theorem clear_sound {P:Program} {t ty:TypeId} {x:V} {ux:Value} {σ:Gh} {s:List Obj} {w:World} {K:V→List Obj→Prop} (hI:Inv σ s w) (hx:RepV σ s w x ux)
  (h:clearWp P t x s K):∃v r s' w',(Builtin.clear_ #[t] ty #[ux]).run P w=.ok r w'∧Evolve σ s w σ s' w'∧Inv σ s' w'∧RepV σ s' w' v r∧K v s':=by
 unfold clearWp at h
 split at h
 ·exact h.elim
 rename_i e i hti
 obtain⟨hu,hi⟩:=slTy_spec hti
 split at h
 case h_3=>exact h.elim
 case h_2 =>
  refine⟨_,.tuple #[],s,w,?_,Evolve.refl _ _ _,hI,.tu rfl (fun i x hx=>by simp at hx),h⟩
  cases hx with | d hd=>?_
  cases hd with
  | nil=>simp [Builtin.clear_,run_underlying hu]
  | sl _ ad _ sz f h1 h2 h3 h4 h5=>simp [Builtin.clear_,run_underlying hu]
 rename_i id g lo n
 obtain⟨o,ho,hg,⟨hl,hsz,hfit⟩,hK⟩:=atG_spec h
 obtain⟨ti,d,z,k1,k2,k3,k4,k5,k6,k7,k8,k9⟩:=tyI_spec hi
 have hz:∀w,(zeroValue e).run P w=.ok z w:=fun w=>by simp [zeroValue,typeInfo,k1,k3]
 have tup:∀(s':List Obj) (w':World),RepV σ s' w' (.tu []) (.tuple #[]):=fun s' w'=>.tu rfl (fun i x hx=>by simp at hx)
 have zero:n=0→∃v r s' w',(Result.ok (Value.tuple #[]) w:Result Value)=.ok r w'∧Evolve σ s w σ s' w'∧Inv σ s' w'∧RepV σ s' w' v r∧K v s':=by
  rintro rfl
  refine⟨_,_,s,w,rfl,Evolve.refl _ _ _,hI,tup _ _,?_⟩
  rw[List.replicate_zero,putEls_nil,set_same ho] at hK
  exact hK
 cases hx with | so o' ho' hg' hu' hk=>?_
 rw[ho] at ho'; cases ho'
 rcases hk hg with ⟨hs,⟨ad,rfl⟩,rfl,rfl⟩ | ⟨b,base,cap,E,arr,hs,hh,rfl,hcap,hbd⟩
 ·obtain⟨v,r,s',w',e1,e2⟩:=zero rfl
  refine⟨v,r,s',w',?_,e2⟩
  rw[← e1]
  cases ad <;> simp [Builtin.clear_,run_underlying hu]
 ·rcases Nat.eq_zero_or_pos n with h0 | h0
  ·obtain⟨v,r,s',w',e1,e2⟩:=zero h0
   refine⟨v,r,s',w',?_,e2⟩
   rw[← e1]
   subst h0
   simp [Builtin.clear_,run_underlying hu]
  ·have hzl:z.cells.size=i.sz:=by rw[← Array.length_toList,k6,k7]
   have hzc:Builtin.zeroCells z.cells n=(Array.range (n * i.sz)).map (z.cells[· % z.cells.size]!):=by unfold Builtin.zeroCells; rw[← hzl]
   have hrow:=zeroRow hi σ s w n z k6
   obtain⟨r1,r2,r3⟩:=hrow
   obtain⟨w',q1,q2,q3⟩:=write_run hI ho hl (lo:=lo) (ns:=List.replicate n (i.zero.map cv)) (by rw[List.length_replicate]; omega) (fun e he=>by rw[List.eq_of_mem_replicate he,List.length_map,hsz,k7]) hs ⟨arr,E,hh⟩ (us:=(Builtin.zeroCells z.cells n).toList)
    (by rw[List.length_replicate,hsz,Array.length_toList,size_zeroCells,hzl])
    (fun a j y hy=>by
     rw[hsz]
     obtain⟨c,c1,c2,c3⟩:=r3 a j y hy
     refine⟨c,?_,c2,c3⟩
     rw[Array.getElem?_toList,hzc]
     exact c1)
    (fun u hu=>by
     rw[hzc,Array.toList_map,List.mem_map] at hu
     obtain⟨k,hk,rfl⟩:=hu
     have hk':k < n * i.sz:=by simpa using hk
     have hp:0 < z.cells.size:=by
      rw[hzl]
      rcases Nat.eq_zero_or_pos i.sz with h' | h'
      ·rw[h'] at hk'; simp at hk'
      ·exact h'
     have hm:=Nat.mod_lt k hp
     have hget:z.cells[k % z.cells.size]! = z.cells[k % z.cells.size]:=by simp [hm]
     rw[hget]
     exact k8 _ (by rw[← k6]; exact Array.getElem_mem_toList hm)) P
   refine⟨_,_,_,w',?_,q2,q3,tup _ _,hK⟩
   obtain⟨m,rfl⟩:∃m,n=m + 1:=⟨n - 1,by omega⟩
   simp [Builtin.clear_,run_underlying hu,hz,q1]
def bitV (op:BinOp) (k:IntKind) (a b:Int):Int :=
 k.wrap (match op with
  | .and=>(BitVec.ofInt k.bits a &&& BitVec.ofInt k.bits b).toNat
  | .or=>(BitVec.ofInt k.bits a ||| BitVec.ofInt k.bits b).toNat
  | .xor=>(BitVec.ofInt k.bits a ^^^ BitVec.ofInt k.bits b).toNat
  | _=>(BitVec.ofInt k.bits a &&& ~~~BitVec.ofInt k.bits b).toNat)
def intWp (op:BinOp) (k:IntKind) (a b:Int) (K:V→Prop):Prop :=
 match op with
 | .add=>K (.d (.sc (.int k (k.wrap (a + b)))))
 | .sub=>K (.d (.sc (.int k (k.wrap (a - b)))))
 | .mul=>K (.d (.sc (.int k (k.wrap (a * b)))))
 | .quo=>b≠0∧K (.d (.sc (.int k (k.wrap (a.tdiv b)))))
 | .rem=>b≠0∧K (.d (.sc (.int k (a.tmod b))))
 | .and=>K (.d (.sc (.int k (bitV .and k a b))))
 | .or=>K (.d (.sc (.int k (bitV .or k a b))))
 | .xor=>K (.d (.sc (.int k (bitV .xor k a b))))
 | .eql=>K (.d (.sc (.bool (decide (a=b)))))
 | .neq=>K (.d (.sc (.bool (!decide (a=b)))))
 | .lss=>K (.d (.sc (.bool (decide (a < b)))))
 | .leq=>K (.d (.sc (.bool (decide (a≤b)))))
 | .gtr=>K (.d (.sc (.bool (decide (b < a)))))
 | .geq=>K (.d (.sc (.bool (decide (b≤a)))))
 | _=>False
def isPtr (s:List Obj):V→Prop
 | .d (.el _)=>True
 | .rf id g _ _=>atG s id g fun _=>True
 | .pp id g _ _ _ _=>atG s id g fun _=>True
 | _=>False
def arrI (P:Program) (t:TypeId):Option (Nat × IntKind) :=
 match P.underlying t with
 | some (.array n e)=>match P.underlying e with
  | some (.int k)=>if (P.info? e).isSome=true∧P.cellsOf e=1∧P.eqGuardType P.depth t=false then some (n,k) else none
  | _=>none
 | _=>none
def st3I (P:Program) (t:TypeId):Option IntKind :=
 match P.underlying t with
 | some (.struct fields)=>match fields.toList with
  | [a,b,c]=>match P.underlying a.type,P.underlying b.type,P.underlying c.type with
   | some (.int k), some (.int k'), some (.int k'') => if (k' = k ∧ k'' = k ∧ a.offset = 0 ∧ b.offset = 1 ∧ c.offset = 2) ∧ (a.name ≠ "_" ∧ b.name ≠ "_" ∧ c.name ≠ "_") ∧ P.stoodInHeld t = false ∧ P.eqGuardType P.depth t = false then some k else none
   | _,_,_=>none
  | _=>none
 | _=>none
def arrEqWp (P:Program) (op:BinOp) (t:TypeId) (xs ys:List V) (K:V→Prop):Prop :=
 match xs,ys with
 | [.d (.sc (.int k1 a)),.d (.sc (.int k2 b))],[.d (.sc (.int k3 c)),.d (.sc (.int k4 d))]=>(arrI P t=some (2,k1)∧k2=k1∧k3=k1∧k4=k1)∧match op with
  | .eql=>K (.d (.sc (.bool (a == c&&b == d))))
  | .neq=>K (.d (.sc (.bool (!(a == c&&b == d)))))
  | _=>False
 | [.d (.sc (.int k1 a)),.d (.sc (.int k2 b)),.d (.sc (.int k3 c))],[.d (.sc (.int k4 a')),.d (.sc (.int k5 b')),.d (.sc (.int k6 c'))]=>(st3I P t=some k1∧k2=k1∧k3=k1∧k4=k1∧k5=k1∧k6=k1)∧match op with
  | .eql=>K (.d (.sc (.bool (a == a'&&(b == b'&&c == c')))))
  | _=>False
 | _,_=>False
def binWp0 (P:Program) (op:BinOp) (t:TypeId) (s:List Obj) (x y:V) (K:V→Prop):Prop :=
 match x,y with
 | .d (.sc (.int k a)),.d (.sc (.int k' b))=>k=k'∧intWp op k a b K
 | .d (.sc (.bool a)),.d (.sc (.bool b))=>P.underlying t=some .bool∧match op with
  | .eql=>K (.d (.sc (.bool (a == b))))
  | .neq=>K (.d (.sc (.bool (!(a == b)))))
  | _=>False
 | .d (.sc (.pointer none)),.d (.sc (.pointer none))=>(∃e,P.underlying t=some (.pointer e))∧match op with
  | .eql=>K (.d (.sc (.bool true)))
  | .neq=>K (.d (.sc (.bool false)))
  | _=>False
 | .ag xs,.ag ys=>arrEqWp P op t xs ys K
 | p,.d (.sc (.pointer none))=>isPtr s p∧(∃e,P.underlying t=some (.pointer e))∧match op with
  | .eql=>K (.d (.sc (.bool false)))
  | .neq=>K (.d (.sc (.bool true)))
  | _=>False
 | _,_=>False
def nilC:Operand→Bool
 | .const (.slice none 0 0)=>true
 | _=>false
def nilSlWp (P:Program) (op:BinOp) (t:TypeId) (s:List Obj) (x:V) (K:V→Prop):Prop :=
 (∃e,P.underlying t=some (.slice e))∧op=.eql∧match x with
  | .d (.sl [])=>K (.d .ub)
  | .d (.sl (_::_))=>K (.d (.sc (.bool false)))
  | .fu []=>K (.d .ub)
  | .fu (_::_)=>K (.d (.sc (.bool false)))
  | .so id g _ 0=>atG s id g fun _=>K (.d .ub)
  | .so id g _ (_ + 1)=>atG s id g fun _=>K (.d (.sc (.bool false)))
  | _=>False
theorem isPtr_spec {σ:Gh} {s:List Obj} {w:World} {p:V} {u:Value} (hp:RepV σ s w p u) (h:isPtr s p):∃a,u=.pointer (some a):=by
 unfold isPtr at h
 split at h
 ·cases hp with | d hx=>?_
  cases hx with | el _ a _ _ _ _=>exact⟨a,rfl⟩
 ·obtain⟨o,ho,hg,_⟩:=atG_spec h
  obtain⟨b,base,_,_,rfl⟩:=rf_ptr hp ho hg
  exact⟨_,rfl⟩
 ·exact⟨_,hp.pp_raw⟩
 ·exact h.elim
theorem run_equal_bool {P:Program} {t:TypeId} (hu:P.underlying t=some .bool) (a b:Bool) (w:World):(Op.equal t (.bool a) (.bool b)).run P w=.ok (a == b) w:=by
 have h:∀d:Nat,(Op.equalIn (d + 1) t (.bool a) (.bool b)).run P w=.ok (a == b) w:=fun d=>by simp [Op.equalIn,run_underlying hu]
 exact h 9999
theorem run_equal_nil {P:Program} {t e:TypeId} (hu:P.underlying t=some (.pointer e)) (w:World):(Op.equal t (.pointer none) (.pointer none)).run P w=.ok true w:=by
 have h:∀d:Nat,(Op.equalIn (d + 1) t (.pointer none) (.pointer none)).run P w=.ok true w:=fun d=>by simp [Op.equalIn,run_underlying hu]
 exact h 9999
theorem run_equal_ptr {P:Program} {t e:TypeId} (hu:P.underlying t=some (.pointer e)) (a:Addr) (w:World):(Op.equal t (.pointer (some a)) (.pointer none)).run P w=.ok false w:=by
 have h:∀d:Nat,(Op.equalIn (d + 1) t (.pointer (some a)) (.pointer none)).run P w=.ok false w:=fun d=>by simp [Op.equalIn,run_underlying hu]
 exact h 9999
theorem run_bin_bool {P:Program} {t:TypeId} (hu:P.underlying t=some .bool) (a b:Bool) (w:World) (xo yo:Operand) :
  (do eqGuard .eql t xo yo (.bool a) (.bool b); binOp .eql t (.bool a) (.bool b):Sem Value).run P w=.ok (.bool (a == b)) w ∧
  (do eqGuard .neq t xo yo (.bool a) (.bool b); binOp .neq t (.bool a) (.bool b):Sem Value).run P w=.ok (.bool (!(a == b))) w:=by
 have h:=run_equal_bool hu a b w
 constructor <;> simp only[eqGuard,binOp,Sem.run_bind,Sem.run_pure,h,Result.andThen_ok,Bool.not_true,Bool.false_eq_true,if_false]
theorem run_bin_nil {P:Program} {t e:TypeId} (hu:P.underlying t=some (.pointer e)) (w:World) (xo yo:Operand) :
  (do eqGuard .eql t xo yo (.pointer none) (.pointer none); binOp .eql t (.pointer none) (.pointer none):Sem Value).run P w=.ok (.bool true) w ∧
  (do eqGuard .neq t xo yo (.pointer none) (.pointer none); binOp .neq t (.pointer none) (.pointer none):Sem Value).run P w=.ok (.bool false) w:=by
 have h:=run_equal_nil hu w
 constructor <;> simp only[eqGuard,binOp,Sem.run_bind,Sem.run_pure,h,Result.andThen_ok,Bool.not_true,Bool.false_eq_true,if_false]
theorem run_bin_ptr {P:Program} {t e:TypeId} (hu:P.underlying t=some (.pointer e)) (a:Addr) (w:World) (xo yo:Operand) :
  (do eqGuard .eql t xo yo (.pointer (some a)) (.pointer none); binOp .eql t (.pointer (some a)) (.pointer none):Sem Value).run P w=.ok (.bool false) w ∧
  (do eqGuard .neq t xo yo (.pointer (some a)) (.pointer none); binOp .neq t (.pointer (some a)) (.pointer none):Sem Value).run P w=.ok (.bool true) w:=by
 have h:=run_equal_ptr hu a w
 constructor <;> simp only[eqGuard,binOp,Sem.run_bind,Sem.run_pure,h,Result.andThen_ok,Bool.not_true,Bool.false_eq_true,if_false,Bool.not_false]
theorem run_equal_slice {P:Program} {t e:TypeId} (hu:P.underlying t=some (.slice e)) (a:Option Addr) (n c:Nat) (w:World):(Op.equal t (.slice a n c) (.slice none 0 0)).run P w=.ok a.isNone w:=by
 have h:∀d:Nat,(Op.equalIn (d + 1) t (.slice a n c) (.slice none 0 0)).run P w=.ok a.isNone w:=fun d=>by cases a <;> simp [Op.equalIn,run_underlying hu]
 exact h 9999
theorem run_bin_slice {P:Program} {t e:TypeId} (hu:P.underlying t=some (.slice e)) (a:Option Addr) (n c:Nat) (w:World) (xo yo:Operand) :
  (do eqGuard .eql t xo yo (.slice a n c) (.slice none 0 0); binOp .eql t (.slice a n c) (.slice none 0 0):Sem Value).run P w=.ok (.bool a.isNone) w:=by
 have h:=run_equal_slice hu a n c w
 simp only[eqGuard,binOp,Sem.run_bind,Sem.run_pure,h,Result.andThen_ok,Bool.not_true,Bool.false_eq_true,if_false]
theorem nilSl_sound {P:Program} {op:BinOp} {t:TypeId} {xo yo:Operand} {x:V} {ux:Value} {σ:Gh} {s:List Obj} {w:World} {K:V→Prop} (hx:RepV σ s w x ux) (h:nilSlWp P op t s x K) :
  ∃v c,(do eqGuard op t xo yo ux (.slice none 0 0); binOp op t ux (.slice none 0 0):Sem Value).run P w=.ok c w∧RepV σ s w v c∧K v:=by
 obtain⟨⟨e,hu⟩,rfl,h⟩:=h
 split at h
 ·cases hx with | d hx=>?_
  cases hx with
  | nil=>exact⟨_,_,run_bin_slice hu _ _ _ w xo yo,.d (.ub _),h⟩
  | sl _ a cap sz f h1 h2 h3 h4 h5=>exact⟨_,_,run_bin_slice hu _ _ _ w xo yo,.d (.ub _),h⟩
 ·cases hx with | d hx=>?_
  cases hx with
  | sl _ a cap sz f h1 h2 h3 h4 h5=>exact⟨_,_,run_bin_slice hu _ _ _ w xo yo,.d (.sc _ rfl),h⟩
 ·cases hx with | fu hx=>?_
  exact⟨_,_,run_bin_slice hu _ _ _ w xo yo,.d (.ub _),h⟩
 ·cases hx with | fu hx=>?_
  cases hx with
  | sl _ a cap sz f h1 h2 h3 h4 h5=>exact⟨_,_,run_bin_slice hu _ _ _ w xo yo,.d (.sc _ rfl),h⟩
 ·obtain⟨o,ho,hg,hK⟩:=atG_spec h
  cases hx with | so o' ho' hg' hu' hk=>?_
  rw[ho] at ho'; cases ho'
  rcases hk hg with ⟨_,⟨a,rfl⟩,_,_⟩ | ⟨b,bs,cp,E,arr,_,_,rfl,_⟩
  ·exact⟨_,_,run_bin_slice hu _ _ _ w xo yo,.d (.ub _),hK⟩
  ·exact⟨_,_,run_bin_slice hu _ _ _ w xo yo,.d (.ub _),hK⟩
 ·obtain⟨o,ho,hg,hK⟩:=atG_spec h
  cases hx with | so o' ho' hg' hu' hk=>?_
  rw[ho] at ho'; cases ho'
  rcases hk hg with ⟨_,_,_,h0⟩ | ⟨b,bs,cp,E,arr,_,_,rfl,_⟩
  ·omega
  ·exact⟨_,_,run_bin_slice hu _ _ _ w xo yo,.d (.sc _ rfl),hK⟩
 ·exact h.elim
theorem arrI_spec {P:Program} {t:TypeId} {n:Nat} {k:IntKind} (h:arrI P t=some (n,k)):∃e i,P.underlying t=some (.array n e)∧P.underlying e=some (.int k)∧P.info? e=some i∧P.cellsOf e=1∧P.eqGuardType P.depth t=false:=by
 unfold arrI at h
 split at h
 ·rename_i n' e hu
  split at h
  ·rename_i k' hk
   split at h
   ·rename_i hc
    cases h
    obtain⟨i,hi⟩:=Option.isSome_iff_exists.1 hc.1
    exact⟨e,i,hu,hk,hi,hc.2.1,hc.2.2⟩
   ·cases h
  ·cases h
 ·cases h
theorem run_equal_arr {P:Program} {t:TypeId} {k:IntKind} (ha:arrI P t=some (2,k)) (a b c d:Int) (w:World) :
  (Op.equal t (.agg #[.int k a,.int k b]) (.agg #[.int k c,.int k d])).run P w=.ok (a == c&&b == d) w:=by
 obtain⟨e,i,h1,h2,h3,h4,_⟩:=arrI_spec ha
 have h:∀n:Nat,(Op.equalIn (n + 2) t (.agg #[.int k a,.int k b]) (.agg #[.int k c,.int k d])).run P w=.ok (a == c&&b == d) w:=by
  intro n
  rw[run_equalIn_array w (n + 1) _ _ h1 h3,h4]
  have hi:∀(x y:Int),(Op.equalIn (n + 1) e (.int k x) (.int k y)).run P w=.ok (x == y) w:=fun x y=>by simp [Op.equalIn,run_underlying h2]
  have hp:∀(xs:Array Value) (j:Nat) (v:Value),xs[j]?=some v→(part e xs j).run P w=.ok v w:=fun xs j v hv=>by simp [part,isAgg,run_underlying h2,hv]
  have r2:List.range 2=[0,1]:=rfl
  rw[r2]
  have p0:=hp #[.int k a,.int k b] 0 (.int k a) rfl
  have p1:=hp #[.int k a,.int k b] 1 (.int k b) rfl
  have q0:=hp #[.int k c,.int k d] 0 (.int k c) rfl
  have q1:=hp #[.int k c,.int k d] 1 (.int k d) rfl
  simp only[Op.eqItems,Sem.run_bind,Nat.zero_mul,Nat.one_mul,p0,q0,hi,Result.andThen_ok]
  cases hac:(a == c)
  ·simp
  ·simp only[Bool.not_true,Bool.false_eq_true,if_false,Sem.run_bind,p1,q1,hi,Result.andThen_ok]
   cases hbd:(b == d) <;> simp
 exact h 9998
theorem st3I_spec {P:Program} {t:TypeId} {k:IntKind} (h:st3I P t=some k):∃fields a b c,P.underlying t=some (.struct fields)∧fields.toList=[a,b,c]∧P.underlying a.type=some (.int k)∧P.underlying b.type=some (.int k)∧P.underlying c.type=some (.int k) ∧
  (a.offset = 0 ∧ b.offset = 1 ∧ c.offset = 2) ∧ (a.name ≠ "_" ∧ b.name ≠ "_" ∧ c.name ≠ "_") ∧ P.stoodInHeld t = false ∧ P.eqGuardType P.depth t = false := by
 unfold st3I at h
 split at h
 ·rename_i fields hu
  split at h
  ·rename_i a b c hl
   split at h
   ·rename_i k1 k2 k3 ha hb hc
    split at h
    ·rename_i hh
     cases h
     obtain⟨⟨rfl,rfl,o⟩,n,s1,s2⟩:=hh
     exact⟨fields,a,b,c,hu,hl,ha,hb,hc,o,n,s1,s2⟩
    ·cases h
   ·cases h
  ·cases h
 ·cases h
theorem run_equal_st3 {P:Program} {t:TypeId} {k:IntKind} (ht:st3I P t=some k) (a b c a' b' c':Int) (w:World) :
  (Op.equal t (.agg #[.int k a,.int k b,.int k c]) (.agg #[.int k a',.int k b',.int k c'])).run P w=.ok (a == a'&&(b == b'&&c == c')) w:=by
 obtain⟨fields,fa,fb,fc,h1,h2,h3,h4,h5,⟨o1,o2,o3⟩,⟨n1,n2,n3⟩,s1,_⟩:=st3I_spec ht
 have hf:fields=#[fa,fb,fc]:=by rw[← h2]
 have h:∀n:Nat,(Op.equalIn (n + 2) t (.agg #[.int k a,.int k b,.int k c]) (.agg #[.int k a',.int k b',.int k c'])).run P w=.ok (a == a'&&(b == b'&&c == c')) w:=by
  intro n
  have hi:∀(e:TypeId) (x y:Int),P.underlying e=some (.int k)→(Op.equalIn (n + 1) e (.int k x) (.int k y)).run P w=.ok (x == y) w:=fun e x y he=>by simp [Op.equalIn,run_underlying he]
  have hp:∀(e:TypeId) (xs:Array Value) (j:Nat) (v:Value),P.underlying e=some (.int k)→xs[j]?=some v→(part e xs j).run P w=.ok v w:=fun e xs j v he hv=>by simp [part,isAgg,run_underlying he,hv]
  have p0:=hp fa.type #[.int k a,.int k b,.int k c] 0 (.int k a) h3 rfl
  have p1:=hp fb.type #[.int k a,.int k b,.int k c] 1 (.int k b) h4 rfl
  have p2:=hp fc.type #[.int k a,.int k b,.int k c] 2 (.int k c) h5 rfl
  have q0:=hp fa.type #[.int k a',.int k b',.int k c'] 0 (.int k a') h3 rfl
  have q1:=hp fb.type #[.int k a',.int k b',.int k c'] 1 (.int k b') h4 rfl
  have q2:=hp fc.type #[.int k a',.int k b',.int k c'] 2 (.int k c') h5 rfl
  have e0:=hi fa.type a a' h3
  have e1:=hi fb.type b b' h4
  have e2:=hi fc.type c c' h5
  rw[show n + 2=(n + 1) + 1 from rfl,Op.equalIn]
  subst hf
  generalize (a == a')=r0 at e0 ⊢
  generalize (b == b')=r1 at e1 ⊢
  generalize (c == c')=r2 at e2 ⊢
  simp [run_underlying h1,Sem.run_bind,s1,n1,n2,n3,o1,o2,o3,p0,p1,p2,q0,q1,q2,e0,e1,e2]
  cases r0 <;> cases r1 <;> cases r2 <;> simp
 exact h 9998
theorem arr_sound {P:Program} {op:BinOp} {t:TypeId} {xo yo:Operand} {xs ys:List V} {ux uy:Value} {σ:Gh} {s:List Obj} {w:World} {K:V→Prop} (hx:RepV σ s w (.ag xs) ux) (hy:RepV σ s w (.ag ys) uy) (h:arrEqWp P op t xs ys K) :
  ∃v c,(do eqGuard op t xo yo ux uy; binOp op t ux uy:Sem Value).run P w=.ok c w∧RepV σ s w v c∧K v:=by
 unfold arrEqWp at h
 split at h
 ·rename_i k1 a k2 b k3 c k4 d
  obtain⟨⟨ha,rfl,rfl,rfl⟩,h⟩:=h
  have two:∀{k:IntKind} {a b:Int} {u:Value},RepV σ s w (.ag [.d (.sc (.int k a)),.d (.sc (.int k b))]) u→u=.agg #[.int k a,.int k b]:=by
   intro k a b u hu
   cases hu with | ag h1 h2 h3=>?_
   rename_i arr
   have e0:=h3 0 _ rfl
   have e1:=h3 1 _ rfl
   generalize hv0:arr.getD 0 undef=v0 at e0
   generalize hv1:arr.getD 1 undef=v1 at e1
   cases e0 with | d e0=>?_
   cases e0 with | sc _ _=>?_
   cases e1 with | d e1=>?_
   cases e1 with | sc _ _=>?_
   congr 1
   have hsz:arr.size=2:=h1
   apply Array.ext
   ·rw[hsz]; rfl
   ·intro i hi1 hi2
    have hi:i=0∨i=1:=by omega
    rcases hi with rfl | rfl
    ·have:arr[0]=arr.getD 0 undef:=by simp [Array.getD,hsz]
     rw[this,hv0]; rfl
    ·have:arr[1]=arr.getD 1 undef:=by simp [Array.getD,hsz]
     rw[this,hv1]; rfl
  rw[two hx,two hy]
  obtain⟨e,i,h1,h2,h3,h4,h5⟩:=arrI_spec ha
  have hr:=run_equal_arr ha a b c d w
  split at h
  ·refine⟨_,_,?_,.d (.sc _ rfl),h⟩
   simp [eqGuard,binOp,Sem.run_bind,hr,Result.andThen_ok,h5]
  ·refine⟨_,_,?_,.d (.sc _ rfl),h⟩
   simp [eqGuard,binOp,Sem.run_bind,hr,Result.andThen_ok,h5]
  ·exact h.elim
 ·rename_i k1 a k2 b k3 c k4 a' k5 b' k6 c'
  obtain⟨⟨ht,rfl,rfl,rfl,rfl,rfl⟩,h⟩:=h
  have three:∀{k:IntKind} {a b c:Int} {u:Value},RepV σ s w (.ag [.d (.sc (.int k a)),.d (.sc (.int k b)),.d (.sc (.int k c))]) u→u=.agg #[.int k a,.int k b,.int k c]:=by
   intro k a b c u hu
   cases hu with | ag h1 h2 h3=>?_
   rename_i arr
   have e0:=h3 0 _ rfl
   have e1:=h3 1 _ rfl
   have e2:=h3 2 _ rfl
   generalize hv0:arr.getD 0 undef=v0 at e0
   generalize hv1:arr.getD 1 undef=v1 at e1
   generalize hv2:arr.getD 2 undef=v2 at e2
   cases e0 with | d e0=>?_
   cases e0 with | sc _ _=>?_
   cases e1 with | d e1=>?_
   cases e1 with | sc _ _=>?_
   cases e2 with | d e2=>?_
   cases e2 with | sc _ _=>?_
   congr 1
   have hsz:arr.size=3:=h1
   apply Array.ext
   ·rw[hsz]; rfl
   ·intro i hi1 hi2
    have hi:i=0∨i=1∨i=2:=by omega
    rcases hi with rfl | rfl | rfl
    ·have:arr[0]=arr.getD 0 undef:=by simp [Array.getD,hsz]
     rw[this,hv0]; rfl
    ·have:arr[1]=arr.getD 1 undef:=by simp [Array.getD,hsz]
     rw[this,hv1]; rfl
    ·have:arr[2]=arr.getD 2 undef:=by simp [Array.getD,hsz]
     rw[this,hv2]; rfl
  rw[three hx,three hy]
  obtain⟨_,_,_,_,_,_,_,_,_,_,_,_,h5⟩:=st3I_spec ht
  have hr:=run_equal_st3 ht a b c a' b' c' w
  split at h
  ·refine⟨_,_,?_,.d (.sc _ rfl),h⟩
   simp [eqGuard,binOp,Sem.run_bind,hr,Result.andThen_ok,h5]
  ·exact h.elim
 ·exact h.elim
theorem bin0_sound {P:Program} {op:BinOp} {t:TypeId} {xo yo:Operand} {x y:V} {ux uy:Value} {σ:Gh} {s:List Obj} {w:World} {K:V→Prop} (hx:RepV σ s w x ux) (hy:RepV σ s w y uy) (h:binWp0 P op t s x y K) :
  ∃v c,(do eqGuard op t xo yo ux uy; binOp op t ux uy:Sem Value).run P w=.ok c w∧RepV σ s w v c∧K v:=by
 have bl:∀(b:Bool),K (.d (.sc (.bool b)))→(do eqGuard op t xo yo ux uy; binOp op t ux uy:Sem Value).run P w=.ok (.bool b) w →
   ∃v c,(do eqGuard op t xo yo ux uy; binOp op t ux uy:Sem Value).run P w=.ok c w∧RepV σ s w v c∧K v:=fun b hk hr=>⟨_,_,hr,.d (.sc _ rfl),hk⟩
 unfold binWp0 at h
 split at h
 ·rename_i k a k' b
  obtain⟨rfl,h⟩:=h
  cases hx with | d hx=>?_
  cases hx with | sc _ _=>?_
  cases hy with | d hy=>?_
  cases hy with | sc _ _=>?_
  have it:∀(n:Int),K (.d (.sc (.int k n)))→(do eqGuard op t xo yo (.int k a) (.int k b); binOp op t (.int k a) (.int k b):Sem Value).run P w=.ok (.int k n) w →
   ∃v c,(do eqGuard op t xo yo (.int k a) (.int k b); binOp op t (.int k a) (.int k b):Sem Value).run P w=.ok c w∧RepV σ s w v c∧K v:=fun n hk hr=>⟨_,_,hr,.d (.sc _ rfl),hk⟩
  cases op <;> simp only[intWp] at h
  case add=>exact it _ h (by simp [eqGuard,binOp,Op.intArith])
  case sub=>exact it _ h (by simp [eqGuard,binOp,Op.intArith])
  case mul=>exact it _ h (by simp [eqGuard,binOp,Op.intArith])
  case quo=>exact it _ h.2 (by simp [eqGuard,binOp,Op.intDiv,h.1])
  case rem=>exact it _ h.2 (by simp [eqGuard,binOp,Op.intDiv,h.1])
  case and=>exact it _ h (by simp [eqGuard,binOp,Op.intBits,bitV])
  case or=>exact it _ h (by simp [eqGuard,binOp,Op.intBits,bitV])
  case xor=>exact it _ h (by simp [eqGuard,binOp,Op.intBits,bitV])
  case eql=>exact bl _ h (by simp [eqGuard,binOp,Op.intCmp]; rfl)
  case neq=>exact bl _ h (by simp [eqGuard,binOp,Op.intCmp]; rfl)
  case lss=>exact bl _ h (by simp [eqGuard,binOp,Op.intCmp])
  case leq=>exact bl _ h (by simp [eqGuard,binOp,Op.intCmp])
  case gtr=>exact bl _ h (by simp [eqGuard,binOp,Op.intCmp])
  case geq=>exact bl _ h (by simp [eqGuard,binOp,Op.intCmp])
 ·rename_i a b
  obtain⟨hu,h⟩:=h
  cases hx with | d hx=>?_
  cases hx with | sc _ _=>?_
  cases hy with | d hy=>?_
  cases hy with | sc _ _=>?_
  split at h
  ·exact bl _ h (run_bin_bool hu a b w xo yo).1
  ·exact bl _ h (run_bin_bool hu a b w xo yo).2
  ·exact h.elim
 ·obtain⟨⟨e,hu⟩,h⟩:=h
  cases hx with | d hx=>?_
  cases hx with | sc _ _=>?_
  cases hy with | d hy=>?_
  cases hy with | sc _ _=>?_
  split at h
  ·exact bl _ h (run_bin_nil hu w xo yo).1
  ·exact bl _ h (run_bin_nil hu w xo yo).2
  ·exact h.elim
 ·exact arr_sound hx hy h
 ·obtain⟨hp,⟨e,hu⟩,h⟩:=h
  obtain⟨ad,rfl⟩:=isPtr_spec hx hp
  cases hy with | d hy=>?_
  cases hy with | sc _ _=>?_
  split at h
  ·exact bl _ h (run_bin_ptr hu ad w xo yo).1
  ·exact bl _ h (run_bin_ptr hu ad w xo yo).2
  ·exact h.elim
 ·exact h.elim
def isShift:BinOp→Bool
 | .shl=>true
 | .shr=>true
 | _=>false
def shV (op:BinOp) (k:IntKind) (a b:Int):Int :=
 match op with
 | .shl=>k.wrap (a * 2 ^ min b.toNat k.bits)
 | _=>a.fdiv (2 ^ min b.toNat k.bits)
def shiftWp (op:BinOp) (x y:V) (K:V→Prop):Prop :=
 match x,y with
 | .d (.sc (.int k a)),.d (.sc (.int _ b))=>0≤b∧K (.d (.sc (.int k (shV op k a b))))
 | _,_=>False
def binWp (P:Program) (op:BinOp) (t:TypeId) (s:List Obj) (x y:V) (K:V→Prop):Prop :=
 match isShift op with
 | true=>shiftWp op x y K
 | false=>binWp0 P op t s x y K
theorem bin_sound {P:Program} {op:BinOp} {t:TypeId} {xo yo:Operand} {x y:V} {ux uy:Value} {σ:Gh} {s:List Obj} {w:World} {K:V→Prop} (hx:RepV σ s w x ux) (hy:RepV σ s w y uy) (h:binWp P op t s x y K) :
  ∃v c,(do eqGuard op t xo yo ux uy; binOp op t ux uy:Sem Value).run P w=.ok c w∧RepV σ s w v c∧K v:=by
 unfold binWp at h
 split at h
 ·rename_i hs
  unfold shiftWp at h
  split at h
  ·rename_i k a k' b
   obtain⟨hb,h⟩:=h
   cases hx with | d hx=>?_
   cases hx with | sc _ _=>?_
   cases hy with | d hy=>?_
   cases hy with | sc _ _=>?_
   have hb':¬b < 0:=by omega
   cases op <;> simp only[isShift,Bool.false_eq_true] at hs
   ·exact⟨_,_,by simp [eqGuard,binOp,Op.shift,hb',shV],.d (.sc _ rfl),h⟩
   ·exact⟨_,_,by simp [eqGuard,binOp,Op.shift,hb',shV],.d (.sc _ rfl),h⟩
  ·exact h.elim
 ·exact bin0_sound hx hy h
def unWp (op:UnOp) (x:V) (K:V→Prop):Prop :=
 match op,x with
 | .neg,.d (.sc (.int k n))=>K (.d (.sc (.int k (k.wrap (0 - n)))))
 | .not,.d (.sc (.bool b))=>K (.d (.sc (.bool !b)))
 | _,_=>False
theorem un_sound {P:Program} {op:UnOp} {x:V} {ux:Value} {σ:Gh} {s:List Obj} {w:World} {K:V→Prop} (hx:RepV σ s w x ux) (h:unWp op x K) :
  ∃v c,(Op.unary op ux).run P w=.ok c w∧RepV σ s w v c∧K v:=by
 unfold unWp at h
 split at h
 ·cases hx with | d hx=>?_
  cases hx with | sc _ _=>?_
  exact⟨_,_,by simp [Op.unary,Op.intArith],.d (.sc _ rfl),h⟩
 ·cases hx with | d hx=>?_
  cases hx with | sc _ _=>?_
  exact⟨_,_,by simp [Op.unary],.d (.sc _ rfl),h⟩
 ·exact h.elim
def convWp (P:Program) (src dst:TypeId) (x:V) (K:V→Prop):Prop :=
 match x with
 | .d (.sc (.int _ n))=>match P.underlying src,P.underlying dst with
  | some (.int _),some (.int k)=>K (.d (.sc (.int k (k.wrap n))))
  | _,_=>False
 | _=>False
theorem conv_sound {P:Program} {src dst:TypeId} {x:V} {ux:Value} {σ:Gh} {s:List Obj} {w:World} {K:V→Prop} (hx:RepV σ s w x ux) (h:convWp P src dst x K) :
  ∃v c,(convert src dst ux).run P w=.ok c w∧RepV σ s w v c∧K v:=by
 unfold convWp at h
 split at h
 case h_2=>exact h.elim
 cases hx with | d hx=>?_
 cases hx with | sc _ _=>?_
 split at h
 case h_2=>exact h.elim
 rename_i h1 h2
 exact⟨_,_,by simp [convert,run_underlying h1,run_underlying h2,Conv.intToInt],.d (.sc _ rfl),h⟩
def minmaxWp (mn:Bool) (acc:V):List V→(V→Prop)→Prop
 | [],K=>K acc
 | y::rest,K=>match acc,y with
  | .d (.sc (.int k a)),.d (.sc (.int _ b))=>minmaxWp mn (.d (.sc (.int k (if mn then min a b else max a b)))) rest K
  | _,_=>False
theorem minmax_sound {P:Program} {mn:Bool} {σ:Gh} {s:List Obj} {w:World}:∀(ys:List V) (us:List Value) (acc:V) (c:Value) (K:V→Prop),RepV σ s w acc c→us.length=ys.length →
  (∀(i:Nat) (y:V),ys[i]?=some y→∃u,us[i]?=some u∧RepV σ s w y u)→minmaxWp mn acc ys K →
  ∃v r,(us.foldlM (if mn then Builtin.min2 else Builtin.max2) c).run P w=.ok r w∧RepV σ s w v r∧K v
 | [],[],acc,c,K,hr,_,_,h=>⟨acc,c,by simp,hr,h⟩
 | [],_::_,_,_,_,_,hl,_,_=>by simp at hl
 | _::_,[],_,_,_,_,hl,_,_=>by simp at hl
 | y::ys,u::us,acc,c,K,hr,hl,hy,h=>by
  obtain⟨u',hu,hru⟩:=hy 0 y rfl
  simp only[List.getElem?_cons_zero,Option.some.injEq] at hu
  subst hu
  unfold minmaxWp at h
  split at h
  ·cases hr with | d hr=>?_
   cases hr with | sc _ _=>?_
   cases hru with | d hru=>?_
   cases hru with | sc _ _=>?_
   rename_i k a k' b _ _
   obtain⟨v,r,h1,h2,h3⟩:=minmax_sound (P:=P) (mn:=mn) ys us _ (.int k (if mn then min a b else max a b)) K (.d (.sc _ rfl)) (by simpa using hl) (fun i z hz=>hy (i + 1) z (by simpa using hz)) h
   refine⟨v,r,?_,h2,h3⟩
   rw[List.foldlM_cons]
   cases mn
   ·have:(if b > a then b else a)=max a b:=by omega
    simp only[Bool.false_eq_true,if_false] at h1 ⊢
    simp [Builtin.max2,this,h1]
   ·have:(if b < a then b else a)=min a b:=by omega
    simp only[if_true] at h1 ⊢
    simp [Builtin.min2,this,h1]
  ·exact h.elim
def rawPp (e0:V) (b a:Nat):V :=
 match e0 with
 | .pp id g i off b' a'=>if b'=b∧a'=a then .pp id g i off b' a' else .d (.sc (.pointer (some ⟨b,a,none⟩)))
 | _=>.d (.sc (.pointer (some ⟨b,a,none⟩)))
def liftV (e0:V):D→V
 | .sc (.pointer (some ⟨b,a,none⟩))=>rawPp e0 b a
 | .el [x]=>.bx (liftV e0 x)
 | .cl fn first caps=>.cl fn (go first) (go caps)
 | x=>.d x
where go:List D→List V
 | []=>[]
 | x::l=>liftV e0 x::go l
theorem liftV_go (e0:V):∀l:List D,liftV.go e0 l=l.map (liftV e0)
 | []=>rfl
 | x::l=>by simp [liftV.go,liftV_go e0 l]
theorem liftV_spec {σ:Gh} {s:List Obj} {w:World} {e0:V} {u0:Value} (h0:RepV σ s w e0 u0) {x:D} {u:Value} (hr:RepD (Own σ s) w x u):RepV σ s w (liftV e0 x) u:=by
 have g:∀(l:List D) (i:Nat) (y:V),(l.map (liftV e0))[i]?=some y→∃x,l[i]?=some x∧liftV e0 x=y:=fun l i y hy=>by
  rw[List.getElem?_map] at hy
  exact Option.map_eq_some_iff.1 hy
 induction hr with
 | sc v hv =>
  have hd:RepV σ s w (.d (.sc v)) v:=.d (.sc v hv)
  unfold liftV
  split
  ·rename_i b a hx
   cases hx
   unfold rawPp
   split
   ·split
    ·rename_i hc
     obtain⟨rfl,rfl⟩:=hc
     have:=h0.pp_raw
     subst this
     exact h0
    ·exact hd
   ·exact hd
  ·rename_i hx; cases hx
  ·rename_i hx; cases hx
  ·exact hd
 | nil=>exact .d .nil
 | sl els a cap sz f h1 h2 h3 h4 h5 _=>exact .d (.sl els a cap sz f h1 h2 h3 h4 h5)
 | el cs a f h1 h2 h3 ih =>
  match cs,h2,h3,ih with
  | [],h2,h3,_=>exact .d (.el [] a f h1 h2 h3)
  | [x],h2,h3,ih =>
   simp only[liftV]
   exact .bx h1 (h2 0 x rfl).1 (h2 0 x rfl).2 (h3 0 x rfl).one (ih 0 x rfl)
  | x::y::l,h2,h3,_=>exact .d (.el (x::y::l) a f h1 h2 h3)
 | cl h1 _ h3 _ ih1 ih2 =>
  simp only[liftV,liftV_go]
  refine .cl (by simpa using h1) (fun i y hy=>?_) (by simpa using h3) (fun i y hy=>?_)
  ·obtain⟨x,hx,rfl⟩:=g _ i y hy; exact ih1 i x hx
  ·obtain⟨x,hx,rfl⟩:=g _ i y hy; exact ih2 i x hx
 | ub b=>exact .d (.ub b)
def asCl (e0 x:V):V :=
 match x with
 | .d (.cl fn first caps)=>liftV e0 (.cl fn first caps)
 | .d (.sc (.func fn ⟨[]⟩ ⟨[]⟩))=>.cl fn [] []
 | x=>x
theorem asCl_spec {σ:Gh} {s:List Obj} {w:World} {e0 x:V} {u0 u:Value} (h0:RepV σ s w e0 u0) (hx:RepV σ s w x u):RepV σ s w (asCl e0 x) u:=by
 unfold asCl
 split
 ·cases hx with | d hx=>exact liftV_spec h0 hx
 ·cases hx with
  | d hx =>
   cases hx with
   | sc _ _=>exact .cl rfl (fun i x hx=>by simp at hx) rfl (fun i x hx=>by simp at hx)
 ·exact hx
def okFn (P:Program) (f:FuncId):Bool :=
 match P.funcs[f]? with
 | some fn => fn.name != "runtime.NumGoroutine" && fn.body.isSome
 | none=>false
def callWp (P:Program) (f:FuncId) (args:List V) (s:List Obj) (K:V→List Obj→Prop):Prop :=
 okFn P f=true∧∀(σ:Gh) (w:World) (vals:Array Value),Inv σ s w→vals.size=args.length→(∀(i:Nat) (x:V),args[i]?=some x→RepV σ s w x (vals.getD i undef)) →
  Calls P f vals w fun e w'=>∃u v σ' s',e=.returned u∧Evolve σ s w σ' s' w'∧Inv σ' s' w'∧RepV σ' s' w' v u∧K v s'
theorem callFunc_run {P:Program} {f:FuncId} (h:okFn P f=true) (args:Array Value) (w:World):(callFunc f args).run P w=.ok (.enter f args) w:=by
 unfold okFn at h
 split at h
 ·rename_i fn hf
  simp only[Bool.and_eq_true,bne_iff_ne,ne_eq] at h
  obtain⟨h1,h2⟩:=h
  cases hb:fn.body with
  | none=>rw[hb] at h2; cases h2
  | some c=>simp [callFunc,hf,h1,hb]
 ·cases h
def callOpWp (P:Program) (c:Call) (e:Nat→V) (s:List Obj) (K:V→List Obj→Prop):Prop :=
 match c.callee with
 | .value (.func f)=>callWp P f (c.args.toList.map (ev e)) s K
 | .value f=>match asCl (e 0) (ev e f) with
  | .cl (.func g) first caps=>callWp P g (first++c.args.toList.map (ev e)++caps) s K
  | _=>False
 | .builtin b=>match b,c.args.toList,c.argTypes.toList with
  | .len,[x],[t]=>lenWp P t (ev e x) s fun v=>K v s
  | .append,[a,x],[t,t']=>if t=t' then appendWp P t (ev e a) (ev e x) s K else appendZWp P t t' (ev e a) (ev e x) s K
  | .copy,[a,x],[t,t']=>t=t'∧copyWp P t (ev e a) (ev e x) s K
  | .clear,[x],[t]=>clearWp P t (ev e x) s K
  | .min,x::rest,_=>minmaxWp true (ev e x) (rest.map (ev e)) fun v=>K v s
  | .max,x::rest,_=>minmaxWp false (ev e x) (rest.map (ev e)) fun v=>K v s
  | .cap,[x],[t]=>capWp P t (ev e x) fun v=>K v s
  | _,_,_=>False
 | _=>False
def nilWp (s:List Obj) (x:V) (K:V→Prop):Prop :=
 match x with
 | .d (.el cs)=>K (.d (.el cs))
 | .rf id g i off=>atG s id g fun _=>K (.rf id g i off)
 | .pp id g i off b a=>atG s id g fun _=>K (.pp id g i off b a)
 | .d (.sc (.pointer (some ad)))=>K (.d (.sc (.pointer (some ad))))
 | .cl (.func f) first caps=>K (.cl (.func f) first caps)
 | _=>False
def rawIn (e0:V) (b a:Nat):V :=
 match e0 with
 | .pp id g i off b' a'=>if b'=b∧a'≤a then .rf id g i (off + (a - a')) else .d (.sc (.pointer (some ⟨b,a,none⟩)))
 | _=>.d (.sc (.pointer (some ⟨b,a,none⟩)))
def rawAt (e0 p:V):V :=
 match p with
 | .d (.sc (.pointer (some ⟨b,a,none⟩)))=>rawIn e0 b a
 | p=>p
theorem rawAt_spec {σ:Gh} {s:List Obj} {w:World} {e0 p:V} {u0 u:Value} (h0:RepV σ s w e0 u0) (hp:RepV σ s w p u):RepV σ s w (rawAt e0 p) u:=by
 unfold rawAt
 split
 ·rename_i b a
  unfold rawIn
  split
  ·split
   ·rename_i id g i off b' a' hc
    obtain⟨rfl,hle⟩:=hc
    cases hp with | d hp=>?_
    cases hp with | sc _ _=>?_
    cases h0 with
    | pp o ho hg hk =>
     refine .rf o ho hg rfl fun he=>?_
     obtain⟨base,k1,k2,k3⟩:=hk he
     exact⟨b',base,k1,k2,by congr 3; omega⟩
   ·exact hp
  ·exact hp
 ·exact hp
def boolWp (x:V) (A B:Prop):Prop :=
 match x with
 | .d (.sc (.bool b))=>(b=true→A)∧(b=false→B)
 | _=>False
def tupWp (x:V) (i:Nat) (K:V→Prop):Prop :=
 match x with
 | .tu vs=>match vs[i]? with
  | some v=>K v
  | none=>False
 | _=>False
def opWp (P:Program) (o:Oper) (e:Nat→V) (s:List Obj) (K:V→List Obj→Prop):Prop :=
 match o.op with
 | .move x=>K (ev e x) s
 | .assign x=>K (ev e x) s
 | .pick c a b=>boolWp (ev e c) (K (ev e a) s) (K (ev e b) s)
 | .alloc t=>allocWp P t s K
 | .box _ x=>boxWp s (ev e x) K
 | .build t parts=>buildWp P t (parts.toList.map fun p=>(p.1,ev e p.2)) fun v=>K v s
 | .buildSlice t n parts=>buildSliceWp P t n (parts.toList.map fun p=>(p.1,ev e p.2)) s K
 | .load t a=>loadWp P t s (rawAt (e 0) (ev e a)) fun v=>K v s
 | .store t a x=>storeWp P t s (ev e a) (ev e x) fun s'=>K .un s'
 | .nilCheck x=>nilWp s (ev e x) fun v=>K v s
 | .binOp op t x y _=>bif nilC y then nilSlWp P op t s (ev e x) (fun v=>K v s) else binWp P op t s (ev e x) (ev e y) fun v=>K v s
 | .unOp op _ x=>unWp op (ev e x) fun v=>K v s
 | .convert src dst x=>convWp P src dst (ev e x) fun v=>K v s
 | .makeFunc fn first caps=>K (.cl fn (first.toList.map (ev e)) (caps.toList.map (ev e))) s
 | .makeSlice t l c=>makeSliceWp P t (ev e l) (ev e c) s K
 | .slice t x lo hi mx=>sliceWp P t (ev e x) (lo.map (ev e)) (hi.map (ev e)) (mx.map (ev e)) s fun v=>K v s
 | .fieldAddr t x f=>fieldAddrWp P t s (ev e x) f fun v=>K v s
 | .field t x f=>fieldWp P t (ev e x) f fun v=>K v s
 | .indexAddr t x i=>indexAddrWp P t s (ev e x) (ev e i) fun v=>K v s
 | .index t x i=>indexWp P t (ev e x) (ev e i) fun v=>K v s
 | .extract x i=>tupWp (ev e x) i fun v=>K v s
 | .call c=>callOpWp P c e s K
 | .makeMap t r=>makeMapWp P t r s K
 | .lookup t x i ok=>bif ok then lookKWp P t s (ev e x) (ev e i) (fun v=>K v s) else lookupWp P t s (ev e x) (ev e i) fun v=>K v s
 | .mapUpdate t m k x=>updWp P t s (ev e m) (ev e k) (ev e x) fun s'=>K .un s'
 | .insert t m k x=>updWp P t s (ev e m) (ev e k) (ev e x) fun s'=>K .un s'
 | _=>False
def RepE (σ:Gh) (s:List Obj) (w:World) (N:Nat) (e:Nat→V) (a:Act):Prop :=
 a.defers=[]∧a.tmps.size=N∧∀t,RepV σ s w (e t) (a.tmps.getD t undef)
theorem RepE.ev {σ s w N e a} (h:RepE σ s w N e a) (x:Operand):RepV σ s w (ev e x) (a.eval x):=by
 cases x with
 | tmp t=>exact h.2.2 t
 | const v=>exact cvA_rep v
 | global g=>exact .any
 | func f=>exact .cl rfl (fun i x hx=>by simp at hx) rfl (fun i x hx=>by simp at hx)
def TriOp (P:Program) (o:Oper) (σ:Gh) (s:List Obj) (w:World) (a:Act) (K:V→List Obj→Prop):Prop :=
 o.wp P a w (fun a' w'=>∃u v σ' s',a'=a.put o.dst u∧Evolve σ s w σ' s' w'∧Inv σ' s' w'∧RepV σ' s' w' v u∧K v s') (fun _ _ _=>False)
theorem tri_value {P:Program} {o:Oper} {σ:Gh} {s:List Obj} {w:World} {a:Act} {K:V→List Obj→Prop} {u:Value} {v:V} {σ':Gh} {s':List Obj} {w':World} (hr:(execOp a.eval o).run P w=.ok (.value u) w')
  (hE:Evolve σ s w σ' s' w') (hI:Inv σ' s' w') (hv:RepV σ' s' w' v u) (hK:K v s'):TriOp P o σ s w a K:=by
 unfold TriOp Oper.wp
 rw[hr,Oper.upon_value]
 exact⟨u,v,σ',s',rfl,hE,hI,hv,hK⟩
theorem map_rep {σ:Gh} {s:List Obj} {w:World} {N:Nat} {e:Nat→V} {a:Act} (h:RepE σ s w N e a) (l:List Operand):∀(i:Nat) (x:V),(l.map (ev e))[i]?=some x→∃u,(l.map a.eval)[i]?=some u∧RepV σ s w x u:=by
 intro i x hx
 rw[List.getElem?_map] at hx ⊢
 obtain⟨y,hy,rfl⟩:=Option.map_eq_some_iff.1 hx
 rw[hy]
 exact⟨_,rfl,h.ev y⟩
theorem parts_rep {σ:Gh} {s:List Obj} {w:World} {N:Nat} {e:Nat→V} {a:Act} (h:RepE σ s w N e a) (l:List (Nat × Operand)) :
  ∀(j:Nat) i x,(l.map fun p=>(p.1,ev e p.2))[j]?=some (i,x)→∃u,(l.map fun p=>(p.1,a.eval p.2))[j]?=some (i,u)∧RepV σ s w x u:=by
 intro j i x hx
 rw[List.getElem?_map] at hx ⊢
 obtain⟨y,hy,h'⟩:=Option.map_eq_some_iff.1 hx
 simp only[Prod.mk.injEq] at h'
 obtain⟨rfl,rfl⟩:=h'
 rw[hy]
 exact⟨_,rfl,h.ev y.2⟩
theorem tri_call {P:Program} {o:Oper} {σ:Gh} {s:List Obj} {w:World} {a:Act} {K:V→List Obj→Prop} {f:FuncId} {vals:Array Value} {args:List V} (hr:(execOp a.eval o).run P w=(callFunc f vals).run P w)
  (hI:Inv σ s w) (hl:vals.size=args.length) (hv:∀(i:Nat) (x:V),args[i]?=some x→RepV σ s w x (vals.getD i undef)) (h:callWp P f args s K):TriOp P o σ s w a K:=by
 unfold TriOp Oper.wp
 rw[hr,callFunc_run h.1,Oper.upon_enter]
 refine(h.2 σ w vals hI hl hv).mono fun e w' ⟨u,v,σ',s',he,hE,hI',hR,hK⟩=>?_
 subst he
 exact⟨u,v,σ',s',rfl,hE,hI',hR,hK⟩
theorem getD_of_list {l:List Value} {i:Nat} {u:Value} (h:l[i]?=some u) (d:Value):l.toArray.getD i d=u:=by
 have hlt:=(List.getElem?_eq_some_iff.1 h).1
 have:=(List.getElem?_eq_some_iff.1 h).2
 simp [Array.getD,hlt,this]
theorem opWp_sound {P:Program} {N:Nat} {o:Oper} {σ:Gh} {s:List Obj} {w:World} {e:Nat→V} {a:Act} {K:V→List Obj→Prop} (hI:Inv σ s w) (hR:RepE σ s w N e a) (h:opWp P o e s K):TriOp P o σ s w a K:=by
 obtain⟨dst,op,ty,pos,after,guard⟩:=o
 have ro:∀{v:V} {c:Value} {s1:Sem Value},s1.run P w=.ok c w→(do pure (Next.value (← s1)):Sem Next).run P w=.ok (.value c) w:=fun h=>by simp [h]
 have r1:∀{c:Value} {w':World} {s1:Sem Value},s1.run P w=.ok c w'→(do pure (Next.value (← s1)):Sem Next).run P w=.ok (.value c) w':=fun h=>by simp [h]
 have same:∀{v:V} {c:Value},(execOp a.eval ⟨dst,op,ty,pos,after,guard⟩).run P w=.ok (.value c) w→RepV σ s w v c→K v s→TriOp P ⟨dst,op,ty,pos,after,guard⟩ σ s w a K :=
  fun hr hv hk=>tri_value hr (Evolve.refl _ _ _) hI hv hk
 cases op <;> simp only[opWp] at h
 case move x=>exact same (by simp [execOp]) (hR.ev x) h
 case assign x=>exact same (by simp [execOp]) (hR.ev x) h
 case pick c x y =>
  unfold boolWp at h
  split at h
  ·rename_i b hb
   have hc:=hR.ev c
   rw[hb] at hc
   generalize hcv:a.eval c=cv' at hc
   cases hc with | d hc=>?_
   cases hc with | sc _ _=>?_
   cases b
   ·exact same (c:=a.eval y) (by simp [execOp,hcv,asBool]) (hR.ev y) (h.2 rfl)
   ·exact same (c:=a.eval x) (by simp [execOp,hcv,asBool]) (hR.ev x) (h.1 rfl)
  ·exact h.elim
 case alloc t =>
  obtain⟨v,c,σ',s',w',k1,k2,k3,k4,k5⟩:=alloc_sound hI h
  exact tri_value (by simp only[execOp]; exact r1 k1) k2 k3 k4 k5
 case box t x =>
  obtain⟨v,c,σ',s',w',k1,k2,k3,k4,k5⟩:=box_sound (P:=P) (t:=t) hI (hR.ev x) h
  exact tri_value (by simp only[execOp]; exact r1 k1) k2 k3 k4 k5
 case build t parts =>
  obtain⟨v,c,k1,k2,k3⟩:=build_sound (by simp) (parts_rep hR parts.toList) h
  refine same (c:=c) ?_ k2 k3
  simp only[execOp]
  refine r1 ?_
  rw[← List.map_toArray] at k1
  simpa using k1
 case buildSlice t n parts =>
  obtain⟨v,c,σ',s',w',k1,k2,k3,k4,k5⟩:=buildSlice_sound hI (by simp) (parts_rep hR parts.toList) h
  refine tri_value ?_ k2 k3 k4 k5
  simp only[execOp]
  refine r1 ?_
  rw[← List.map_toArray] at k1
  simpa using k1
 case load t x =>
  obtain⟨v,c,k1,k2,k3⟩:=load_sound hI (rawAt_spec (hR.2.2 0) (hR.ev x)) h
  exact same (by simp only[execOp]; exact r1 k1) k2 k3
 case store t x y =>
  obtain⟨s',w',k1,k2,k3,k4⟩:=store_sound hI (hR.ev x) (hR.ev y) h
  unfold TriOp Oper.wp
  simp only[execOp,Sem.run_bind,k1,Result.andThen_ok,Sem.run_pure,Oper.upon_skip]
  exact⟨undef,.un,σ,s',rfl,k2,k3,.un,k4⟩
 case nilCheck x =>
  unfold nilWp at h
  have hx:=hR.ev x
  split at h
  ·rename_i hx'
   rw[hx'] at hx
   generalize hcv:a.eval x=cv' at hx
   cases hx with | d hx=>?_
   cases hx with | el _ ad f h1 h2 h3=>?_
   exact same (c:=.pointer (some ad)) (by simp [execOp,hcv]) (.d (.el _ ad f h1 h2 h3)) h
  ·rename_i hx'
   obtain⟨o,ho,hg,h⟩:=atG_spec h
   rw[hx'] at hx
   obtain⟨b,base,_,_,hp⟩:=rf_ptr hx ho hg
   exact same (c:=a.eval x) (by simp [execOp,hp]) hx h
  ·rename_i hx'
   obtain⟨o,ho,hg,h⟩:=atG_spec h
   rw[hx'] at hx
   have hp:=hx.pp_raw
   exact same (c:=a.eval x) (by simp [execOp,hp]) hx h
  ·rename_i hx'
   rw[hx'] at hx
   generalize hcv:a.eval x=cv' at hx
   cases hx with | d hx=>?_
   cases hx with | sc _ hv=>?_
   exact same (by simp [execOp,hcv]) (.d (.sc _ hv)) h
  ·rename_i hx'
   rw[hx'] at hx
   generalize hcv:a.eval x=cv' at hx
   cases hx with | cl h1 h2 h3 h4=>?_
   exact same (c:=.func _ _ _) (by simp [execOp,hcv]) (.cl h1 h2 h3 h4) h
  ·exact h.elim
 case binOp op t x y yt =>
  cases hn:nilC y with
  | true =>
   simp only[hn,cond_true] at h
   have hy:y=.const (.slice none 0 0):=by
    unfold nilC at hn
    split at hn
    ·rfl
    ·cases hn
   subst hy
   obtain⟨v,c,k1,k2,k3⟩:=nilSl_sound (xo:=x) (yo:=.const (.slice none 0 0)) (hR.ev x) h
   exact same (by simp only[execOp]; exact r1 k1) k2 k3
  | false =>
   simp only[hn,cond_false] at h
   obtain⟨v,c,k1,k2,k3⟩:=bin_sound (xo:=x) (yo:=y) (hR.ev x) (hR.ev y) h
   exact same (by simp only[execOp]; exact r1 k1) k2 k3
 case unOp op t x =>
  obtain⟨v,c,k1,k2,k3⟩:=un_sound (P:=P) (hR.ev x) h
  exact same (by simp only[execOp]; exact r1 k1) k2 k3
 case convert src d x =>
  obtain⟨v,c,k1,k2,k3⟩:=conv_sound (hR.ev x) h
  exact same (by simp only[execOp]; exact r1 k1) k2 k3
 case makeFunc fn first caps =>
  have key:∀(l:Array Operand) (i:Nat) (x:V),(l.toList.map (ev e))[i]?=some x→RepV σ s w x ((l.map a.eval).getD i undef):=by
   intro l i x hx
   obtain⟨u,h1,h2⟩:=map_rep hR l.toList i x hx
   have:=getD_of_list h1 undef
   rw[← List.map_toArray] at this
   simp only[Array.toArray_toList] at this
   rw[this]; exact h2
  refine same (c:=.func fn (first.map a.eval) (caps.map a.eval)) (by simp [execOp,Instr.makeFunc]) (.cl (by simp) (key first) (by simp) (key caps)) h
 case makeSlice t l c =>
  obtain⟨v,r,σ',s',w',k1,k2,k3,k4,k5⟩:=makeSlice_sound hI (hR.ev l) (hR.ev c) h
  exact tri_value (by simp only[execOp]; exact r1 k1) k2 k3 k4 k5
 case slice t x lo hi mx =>
  have opt:∀(y:Option Operand) (v:V),y.map (ev e)=some v→∃c,y.map a.eval=some c∧RepV σ s w v c:=by
   intro y v hv
   cases y with
   | none=>cases hv
   | some y=>simp only[Option.map_some,Option.some.injEq] at hv; subst hv; exact⟨_,rfl,hR.ev y⟩
  have optn:∀(y:Option Operand),y.map (ev e)=none→y.map a.eval=none:=by
   intro y hv
   cases y with
   | none=>rfl
   | some y=>cases hv
  obtain⟨v,c,k1,k2,k3⟩:=slice_sound (hR.ev x) (opt lo) (optn lo) (opt hi) (optn hi) (opt mx) (optn mx) h
  exact same (by simp only[execOp]; exact r1 k1) k2 k3
 case fieldAddr t x f =>
  obtain⟨v,c,k1,k2,k3⟩:=fieldAddr_sound (hR.ev x) h
  exact same (by simp only[execOp]; exact r1 k1) k2 k3
 case field t x f =>
  obtain⟨v,c,k1,k2,k3⟩:=field_sound (hR.ev x) h
  exact same (by simp only[execOp]; exact r1 k1) k2 k3
 case indexAddr t x i =>
  obtain⟨v,c,k1,k2,k3⟩:=indexAddr_sound (hR.ev x) (hR.ev i) h
  exact same (by simp only[execOp]; exact r1 k1) k2 k3
 case index t x i =>
  obtain⟨v,c,k1,k2,k3⟩:=index_sound (hR.ev x) (hR.ev i) h
  exact same (by simp only[execOp]; exact r1 k1) k2 k3
 case extract x i =>
  unfold tupWp at h
  have hx:=hR.ev x
  split at h
  case h_2=>exact h.elim
  rename_i vs hx'
  rw[hx'] at hx
  split at h
  case h_2=>exact h.elim
  rename_i v hv
  generalize hcv:a.eval x=cv' at hx
  cases hx with | tu h1 h2=>?_
  rename_i arr
  have hlt:=(List.getElem?_eq_some_iff.1 hv).1
  obtain⟨c,hc⟩:∃c,arr[i]?=some c:=⟨arr[i]'(by omega),by rw[Array.getElem?_eq_getElem]⟩
  have hd:arr.getD i undef=c:=by rw[Array.getD_eq_getD_getElem?,hc]; rfl
  exact same (c:=c) (by simp [execOp,hcv,Instr.extract,hc]) (by rw[← hd]; exact h2 i v hv) h
 case makeMap t r =>
  obtain⟨v,c,σ',s',w',k1,k2,k3,k4,k5⟩:=makeMap_sound (P:=P) hI h
  have hr:r=none:=h.1
  subst hr
  exact tri_value (by simp only[execOp,Option.map_none]; exact r1 k1) k2 k3 k4 k5
 case lookup t x i ok =>
  cases ok with
  | true =>
   simp only[cond_true] at h
   obtain⟨v,c,k1,k2,k3⟩:=lookK_sound hI (hR.ev x) (hR.ev i) h
   exact same (by simp only[execOp]; exact r1 k1) k2 k3
  | false =>
   simp only[cond_false] at h
   obtain⟨v,c,k1,k2,k3⟩:=lookup_sound hI (hR.ev x) (hR.ev i) h
   exact same (by simp only[execOp]; exact r1 k1) k2 k3
 case mapUpdate t x y z =>
  obtain⟨s',w',k1,k2,k3,k4⟩:=upd_sound hI (hR.ev x) (hR.ev y) (hR.ev z) h
  unfold TriOp Oper.wp
  simp only[execOp,Sem.run_bind,k1,Result.andThen_ok,Sem.run_pure,Oper.upon_skip]
  exact⟨undef,.un,σ,s',rfl,k2,k3,.un,k4⟩
 case insert t x y z =>
  obtain⟨s',w',k1,k2,k3,k4⟩:=upd_sound hI (hR.ev x) (hR.ev y) (hR.ev z) h
  unfold TriOp Oper.wp
  simp only[execOp,Sem.run_bind,k1,Result.andThen_ok,Sem.run_pure,Oper.upon_skip]
  exact⟨undef,.un,σ,s',rfl,k2,k3,.un,k4⟩
 case call c =>
  obtain⟨callee,args,argTypes⟩:=c
  unfold callOpWp at h
  have argsRep:∀(l:List Operand),l=args.toList→∀(i:Nat) (x:V),(l.map (ev e))[i]?=some x→∃u,(args.map a.eval).toList[i]?=some u∧RepV σ s w x u:=by
   rintro l rfl i x hx
   obtain⟨u,h1,h2⟩:=map_rep hR args.toList i x hx
   exact⟨u,by simpa using h1,h2⟩
  split at h
  ·rename_i f hf
   simp only at hf
   subst hf
   refine tri_call (f:=f) (vals:=args.map a.eval) (by
    rw[execOp_call_go,Array.empty_append,Array.append_empty]) hI (by simp) (fun i x hx=>?_) h
   obtain⟨u,h1,h2⟩:=argsRep _ rfl i x hx
   have:=getD_of_list h1 undef
   simp only[Array.toArray_toList] at this
   rw[this]; exact h2
  ·rename_i f _ hf
   simp only at hf
   subst hf
   split at h
   ·rename_i g first caps hcl
    have hx:=asCl_spec (hR.2.2 0) (hR.ev f)
    rw[hcl] at hx
    generalize hcv:a.eval f=cv' at hx
    cases hx with | cl h1 h2 h3 h4=>?_
    rename_i f' c'
    refine tri_call (f:=g) (vals:=f'++args.map a.eval++c') (by
     simp [execOp,resolve,hcv,Deferred.ofValue,invoke]) hI (by simp [h1,h3]) (fun i x hx=>?_) h
    have gd:∀(arr:Array Value) (j:Nat),j < arr.size→arr[j]?=some (arr.getD j undef):=fun arr j hj=>by simp [Array.getD,hj]
    by_cases hi1:i < first.length
    ·rw[List.append_assoc,List.getElem?_append_left hi1] at hx
     have:(f'++args.map a.eval++c').getD i undef=f'.getD i undef:=by
      rw[Array.getD_eq_getD_getElem?,Array.append_assoc,Array.getElem?_append_left (by omega),Array.getD_eq_getD_getElem?]
     rw[this]; exact h2 i x hx
    ·rw[List.append_assoc,List.getElem?_append_right (by omega)] at hx
     simp only at hx
     by_cases hi2:i - first.length < (args.toList.map (ev e)).length
     ·rw[List.getElem?_append_left hi2] at hx
      obtain⟨u,k1,k2⟩:=argsRep _ rfl _ x hx
      have:(f'++args.map a.eval++c').getD i undef=u:=by
       rw[Array.getD_eq_getD_getElem?,Array.append_assoc,Array.getElem?_append_right (by omega),Array.getElem?_append_left (by simp at hi2 ⊢; omega),h1]
       rw[Array.getElem?_toList] at k1
       rw[k1]; rfl
      rw[this]; exact k2
     ·rw[List.getElem?_append_right (by omega)] at hx
      have:(f'++args.map a.eval++c').getD i undef=c'.getD (i - first.length - (args.toList.map (ev e)).length) undef:=by
       rw[Array.getD_eq_getD_getElem?,Array.append_assoc,Array.getElem?_append_right (by omega),Array.getElem?_append_right (by simp at hi2 ⊢; omega),Array.getD_eq_getD_getElem?]
       congr 2
       simp [h1]
      rw[this]; exact h4 _ x hx
   ·exact h.elim
  ·rename_i b hb
   simp only at hb
   subst hb
   have hargs:∀(l:List Operand),args.toList=l→args=l.toArray:=fun l hl=>by rw[← hl]
   have hats:∀(l:List TypeId),argTypes.toList=l→argTypes=l.toArray:=fun l hl=>by rw[← hl]
   split at h
   ·rename_i x t h1 h2
    have e1:=hargs _ h1
    have e2:=hats _ h2
    subst e1; subst e2
    obtain⟨v,c,k1,k2,k3⟩:=len_sound (ty:=ty) hI (hR.ev x) h
    exact same (by simp [execOp,resolve,invoke,builtin,k1]) k2 k3
   ·rename_i x y t t' h1 h2
    have e1:=hargs _ h1
    have e2:=hats _ h2
    subst e1; subst e2
    split at h
    ·rename_i ht
     subst ht
     obtain⟨v,r,σ',s',w',k1,k2,k3,k4,k5⟩:=append_sound (ty:=ty) hI (hR.ev x) (hR.ev y) h
     exact tri_value (by simp [execOp,resolve,invoke,builtin,k1]) k2 k3 k4 k5
    ·obtain⟨v,r,σ',s',w',k1,k2,k3,k4,k5⟩:=appendZ_sound (ty:=ty) hI (hR.ev x) (hR.ev y) h
     exact tri_value (by simp [execOp,resolve,invoke,builtin,k1]) k2 k3 k4 k5
   ·rename_i x y t t' h1 h2
    have e1:=hargs _ h1
    have e2:=hats _ h2
    subst e1; subst e2
    obtain⟨rfl,h⟩:=h
    obtain⟨v,r,s',w',k1,k2,k3,k4,k5⟩:=copy_sound (ty:=ty) hI (hR.ev x) (hR.ev y) h
    exact tri_value (by simp [execOp,resolve,invoke,builtin,k1]) k2 k3 k4 k5
   ·rename_i x t h1 h2
    have e1:=hargs _ h1
    have e2:=hats _ h2
    subst e1; subst e2
    obtain⟨v,r,s',w',k1,k2,k3,k4,k5⟩:=clear_sound (ty:=ty) hI (hR.ev x) h
    exact tri_value (by simp [execOp,resolve,invoke,builtin,k1]) k2 k3 k4 k5
   ·rename_i x rest h1
    have e1:=hargs _ h1
    subst e1
    obtain⟨v,r,k1,k2,k3⟩:=minmax_sound (P:=P) (mn:=true) (rest.map (ev e)) (rest.map a.eval) (ev e x) (a.eval x) _ (hR.ev x) (by simp) (map_rep hR rest) h
    simp only[if_true] at k1
    exact same (by simp [execOp,resolve,invoke,builtin,Builtin.min_,k1]) k2 k3
   ·rename_i x rest h1
    have e1:=hargs _ h1
    subst e1
    obtain⟨v,r,k1,k2,k3⟩:=minmax_sound (P:=P) (mn:=false) (rest.map (ev e)) (rest.map a.eval) (ev e x) (a.eval x) _ (hR.ev x) (by simp) (map_rep hR rest) h
    simp only[Bool.false_eq_true,if_false] at k1
    exact same (by simp [execOp,resolve,invoke,builtin,Builtin.max_,k1]) k2 k3
   ·rename_i x t h1 h2
    have e1:=hargs _ h1
    have e2:=hats _ h2
    subst e1; subst e2
    obtain⟨v,c,k1,k2,k3⟩:=cap_sound (ty:=ty) (hR.ev x) h
    exact same (by simp [execOp,resolve,invoke,builtin,k1]) k2 k3
   ·exact h.elim
  ·exact h.elim
def rdF (r:Option Nat):Fence:={ Fence.wide with round:=r }
theorem rdF_room (r:Option Nat) (n:Nat):(rdF r).room n:=fun _ h=>by simp [rdF,Fence.wide] at h
def Act.wD (a:Act) (D:List Deferred):Act:={ a with defers:=D }
theorem wD_nil {a:Act} (h:a.defers=[]):Act.wD a []=a:=by cases a; simp only at h; subst h; rfl
theorem wD_wD (a:Act) (D D':List Deferred):Act.wD (Act.wD a D) D'=Act.wD a D':=rfl
theorem wD_of {a:Act} {D:List Deferred} (h:a.defers=D):Act.wD (Act.wD a []) D=a:=by cases a; simp only at h; subst h; rfl
theorem wD_eval (a:Act) (D:List Deferred):(Act.wD a D).eval=a.eval:=by funext x; cases x <;> rfl
theorem wD_put (a:Act) (D:List Deferred) (d:Option Nat) (v:Value):(Act.wD a D).put d v=Act.wD (a.put d v) D:=by cases d <;> rfl
def isBook:Go.Obj→Bool
 | .deferred _=>true
 | .loop _=>true
 | _=>false
def KeepD (w w':World):Prop:=∀(b:Nat) (o:Go.Obj),w.heap[b]?=some o→isBook o=true→w'.heap[b]?=some o
theorem KeepD.refl (w:World):KeepD w w:=fun _ _ h _=>h
theorem KeepD.trans {w w' w'':World} (h:KeepD w w') (k:KeepD w' w''):KeepD w w'':=fun b o ho hb=>k b o (h b o ho hb) hb
theorem KeepD.of {σ σ':Gh} {s s':List Obj} {w w':World} (hI:Inv σ s w) (hE:Evolve σ s w σ' s' w'):KeepD w w':=by
 intro b o ho hb
 have hlt:=lt_heap ho
 by_cases hO:Own σ s b
 ·rcases hO with h | ⟨id,ob,base,h1,h2,h3⟩
  ·rw[hE.foreign b hlt h]; exact ho
  ·exfalso
   rcases hI.content id ob h1 with (⟨h4,_⟩ | ⟨b',es,c,h4,h5,_⟩) | ⟨b',base',arr,E,h4,h5,_⟩
   ·rw[h3] at h4; cases h4
   ·rw[h3] at h4; cases h4; rw[h5] at ho; cases ho; cases hb
   ·rw[h3] at h4; cases h4; rw[h5] at ho; cases ho; cases hb
 ·rw[hE.keep b hlt hO]; exact ho
def QR (w0:World) (D:List Deferred) (Q:Exit→Act→World→Prop):Exit→Act→World→Prop:=fun ex a w=>a.defers=D∧KeepD w0 w∧Q ex (Act.wD a []) w
def wpR (P:Program) (c:Code) (Q:Exit→Act→World→Prop) (a:Act) (w:World):Prop :=
 ∀(r:Option Nat) (D:List Deferred),c.wpIn (rdF r) 0 P (QR w D Q) (Act.wD a D) w
section
variable {P:Program} {Q:Exit→Act→World→Prop} {a:Act} {w:World}
theorem wpR.wp {c:Code} (ha:a.defers=[]) (h:wpR P c Q a w):c.wp P Q a w:=by
 have h1:=h none []
 rw[wD_nil ha] at h1
 refine wpIn_wide.1 (wpIn_mono (F:=Fence.wide) (n:=0) (show c.wpIn Fence.wide 0 P (QR w [] Q) a w from h1) fun ex a' w' ⟨h2,_,h3⟩=>?_)
 rwa [wD_nil h2] at h3
theorem wpR_mono {c:Code} {Q':Exit→Act→World→Prop} (h:wpR P c Q a w) (hq:∀e a w,Q e a w→Q' e a w):wpR P c Q' a w :=
 fun r D=>wpIn_mono (h r D) fun _ _ _ ⟨h1,hk,h2⟩=>⟨h1,hk,hq _ _ _ h2⟩
theorem QR_of {w0:World} {D:List Deferred} {ex:Exit} (hk:KeepD w0 w) (h:a.defers=[]) (hq:Q ex a w):QR w0 D Q ex (Act.wD a D) w:=⟨rfl,hk,by rw[wD_wD,wD_nil h]; exact hq⟩
theorem wpR_skip (ha:a.defers=[]) (h:Q .normal a w):wpR P .skip Q a w:=fun _ _=>wpIn_skip (QR_of (.refl _) ha h)
theorem wpR_label {l:Nat} (ha:a.defers=[]) (h:Q .normal a w):wpR P (.label l) Q a w:=fun _ _=>wpIn_label (QR_of (.refl _) ha h)
theorem wpR_exit {id:Nat} (ha:a.defers=[]) (h:Q (.exit id) a w):wpR P (.exit id) Q a w:=fun _ _=>wpIn_exit (QR_of (.refl _) ha h)
theorem wpR_ret (ha:a.defers=[]) (h:Q .ret a w):wpR P .ret Q a w:=fun _ _=>wpIn_ret (QR_of (.refl _) ha h)
theorem wpR_seq {x y:Code} (h:wpR P x (Exit.then (wpR P y Q) Q) a w):wpR P (.seq x y) Q a w:=by
 intro r D
 refine wpIn_seq (wpIn_mono (h r D) fun ex a' w' ⟨h1,hk,h2⟩=>?_)
 cases ex with
 | normal =>
  have:=h2 r D
  rw[wD_of h1] at this
  exact wpIn_mono this fun _ _ _ ⟨h3,hk3,h4⟩=>⟨h3,hk.trans hk3,h4⟩
 | _=>exact⟨h1,hk,h2⟩
theorem wpR_cond_split {c:Operand} {x y:Code} {t:Bool} (hc:a.eval c=.bool t) (ht:t=true→wpR P x Q a w) (hf:t=false→wpR P y Q a w):wpR P (.cond c x y) Q a w :=
 fun r D=>wpIn_cond_split (by rw[wD_eval]; exact hc) (fun h=>ht h r D) (fun h=>hf h r D)
theorem wpR_block {id:Nat} {c:Code} (h:wpR P c (Exit.inBlock id Q) a w):wpR P (.block id c) Q a w:=by
 intro r D
 refine wpIn_block (wpIn_mono (h r D) fun ex a' w' ⟨h1,hk,h2⟩=>?_)
 cases ex with
 | exit i =>
  unfold Exit.inBlock at h2 ⊢
  simp only at h2 ⊢
  split
  ·rename_i hi; rw[if_pos hi] at h2; exact⟨h1,hk,h2⟩
  ·rename_i hi; rw[if_neg hi] at h2; exact⟨h1,hk,h2⟩
 | _=>exact⟨h1,hk,h2⟩
theorem wpR_loop {c:Code} (I:Act→World→Prop) (μ:Act→World→Nat) (h₀:I a w) (hd:a.defers=[])
  (round:∀a w,I a w→wpR P c (Exit.then (fun a' w'=>I a' w'∧μ a' w' < μ a w) Q) a w):wpR P (.loop c) Q a w:=by
 intro r D
 refine wpIn_loop (fun a w'=>a.defers=D∧KeepD w w'∧I (Act.wD a []) w') (fun a w=>μ (Act.wD a []) w) ⟨rfl,.refl _,by rw[wD_wD,wD_nil hd]; exact h₀⟩ fun a1 w1 ⟨h1,hk,h2⟩=>?_
 have:=round _ _ h2 r D
 rw[wD_of h1] at this
 refine wpIn_mono this fun ex a' w' ⟨h3,hk3,h4⟩=>?_
 cases ex with
 | normal=>exact⟨⟨h3,hk.trans hk3,h4.1⟩,h4.2⟩
 | _=>exact⟨h3,hk.trans hk3,h4⟩
theorem stepR_scope {b:Frame} {k:List Item} {cs:List Frame} {c:Code}:step P (lone (b.atR a (.code (.scope c)::k)) cs w)=.next (lone (b.atR a (.code c::.inScope c::k)) cs w) :=
 step_lone_go (by simp [stepG,stepG.exec,Frame.atR])
theorem stepR_inScope {b:Frame} {k:List Item} {cs:List Frame} {c:Code}:step P (lone (b.atR a (.inScope c::k)) cs w)=.next (lone (b.atR a k) cs w) :=
 step_lone_go (by simp [stepG,stepG.exec,Frame.atR])
theorem wpIn_scope_straight {F:Fence} {n:Nat} {c:Code} (h:c.wpIn F n P (Exit.noGoto Q) a w):(Code.scope c).wpIn F n P Q a w:=by
 intro b k cs hro hb hr
 have h0:(lone (b.atR a (.code (.scope c)::k)) cs w).fenced P F:=fenced_calm hb hr rfl
 obtain⟨e,a₁,w₁,hq,harr⟩:=h b (.inScope c::k) cs hro hb hr
 cases e with
 | normal=>exact⟨.normal,a₁,w₁,hq,.head h0 stepR_scope (StepsIn.trans harr (.one (fenced_calm hb hr rfl) stepR_inScope))⟩
 | exit id =>
  have hx:exitTo id (.inScope c::k)=exitTo id k:=by simp [exitTo]
  exact⟨_,a₁,w₁,hq,fun k' hk=>.head h0 stepR_scope (harr.1 k' (by rw[hx]; exact hk)),
   fun hr' hk=>let ⟨k₁,h1,h2⟩:=harr.2 hr' (by rw[hx]; exact hk); ⟨k₁,h1,.head h0 stepR_scope h2⟩⟩
 | goto l=>exact hq.elim
 | ret=>exact⟨_,a₁,w₁,hq,.of_steps (.one h0 stepR_scope) harr⟩
 | panic ch=>exact⟨_,a₁,w₁,hq,.of_steps (.one h0 stepR_scope) harr⟩
 | outgrown=>exact⟨_,a₁,w₁,hq,.of_steps (.one h0 stepR_scope) harr⟩
theorem wpR_scope_straight {c:Code} (h:wpR P c (Exit.noGoto Q) a w):wpR P (.scope c) Q a w:=by
 intro r D
 refine wpIn_scope_straight (wpIn_mono (h r D) fun ex a' w' ⟨h1,hk,h2⟩=>?_)
 cases ex with
 | goto l=>exact h2
 | _=>exact⟨h1,hk,h2⟩
theorem callsIn_rd {r:Option Nat} {n:Nat} {f:FuncId} {args:Array Value} {R:Ending→World→Prop} (h:Calls P f args w R):CallsIn (rdF r) n P f args w R:=by
 have:=(callsIn_wide (n:=n)).2 h
 exact⟨trivial,fun cs hr=>this.2 cs (room_wide _)⟩
theorem no_defer {o:Oper} {K:Act→World→Prop} (hK:∀a' w',K a' w'→a'.defers=a.defers) (h:o.wp P a w K (fun _ _ _=>False)):∀c,o.op≠.defer c:=by
 intro c hc
 unfold Oper.wp at h
 have hx:execOp a.eval o=(do return Next.defer (← resolve a.eval c o.type)):=by simp only[execOp,hc]
 rw[hx] at h
 simp only[Sem.run_bind,Sem.run_pure] at h
 generalize (resolve a.eval c o.type).run P w=r at h
 cases r with
 | ok d w' =>
  have:=hK _ _ h
  cases hd:o.dst <;> simp [hd,Act.put] at this
 | halt x w'=>cases x <;> exact h
theorem oper_rd {o:Oper} {r:Option Nat} {D:List Deferred} {K:Act→World→Prop} {Q':Exit→Act→World→Prop} (hK:∀a' w',K a' w'→∃u,a'=a.put o.dst u) (h:o.wp P a w K (fun _ _ _=>False)) :
  o.wpIn (rdF r) 0 P (Act.wD a D) w (fun a' w'=>∃a0,a'=Act.wD a0 D∧K a0 w') Q':=by
 have hnd:=no_defer (fun a' w' hk=>by obtain⟨u,rfl⟩:=hK a' w' hk; cases o.dst <;> rfl) h
 refine⟨fun f hf=>trivial,?_⟩
 rw[wD_eval,Oper.semAt_eq _ _ _ hnd]
 unfold Oper.wp at h
 generalize (execOp a.eval o).run P w=res at *
 cases res with
 | ok n w' =>
  cases n <;> simp only[Oper.upon,Oper.uponIn] at h ⊢
  case value v=>exact⟨_,wD_put _ _ _ _,h⟩
  case skip=>exact⟨_,wD_put _ _ _ _,h⟩
  case defer d =>
   obtain⟨u,hu⟩:=hK _ _ h
   exfalso
   have:=congrArg Act.defers hu
   cases hd:o.dst <;> simp [hd,Act.put] at this
  case enter f args =>
   refine⟨fun h'=>by simp [rdF,Fence.wide] at h',callsIn_rd (Calls.mono h fun e w'' he=>?_)⟩
   cases e with
   | returned v=>exact⟨_,wD_put _ _ _ _,he⟩
   | panicked ch=>exact he.elim
   | outgrown=>obtain⟨_,_,h'⟩:=he; exact h'.elim
  case row row args =>
   refine⟨fun h'=>by simp [rdF,Fence.wide] at h',fun c cs _=>?_⟩
   obtain⟨v,w2,h1,h2⟩:=h c cs
   exact⟨v,w2,⟨_,wD_put _ _ _ _,h1⟩,stepsIn_wide.2 h2⟩
 | halt x w'=>cases x <;> simp only[Oper.upon] at h
end
abbrev Env:=Nat→V
def updE (e:Env) (d:Nat) (v:V):Env:=fun t=>if t=d then v else e t
def updO (e:Env) (d:Option Nat) (v:V):Env :=
 match d with
 | none=>e
 | some d=>updE e d v
def dstOk (N:Nat) (d:Option Nat):Prop :=
 match d with
 | none=>True
 | some d=>d < N
theorem RepE.put {σ s w N e a} (h:RepE σ s w N e a) {d:Option Nat} (hd:dstOk N d) {v:V} {u:Value} (hv:RepV σ s w v u):RepE σ s w N (updO e d v) (a.put d u):=by
 cases d with
 | none=>exact h
 | some d =>
  have hd':d < N:=hd
  refine⟨h.1,by simp [Act.put,h.2.1],fun t=>?_⟩
  simp only[Act.put,updO,updE]
  by_cases ht:t=d
  ·subst ht
   rw[if_pos rfl,Array.getD_eq_getD_getElem?,Array.getElem?_setIfInBounds_self_of_lt (by rw[h.2.1]; exact hd')]
   exact hv
  ·rw[if_neg ht,Array.getD_eq_getD_getElem?,Array.getElem?_setIfInBounds_ne (Ne.symm ht),← Array.getD_eq_getD_getElem?]
   exact h.2.2 t
def trimE (M:Nat) (e:Env):Env:=fun t=>if (M >>> t) % 2=1 then e t else .any
theorem trimE_app {M:Nat} {e:Env} {t:Nat}:trimE M e t=if (M >>> t) % 2=1 then e t else .any:=(rfl)
theorem trimE_upd {M:Nat} {e:Env} {d:Nat} {v:V}:trimE M (updE e d v)=if (M >>> d) % 2=1 then updE (trimE M e) d v else trimE M e:=by
 split <;> rename_i h <;> funext t <;> simp only[trimE,updE]
 ·by_cases ht:t=d
  ·subst ht; simp [h]
  ·simp [ht]
 ·by_cases ht:t=d
  ·subst ht; simp [h]
  ·simp [ht]
theorem trimE_trim {M:Nat} {e:Env}:trimE M (trimE M e)=trimE M e:=by
 funext t; simp only[trimE]; split <;> rfl
theorem RepE.trim {σ s w N M e a} (h:RepE σ s w N e a):RepE σ s w N (trimE M e) a:=by
 refine⟨h.1,h.2.1,fun t=>?_⟩
 unfold trimE
 split
 ·exact h.2.2 t
 ·exact .any
theorem RepE.evolve {σ s w σ' s' w' N e a} (h:RepE σ s w N e a) (hE:Evolve σ s w σ' s' w'):RepE σ' s' w' N e a :=
 ⟨h.1,h.2.1,fun t=>(h.2.2 t).evolve hE⟩
def gslot (full:List Oper) (g:Nat):Option Nat :=
 match full[g]? with
 | some o=>o.dst
 | none=>none
def guardWp (d:Option Nat) (e:Env) (want:Bool) (A B:Env→Prop):Prop :=
 match d with
 | none=>False
 | some d=>match e d with
  | .d (.sc (.bool b))=>(b=want→A (updE e d (.d (.sc (.bool want)))))∧(b=(!want)→B (updE e d (.d (.sc (.bool (!want))))))
  | .un=>B e
  | _=>False
theorem RepE.same {σ s w N e a} (h:RepE σ s w N e a) {d:Nat} {v:V} (hv:e d=v):RepE σ s w N (updE e d v) a:=by
 refine⟨h.1,h.2.1,fun t=>?_⟩
 unfold updE
 split
 ·rename_i ht; subst ht; rw[← hv]; exact h.2.2 _
 ·exact h.2.2 t
theorem guard_spec {full:List Oper} {σ s w N e a} (h:RepE σ s w N e a) {g:Nat} {want:Bool} {o:Oper} (ho:o.guard=some (g,want)) {A B:Env→Prop} (hg:guardWp (gslot full g) e want A B) :
  ∃e',RepE σ s w N e' a∧((Region.wanted o (yielded full.toArray a.tmps)=true∧A e')∨(Region.wanted o (yielded full.toArray a.tmps)=false∧B e')):=by
 unfold guardWp at hg
 unfold Region.wanted
 rw[ho]
 simp only
 split at hg
 case h_1=>exact hg.elim
 rename_i d hd
 unfold gslot at hd
 split at hd
 case h_2=>cases hd
 rename_i og hog
 have hr:=h.2.2 d
 split at hg
 ·rename_i b hb
  rw[hb] at hr
  generalize hcv:a.tmps.getD d undef=c at hr
  cases hr with | d hr=>?_
  cases hr with | sc _ _=>?_
  have hsome:a.tmps[d]?=some (.bool b):=by
   rw[Array.getD_eq_getD_getElem?] at hcv
   cases hx:a.tmps[d]? with
   | none=>rw[hx] at hcv; cases hcv
   | some y=>rw[hx] at hcv; simp only[Option.getD_some] at hcv; rw[hcv]
  have hy:yielded full.toArray a.tmps g=some b:=by simp [yielded,hog,hd,hsome]
  rw[hy]
  by_cases hbw:b=want
  ·subst hbw
   exact⟨_,h.same hb,.inl ⟨by simp,hg.1 rfl⟩⟩
  ·have hbn:b=!want:=by cases b <;> cases want <;> simp_all
   subst hbn
   exact⟨_,h.same hb,.inr ⟨by simp,hg.2 rfl⟩⟩
 ·rename_i hb
  rw[hb] at hr
  generalize hcv:a.tmps.getD d undef=c at hr
  cases hr
  have hy:yielded full.toArray a.tmps g=none:=by
   rw[Array.getD_eq_getD_getElem?] at hcv
   cases hx:a.tmps[d]? with
   | none=>simp [yielded,hog,hd,hx]
   | some y=>rw[hx] at hcv; simp only[Option.getD_some] at hcv; simp [yielded,hog,hd,hx,hcv,undef]
  exact⟨e,h,.inr ⟨by rw[hy]; rfl,hg⟩⟩
 ·exact hg.elim
def opsWp (P:Program) (N:Nat) (full:List Oper):List Oper→Env→List Obj→(Env→List Obj→Prop)→Prop
 | [],e,s,K=>K e s
 | o::rest,e,s,K=>dstOk N o.dst∧match o.guard with
  | none=>opWp P o e s fun v s'=>opsWp P N full rest (updO e o.dst v) s' K
  | some (g,want)=>guardWp (gslot full g) e want (fun e=>opWp P o e s fun v s'=>opsWp P N full rest (updO e o.dst v) s' K) (fun e=>opsWp P N full rest (updO e o.dst .un) s K)
def QX (σ0:Gh) (s0:List Obj) (w0:World) (N:Nat) (Q:Exit→Env→List Obj→Prop):Exit→Act→World→Prop :=
 fun ex a w=>∃e σ s,Evolve σ0 s0 w0 σ s w∧Inv σ s w∧RepE σ s w N e a∧Q ex e s
theorem opsWp_sound {P:Program} {N:Nat} {full:List Oper} {σ0:Gh} {s0:List Obj} {w0:World} {Q:Exit→Env→List Obj→Prop} {r:Option Nat} {D:List Deferred} {ws:World}:∀(l:List Oper) (e:Env) (s:List Obj) (σ:Gh) (w:World) (a:Act),
  KeepD ws w→Evolve σ0 s0 w0 σ s w→Inv σ s w→RepE σ s w N e a→opsWp P N full l e s (fun e s=>Q .normal e s)→wpListIn (rdF r) 0 P full.toArray (QR ws D (QX σ0 s0 w0 N Q)) l (Act.wD a D) w
 | [],e,s,σ,w,a,hk,hE,hI,hR,h=>QR_of hk hR.1 ⟨e,σ,s,hE,hI,hR,h⟩
 | o::rest,e,s,σ,w,a,hk,hE,hI,hR,h=>by
  obtain⟨hd,h⟩:=h
  have run:∀e,RepE σ s w N e a→(opWp P o e s fun v s'=>opsWp P N full rest (updO e o.dst v) s' fun e s=>Q .normal e s)→o.wpIn (rdF r) 0 P (Act.wD a D) w (wpListIn (rdF r) 0 P full.toArray (QR ws D (QX σ0 s0 w0 N Q)) rest) (QR ws D (QX σ0 s0 w0 N Q)):=by
   intro e hR h
   refine Oper.wpIn_mono (fun a' w' ⟨a0,h1,u,v,σ',s',ha,hE',hI',hR',hK⟩=>?_) (oper_rd (fun a' w' ⟨u,_,_,_,ha,_⟩=>⟨u,ha⟩) (opWp_sound hI hR h))
   subst ha h1
   exact opsWp_sound rest _ s' σ' w' _ (hk.trans (.of hI hE')) (hE.trans hE') hI' ((hR.evolve hE').put hd hR') hK
  unfold wpListIn
  split at h
  ·rename_i hg
   rw[if_pos (by simp [Region.wanted,hg])]
   exact run e hR h
  ·rename_i g want hg
   obtain⟨e',hR',⟨h1,h2⟩ | ⟨h1,h2⟩⟩:=guard_spec hR hg h
   ·rw[if_pos (show Region.wanted o (yielded full.toArray (Act.wD a D).tmps)=true from h1)]; exact run e' hR' h2
   ·rw[if_neg (show ¬Region.wanted o (yielded full.toArray (Act.wD a D).tmps)=true by rw[show (Act.wD a D).tmps=a.tmps from rfl,h1]; decide),wD_put]
    exact⟨fun _ _=>trivial,opsWp_sound rest _ s σ w _ hk hE hI (hR'.put hd .un) h2⟩
def Qseq (B:Env→List Obj→Prop) (Q:Exit→Env→List Obj→Prop):Exit→Env→List Obj→Prop
 | .normal,e,s=>B e s
 | x,e,s=>Q x e s
def Qblk (id:Nat) (Q:Exit→Env→List Obj→Prop):Exit→Env→List Obj→Prop
 | .exit i,e,s=>if i=id then Q .normal e s else Q (.exit i) e s
 | x,e,s=>Q x e s
def condWp (x:V) (A B:Prop):Prop :=
 match x with
 | .d .ub=>A∧B
 | _=>boolWp x A B
def drawWp (P:Program) (N:Nat) (ops:List Oper) (e:Env) (s:List Obj) (K:Env→List Obj→Prop):Prop :=
 ∀(σ0:Gh) (s0:List Obj) (w0:World) (Q:Exit→Env→List Obj→Prop),(∀e s,K e s→Q .normal e s)→∀(σ:Gh) (w:World) (a:Act) (id:Nat),
  Evolve σ0 s0 w0 σ s w→Inv σ s w→RepE σ s w N e a→wpR P (Code.region id ops.toArray true) (QX σ0 s0 w0 N Q) a w
def Cln (L:Nat) (e:Env) (s:List Obj) (e':Env) (s':List Obj):Prop :=
 ∀(σ0:Gh) (s0:List Obj) (w0:World) (σ:Gh) (w:World) (N:Nat) (a:Act),s0.length≤L→Evolve σ0 s0 w0 σ s w→Inv σ s w→RepE σ s w N e a→∃σ',Evolve σ0 s0 w0 σ' s' w∧Inv σ' s' w∧RepE σ' s' w N e' a
theorem Cln.refl {L:Nat} {e:Env} {s:List Obj}:Cln L e s e s:=fun _ _ _ σ _ _ _ _ hE hI hR=>⟨σ,hE,hI,hR⟩
theorem Cln.trans {L:Nat} {e e' e'':Env} {s s' s'':List Obj} (h:Cln L e s e' s') (k:Cln L e' s' e'' s''):Cln L e s e'' s'':=fun σ0 s0 w0 σ w N a hL hE hI hR =>
 let ⟨σ',h1,h2,h3⟩:=h σ0 s0 w0 σ w N a hL hE hI hR
 k σ0 s0 w0 σ' w N a hL h1 h2 h3
def loopWp (L:Nat) (body:(Exit→Env→List Obj→Prop)→Env→List Obj→Prop) (Q:Exit→Env→List Obj→Prop) (e:Env) (s:List Obj):Prop :=
 ∃I:Nat→Env→List Obj→Prop,(∃n e1 s1,Cln L e s e1 s1∧I n e1 s1)∧∀n e s,I n e s→body (Qseq (fun e s=>∃m e1 s1,m < n∧Cln L e s e1 s1∧I m e1 s1) Q) e s
def Qscope (Q:Exit→Env→List Obj→Prop):Exit→Env→List Obj→Prop
 | .goto _,_,_=>False
 | ex,e,s=>Q ex e s
def codeWp (P:Program) (N L M:Nat):Code→(Exit→Env→List Obj→Prop)→Env→List Obj→Prop
 | .skip,Q,e,s=>Q .normal e s
 | .region _ ops draw,Q,e,s=>match draw with
  | false=>opsWp P N ops.toList ops.toList e s fun e s=>Q .normal e s
  | true=>drawWp P N ops.toList e s fun e s=>Q .normal e s
 | .seq a b,Q,e,s=>codeWp P N L M a (Qseq (codeWp P N L M b Q) Q) e s
 | .cond c a b,Q,e,s=>condWp (ev e c) (codeWp P N L M a Q (trimE M e) s) (codeWp P N L M b Q (trimE M e) s)
 | .block id c,Q,e,s=>codeWp P N L M c (Qblk id Q) e s
 | .loop c,Q,e,s=>loopWp L (codeWp P N L M c) Q e s
 | .exit id,Q,e,s=>Q (.exit id) e s
 | .ret,Q,e,s=>Q .ret e s
 | .scope c,Q,e,s=>codeWp P N L M c (Qscope Q) e s
 | .label _,Q,e,s=>Q .normal e s
 | _,_,_,_=>False
def Qn (Q:Exit→Env→List Obj→Prop) (e:Env) (s:List Obj):Prop:=Q .normal e s
def cont (P:Program) (N:Nat) (full rest:List Oper) (e:Env) (d:Option Nat) (K:Env→List Obj→Prop) (v:V) (s:List Obj):Prop:=opsWp P N full rest (updO e d v) s K
theorem cont_app {P:Program} {N:Nat} {full rest:List Oper} {e:Env} {d:Option Nat} {K:Env→List Obj→Prop} {v:V} {s:List Obj}:cont P N full rest e d K v s=opsWp P N full rest (updO e d v) s K:=(rfl)
theorem Qn_app {Q:Exit→Env→List Obj→Prop} {e:Env} {s:List Obj}:Qn Q e s=Q .normal e s:=(rfl)
theorem opsWp_nil {P:Program} {N:Nat} {full:List Oper} {e:Env} {s:List Obj} {K:Env→List Obj→Prop}:opsWp P N full [] e s K=K e s:=(rfl)
theorem codeWp_skip {P:Program} {N L M:Nat} {Q:Exit→Env→List Obj→Prop} {e:Env} {s:List Obj}:codeWp P N L M .skip Q e s=Q .normal e s:=(rfl)
theorem codeWp_region {P:Program} {N L M:Nat} {Q:Exit→Env→List Obj→Prop} {e:Env} {s:List Obj} {id:Nat} {ops:Array Oper}:codeWp P N L M (.region id ops false) Q e s=opsWp P N ops.toList ops.toList e s (Qn Q):=(rfl)
theorem codeWp_draw {P:Program} {N L M:Nat} {Q:Exit→Env→List Obj→Prop} {e:Env} {s:List Obj} {id:Nat} {ops:Array Oper}:codeWp P N L M (.region id ops true) Q e s=drawWp P N ops.toList e s (Qn Q):=(rfl)
theorem codeWp_seq {P:Program} {N L M:Nat} {Q:Exit→Env→List Obj→Prop} {e:Env} {s:List Obj} {a b:Code}:codeWp P N L M (.seq a b) Q e s=codeWp P N L M a (Qseq (codeWp P N L M b Q) Q) e s:=(rfl)
theorem codeWp_block {P:Program} {N L M:Nat} {Q:Exit→Env→List Obj→Prop} {e:Env} {s:List Obj} {id:Nat} {c:Code}:codeWp P N L M (.block id c) Q e s=codeWp P N L M c (Qblk id Q) e s:=(rfl)
theorem codeWp_exit {P:Program} {N L M:Nat} {Q:Exit→Env→List Obj→Prop} {e:Env} {s:List Obj} {id:Nat}:codeWp P N L M (.exit id) Q e s=Q (.exit id) e s:=(rfl)
theorem codeWp_ret {P:Program} {N L M:Nat} {Q:Exit→Env→List Obj→Prop} {e:Env} {s:List Obj}:codeWp P N L M .ret Q e s=Q .ret e s:=(rfl)
theorem Qseq_normal {B:Env→List Obj→Prop} {Q:Exit→Env→List Obj→Prop} {e:Env} {s:List Obj}:Qseq B Q .normal e s=B e s:=(rfl)
theorem Qseq_ret {B:Env→List Obj→Prop} {Q:Exit→Env→List Obj→Prop} {e:Env} {s:List Obj}:Qseq B Q .ret e s=Q .ret e s:=(rfl)
theorem Qseq_exit {B:Env→List Obj→Prop} {Q:Exit→Env→List Obj→Prop} {e:Env} {s:List Obj} {i:Nat}:Qseq B Q (.exit i) e s=Q (.exit i) e s:=(rfl)
theorem Qblk_normal {Q:Exit→Env→List Obj→Prop} {e:Env} {s:List Obj} {i:Nat}:Qblk i Q .normal e s=Q .normal e s:=(rfl)
theorem Qblk_ret {Q:Exit→Env→List Obj→Prop} {e:Env} {s:List Obj} {i:Nat}:Qblk i Q .ret e s=Q .ret e s:=(rfl)
theorem Qblk_exit {Q:Exit→Env→List Obj→Prop} {e:Env} {s:List Obj} {i j:Nat}:Qblk i Q (.exit j) e s=if j=i then Q .normal e s else Q (.exit j) e s:=(rfl)
def Lnext (L:Nat) (I:Nat→Env→List Obj→Prop) (n:Nat) (e:Env) (s:List Obj):Prop:=∃m e1 s1,m < n∧Cln L e s e1 s1∧I m e1 s1
theorem loop_rule {P:Program} {N L M:Nat} {c:Code} {Q:Exit→Env→List Obj→Prop} {e:Env} {s:List Obj} (I:Nat→Env→List Obj→Prop) (h0:∃n e1 s1,Cln L e s e1 s1∧I n e1 s1) (h:∀n e s,I n e s→codeWp P N L M c (Qseq (Lnext L I n) Q) e s) :
  codeWp P N L M (.loop c) Q e s:=⟨I,h0,h⟩
theorem codeWp_soundR {P:Program} {N L M:Nat} {σ0:Gh} {s0:List Obj} {w0:World} (hL:s0.length≤L):∀(c:Code) (Q:Exit→Env→List Obj→Prop) (e:Env) (s:List Obj) (σ:Gh) (w:World) (a:Act),
  Evolve σ0 s0 w0 σ s w→Inv σ s w→RepE σ s w N e a→codeWp P N L M c Q e s→wpR P c (QX σ0 s0 w0 N Q) a w
 | .skip,Q,e,s,σ,w,a,hE,hI,hR,h=>wpR_skip hR.1 ⟨e,σ,s,hE,hI,hR,h⟩
 | .region id ops false,Q,e,s,σ,w,a,hE,hI,hR,h=>by
  intro r D
  refine wpIn_region_list ?_
  have:=opsWp_sound (Q:=Q) (r:=r) (D:=D) (ws:=w) ops.toList e s σ w a (.refl _) hE hI hR h
  simpa using this
 | .region id ops true,Q,e,s,σ,w,a,hE,hI,hR,h=>by
  have:=h σ0 s0 w0 Q (fun _ _ h=>h) σ w a id hE hI hR
  simpa using this
 | .seq x y,Q,e,s,σ,w,a,hE,hI,hR,h=>by
  refine wpR_seq (wpR_mono (codeWp_soundR hL x _ e s σ w a hE hI hR h) fun ex a' w' ⟨e',σ',s',hE',hI',hR',hq⟩=>?_)
  cases ex with
  | normal=>exact codeWp_soundR hL y Q e' s' σ' w' a' hE' hI' hR' hq
  | _=>exact⟨e',σ',s',hE',hI',hR',hq⟩
 | .cond c x y,Q,e,s,σ,w,a,hE,hI,hR,h=>by
  simp only[codeWp,condWp] at h
  split at h
  ·rename_i hb
   have hc:=hR.ev c
   rw[hb] at hc
   generalize hcv:a.eval c=cv' at hc
   cases hc with | d hc=>?_
   cases hc with | ub b=>?_
   refine wpR_cond_split hcv (fun ht=>?_) (fun hf=>?_)
   ·exact codeWp_soundR hL x Q _ s σ w a hE hI hR.trim h.1
   ·exact codeWp_soundR hL y Q _ s σ w a hE hI hR.trim h.2
  unfold boolWp at h
  split at h
  ·rename_i b hb
   have hc:=hR.ev c
   rw[hb] at hc
   generalize hcv:a.eval c=cv' at hc
   cases hc with | d hc=>?_
   cases hc with | sc _ _=>?_
   refine wpR_cond_split hcv (fun ht=>?_) (fun hf=>?_)
   ·exact codeWp_soundR hL x Q _ s σ w a hE hI hR.trim (h.1 ht)
   ·exact codeWp_soundR hL y Q _ s σ w a hE hI hR.trim (h.2 hf)
  ·exact h.elim
 | .block id c,Q,e,s,σ,w,a,hE,hI,hR,h=>by
  refine wpR_block (wpR_mono (codeWp_soundR hL c _ e s σ w a hE hI hR h) fun ex a' w' ⟨e',σ',s',hE',hI',hR',hq⟩=>?_)
  cases ex with
  | exit i =>
   simp only[Exit.inBlock]
   simp only[Qblk] at hq
   split
   ·rename_i hi; rw[if_pos hi] at hq; exact⟨e',σ',s',hE',hI',hR',hq⟩
   ·rename_i hi; rw[if_neg hi] at hq; exact⟨e',σ',s',hE',hI',hR',hq⟩
  | _=>exact⟨e',σ',s',hE',hI',hR',hq⟩
 | .loop c,Q,e,s,σ,w,a,hE,hI,hR,h=>by
  obtain⟨I,⟨n0,e0,s0',hc0,h0⟩,hstep⟩:=h
  obtain⟨σ,hE,hI,hR⟩:=hc0 σ0 s0 w0 σ w N a hL hE hI hR
  let J:Nat→Act→World→Prop:=fun n a w=>∃e σ s,Evolve σ0 s0 w0 σ s w∧Inv σ s w∧RepE σ s w N e a∧I n e s
  have least:∀a w,(∃n,J n a w)→∃n,J n a w∧∀m,J m a w→n≤m:=by
   intro a w ⟨n,hn⟩
   induction n using Nat.strongRecOn with
   | _ n ih =>
    by_cases hm:∃m,m < n∧J m a w
    ·obtain⟨m,hm1,hm2⟩:=hm; exact ih m hm1 hm2
    ·exact⟨n,hn,fun m hj=>by
      rcases Nat.lt_or_ge m n with h' | h'
      ·exact absurd ⟨m,h',hj⟩ hm
      ·exact h'⟩
  classical
  let μ:Act→World→Nat:=fun a w=>if h:∃n,J n a w then Classical.choose (least a w h) else 0
  have hμ:∀a w,(∃n,J n a w)→J (μ a w) a w∧∀m,J m a w→μ a w≤m:=by
   intro a w h
   simp only[μ,dif_pos h]
   exact Classical.choose_spec (least a w h)
  refine wpR_loop (fun a w=>∃n,J n a w) μ ⟨n0,e0,σ,s0',hE,hI,hR,h0⟩ hR.1 fun a w hJ=>?_
  obtain⟨⟨e1,σ1,s1,hE1,hI1,hR1,hi⟩,_⟩:=hμ a w hJ
  refine wpR_mono (codeWp_soundR hL c _ e1 s1 σ1 w a hE1 hI1 hR1 (hstep _ _ _ hi)) fun ex a' w' ⟨e',σ',s',hE',hI',hR',hq⟩=>?_
  cases ex with
  | normal =>
   obtain⟨m,e2,s2,hm,hc,hi'⟩:=hq
   obtain⟨σ',hE',hI',hR'⟩:=hc σ0 s0 w0 σ' w' N a' hL hE' hI' hR'
   have hj:J m a' w':=⟨e2,σ',s2,hE',hI',hR',hi'⟩
   exact⟨⟨m,hj⟩,Nat.lt_of_le_of_lt ((hμ a' w' ⟨m,hj⟩).2 m hj) hm⟩
  | _=>exact⟨e',σ',s',hE',hI',hR',hq⟩
 | .exit id,Q,e,s,σ,w,a,hE,hI,hR,h=>wpR_exit hR.1 ⟨e,σ,s,hE,hI,hR,h⟩
 | .ret,Q,e,s,σ,w,a,hE,hI,hR,h=>wpR_ret hR.1 ⟨e,σ,s,hE,hI,hR,h⟩
 | .rangeFunc ..,_,_,_,_,_,_,_,_,_,h=>h.elim
 | .scope c,Q,e,s,σ,w,a,hE,hI,hR,h=>by
  refine wpR_scope_straight (wpR_mono (codeWp_soundR hL c (Qscope Q) e s σ w a hE hI hR h) fun ex a' w' ⟨e',σ',s',hE',hI',hR',hq⟩=>?_)
  cases ex with
  | goto l=>exact hq
  | _=>exact⟨e',σ',s',hE',hI',hR',hq⟩
 | .label _,Q,e,s,σ,w,a,hE,hI,hR,h=>wpR_label hR.1 ⟨e,σ,s,hE,hI,hR,h⟩
 | .goto _,_,_,_,_,_,_,_,_,_,h=>h.elim
 | .refuse _,_,_,_,_,_,_,_,_,_,h=>h.elim
theorem codeWp_sound {P:Program} {N L M:Nat} {σ0:Gh} {s0:List Obj} {w0:World} (hL:s0.length≤L) (c:Code) (Q:Exit→Env→List Obj→Prop) (e:Env) (s:List Obj) (σ:Gh) (w:World) (a:Act)
  (hE:Evolve σ0 s0 w0 σ s w) (hI:Inv σ s w) (hR:RepE σ s w N e a) (h:codeWp P N L M c Q e s):c.wp P (QX σ0 s0 w0 N Q) a w :=
 (codeWp_soundR hL c Q e s σ w a hE hI hR h).wp hR.1
def frzD:Nat→Nat→List Obj→V→Option D
 | _,_,_,.d x=>some x
 | _,_,_,.fu els=>some (.sl els)
 | n + 1,lim,s,.so id g lo m=>match s[id]? with
  | some o=>if o.g=g∧lo + m≤o.els.length∧(lim≤id∨o.live=false) then
    (((o.els.drop lo).take m).mapM fun (e:List V)=>e.mapM (frzD n lim s)).map .sl else none
  | none=>none
 | n + 1,lim,s,.rf id g k off=>match s[id]? with
  | some o=>if o.g=g∧(lim≤id∨o.live=false) then
    (match o.els[k]? with
    | some e=>((e.drop off).mapM (frzD n lim s)).map .el
    | none=>none) else none
  | none=>none
 | _,_,_,.pp _ _ _ _ b a=>some (.sc (.pointer (some ⟨b,a,none⟩)))
 | n + 1,lim,s,.bx v=>(frzD n lim s v).map fun x=>.el [x]
 | n + 1,lim,s,.cl fn first caps=>match first.mapM (frzD n lim s),caps.mapM (frzD n lim s) with
  | some f,some c=>some (.cl fn f c)
  | _,_=>none
 | _,_,_,_=>none
theorem frzD_spec {σ:Gh} {s:List Obj} {w:World} (hI:Inv σ s w) (lim:Nat):∀(n:Nat) (x:V) (u:Value) (y:D),RepV σ s w x u→frzD n lim s x=some y→RepD (Own σ (s.take lim)) w y u:=by
 have fewer:∀b,Own σ (s.take lim) b→Own σ s b:=by
  rintro b (h | ⟨id,o,base,h1,h2,h3⟩)
  ·exact .inl h
  ·rw[List.getElem?_take] at h1
   split at h1
   ·exact .inr ⟨id,o,base,h1,h2,h3⟩
   ·cases h1
 intro n
 induction n with
 | zero =>
  intro x u y hr h
  cases hr <;> simp only[frzD,Option.some.injEq] at h <;> first | (cases h; done) | (subst h; exact RepD.own fewer (by assumption)) | (subst h; exact .sc _ rfl)
 | succ n ih =>
  intro x u y hr h
  cases hr with
  | d h'=>simp only[frzD,Option.some.injEq] at h; subst h; exact RepD.own fewer h'
  | fu h'=>simp only[frzD,Option.some.injEq] at h; subst h; exact RepD.own fewer h'
  | pp o ho hg hk=>simp only[frzD,Option.some.injEq] at h; subst h; exact .sc _ rfl
  | bx h1 h2 h3 hu h4 =>
   simp only[frzD] at h
   obtain⟨z,hz,rfl⟩:=Option.map_eq_some_iff.1 h
   rename_i v a u
   refine RepD.el [z] a (fun _=>u) h1 (fun j x hx=>?_) (fun j x hx=>?_)
   ·cases j with
    | zero=>exact⟨h2,fun h'=>h3 (fewer _ h')⟩
    | succ j=>simp at hx
   ·cases j with
    | zero=>simp at hx; subst hx; exact ih _ _ _ h4 hz
    | succ j=>simp at hx
  | cl h1 h2 h3 h4 =>
   simp only[frzD] at h
   split at h
   case h_2=>cases h
   rename_i f c hf hc
   cases h
   obtain⟨f1,f2⟩:=mapM_get hf
   obtain⟨c1,c2⟩:=mapM_get hc
   refine .cl (by omega) (fun i x hx=>?_) (by omega) (fun i x hx=>?_)
   ·obtain⟨z,k1,k2⟩:=f2 i x hx
    exact ih _ _ _ (h2 i z k1) k2
   ·obtain⟨z,k1,k2⟩:=c2 i x hx
    exact ih _ _ _ (h4 i z k1) k2
  | so o ho hg hu hk =>
   rename_i id g lo m
   simp only[frzD,ho] at h
   split at h
   case isFalse=>cases h
   rename_i hc
   obtain⟨hgg,hlen,hlim⟩:=hc
   obtain⟨els,hels,rfl⟩:=Option.map_eq_some_iff.1 h
   obtain⟨m1,m2⟩:=mapM_get hels
   have hl:els.length=m:=by rw[m1]; simp; omega
   rcases hk hgg with ⟨hs0,⟨a,rfl⟩,rfl,rfl⟩ | ⟨b,base,cap,E,arr,g1,g2,rfl,g4,g5⟩
   ·have:els=[]:=List.eq_nil_of_length_eq_zero hl
    subst this
    cases a with
    | none=>exact .nil
    | some a=>exact RepD.sl [] a 0 0 (fun _ _=>undef) (by simp) (by simp) (by simp) (by simp) (by simp)
   ·rcases hI.content _ o ho with h1 | ⟨b',base',arr',E',h1,h2,h3,h4,h5⟩
    ·exact(h1.notC g1 ⟨arr,E,g2⟩).elim
    rw[g1] at h1; cases h1
    rw[g2] at h2; cases h2
    have hO:¬Own σ (s.take lim) b:=by
     rintro (h | ⟨id',o',base',k1,k2,k3⟩)
     ·exact hI.apart _ o b base ho g1 h
     ·rw[List.getElem?_take] at k1
      split at k1
      ·rename_i hlt
       have:=hI.inj id' id o' o b base' base k1 ho k2 k3 g1
       subst this
       rcases hlim with h | h
       ·omega
       ·rw[ho] at k1; cases k1; rw[h] at k2; cases k2
      ·cases k1
    rw[← hl]
    refine RepD.of_row (sz:=o.sz) (by omega) (fun e he=>?_) hO (fun i j x hx=>?_)
    ·obtain⟨i,hi⟩:=List.mem_iff_getElem?.1 he
     obtain⟨e',k1,k2⟩:=m2 i e hi
     rw[(mapM_get k2).1]
     exact h3 e' (List.mem_of_mem_drop (List.mem_of_mem_take (List.mem_of_getElem? k1)))
    ·cases hi:els[i]? with
     | none=>rw[hi] at hx; cases hx
     | some e =>
      rw[hi] at hx
      obtain⟨e',k1,k2⟩:=m2 i e hi
      obtain⟨v,k3,k4⟩:=(mapM_get k2).2 j x hx
      rw[List.getElem?_take] at k1
      split at k1
      case isFalse=>cases k1
      rw[List.getElem?_drop] at k1
      obtain⟨c,c1,c2,c3⟩:=h5 (lo + i) j v (by rw[k1]; exact k3)
      refine⟨c,?_,ih v c x c3 k4⟩
      simp only[World.cell?,g2]
      rw[Nat.add_mul] at c1
      simpa [Nat.add_assoc] using c1
  | rf o ho hg hu hk =>
   rename_i id g k off
   simp only[frzD,ho] at h
   split at h
   case isFalse=>cases h
   rename_i hc
   obtain⟨hgg,hlim⟩:=hc
   split at h
   case h_2=>cases h
   rename_i e he
   obtain⟨cs,hcs,rfl⟩:=Option.map_eq_some_iff.1 h
   obtain⟨m1,m2⟩:=mapM_get hcs
   obtain⟨b,base,g1,gC,rfl⟩:=hk hgg
   rcases hI.content _ o ho with h1 | ⟨b',base',arr',E',h1,h2,h3,h4,h5⟩
   ·exact(h1.notC g1 gC).elim
   rw[g1] at h1; cases h1
   have hO:¬Own σ (s.take lim) b:=by
    rintro (h | ⟨id',o',base',k1,k2,k3⟩)
    ·exact hI.apart _ o b base ho g1 h
    ·rw[List.getElem?_take] at k1
     split at k1
     ·rename_i hlt
      have:=hI.inj id' id o' o b base' base k1 ho k2 k3 g1
      subst this
      rcases hlim with h | h
      ·omega
      ·rw[ho] at k1; cases k1; rw[h] at k2; cases k2
     ·cases k1
   have key:∀j x,cs[j]?=some x→∃c,w.cell? ⟨b,base + k * o.sz + off + j,none⟩=some c∧RepD (Own σ (s.take lim)) w x c:=by
    intro j x hx
    obtain⟨v,k3,k4⟩:=m2 j x hx
    rw[List.getElem?_drop] at k3
    obtain⟨c,c1,c2,c3⟩:=h5 k (off + j) v (by rw[he]; exact k3)
    refine⟨c,?_,ih v c x c3 k4⟩
    simp only[World.cell?,h2]
    simpa [Nat.add_assoc] using c1
   refine .el cs _ (fun j=>(w.cell? ⟨b,base + k * o.sz + off + j,none⟩).getD undef) rfl (fun j x hx=>⟨?_,hO⟩) (fun j x hx=>?_)
   ·obtain⟨c,h1,_⟩:=key j x hx
    simp only[h1,Option.getD_some]
   ·obtain⟨c,h1,h2'⟩:=key j x hx
    simp only[h1,Option.getD_some]
    exact h2'
  | _=>simp [frzD] at h
def refsV (lim:Nat):V→Bool
 | .d _ | .fu _ | .un=>true
 | .so id _ _ _=>decide (id < lim)
 | .rf id _ _ _=>decide (id < lim)
 | .pp id _ _ _ _ _=>decide (id < lim)
 | .mp id _=>decide (id < lim)
 | .ag cs=>go cs
 | .tu cs=>go cs
 | .bx v=>refsV lim v
 | .cap _ _ v=>refsV lim v
 | .cl _ first caps=>go first&&go caps
 | .any=>true
where go:List V→Bool
 | []=>true
 | v::vs=>refsV lim v&&go vs
theorem refsV_go {lim:Nat}:∀{l:List V},refsV.go lim l=true→∀(i:Nat) (x:V),l[i]?=some x→refsV lim x=true
 | [],_,i,x,hx=>by simp at hx
 | v::vs,h,i,x,hx=>by
  simp only[refsV.go,Bool.and_eq_true] at h
  cases i with
  | zero=>simp at hx; subst hx; exact h.1
  | succ i=>exact refsV_go h.2 i x (by simpa using hx)
theorem RepV.take {σ:Gh} {s:List Obj} {w:World} {lim:Nat} {x:V} {u:Value} (hr:RepV σ s w x u) (h:refsV lim x=true):RepV σ (s.take lim) w x u:=by
 have fewer:∀b,Own σ (s.take lim) b→Own σ s b:=by
  rintro b (h | ⟨id,o,base,h1,h2,h3⟩)
  ·exact .inl h
  ·rw[List.getElem?_take] at h1
   split at h1
   ·exact .inr ⟨id,o,base,h1,h2,h3⟩
   ·cases h1
 induction hr with
 | d hx=>exact .d (hx.own fewer)
 | ag h1 h2 _ ih=>exact .ag h1 h2 fun i x hx=>ih i x hx (refsV_go (by simpa only[refsV] using h) i x hx)
 | tu h1 _ ih=>exact .tu h1 fun i x hx=>ih i x hx (refsV_go (by simpa only[refsV] using h) i x hx)
 | fu hx=>exact .fu (hx.own fewer)
 | so o ho hg hu hk =>
  simp only[refsV,decide_eq_true_eq] at h
  exact .so o (by rw[List.getElem?_take,if_pos h]; exact ho) hg hu hk
 | rf o ho hg hu hk =>
  simp only[refsV,decide_eq_true_eq] at h
  exact .rf o (by rw[List.getElem?_take,if_pos h]; exact ho) hg hu hk
 | pp o ho hg hk =>
  simp only[refsV,decide_eq_true_eq] at h
  exact .pp o (by rw[List.getElem?_take,if_pos h]; exact ho) hg hk
 | mp o ho hg hu hk =>
  simp only[refsV,decide_eq_true_eq] at h
  exact .mp o (by rw[List.getElem?_take,if_pos h]; exact ho) hg hu hk
 | bx h1 h2 h3 hu _ ih=>exact .bx h1 h2 (fun h'=>h3 (fewer _ h')) hu (ih (by simpa only[refsV] using h))
 | cap h1 _ ih=>exact .cap h1 (ih (by simpa only[refsV] using h))
 | cl h1 _ h3 _ ih1 ih2 =>
  simp only[refsV,Bool.and_eq_true] at h
  exact .cl h1 (fun i x hx=>ih1 i x hx (refsV_go h.1 i x hx)) h3 (fun i x hx=>ih2 i x hx (refsV_go h.2 i x hx))
 | un=>exact .un
 | any=>exact .any
def frzV (lim:Nat) (s:List Obj):V→Option V
 | .d x=>some (.d x)
 | .fu els=>some (.d (.sl els))
 | .so id g lo m=>match frzD 8 lim s (.so id g lo m) with
  | some x=>some (.d x)
  | none=>if id < lim then some (.so id g lo m) else none
 | .rf id g i off=>match frzD 8 lim s (.rf id g i off) with
  | some x=>some (.d x)
  | none=>if id < lim then some (.rf id g i off) else none
 | .pp id g i off b a=>if id < lim then some (.pp id g i off b a) else some (.d (.sc (.pointer (some ⟨b,a,none⟩))))
 | .mp id g=>if id < lim then some (.mp id g) else none
 | .ag cs=>(go cs).map .ag
 | .tu cs=>(go cs).map .tu
 | .bx v=>(frzD 8 lim s (.bx v)).map .d
 | .cap _ _ v=>frzV lim s v
 | .cl fn first caps=>match frzD 8 lim s (.cl fn first caps) with
  | some x=>some (.d x)
  | none=>if refsV lim (.cl fn first caps) then some (.cl fn first caps) else none
 | .un=>some .un
 | .any=>some .any
where go:List V→Option (List V)
 | []=>some []
 | v::vs=>match frzV lim s v,go vs with
  | some v',some vs'=>some (v'::vs')
  | _,_=>none
theorem frzV_go {lim:Nat} {s:List Obj}:∀{l r:List V},frzV.go lim s l=some r→r.length=l.length∧∀(i:Nat) (y:V),r[i]?=some y→∃x,l[i]?=some x∧frzV lim s x=some y
 | [],r,h=>by simp [frzV.go] at h; subst h; simp
 | v::vs,r,h=>by
  simp only[frzV.go] at h
  split at h
  ·rename_i v' vs' h1 h2
   simp only[Option.some.injEq] at h
   subst h
   obtain⟨k1,k2⟩:=frzV_go h2
   refine⟨by simp [k1],fun i y hy=>?_⟩
   cases i with
   | zero=>simp at hy; subst hy; exact⟨v,rfl,h1⟩
   | succ i=>simpa using k2 i y (by simpa using hy)
  ·cases h
theorem frzV_spec {σ:Gh} {s:List Obj} {w:World} (hI:Inv σ s w) {lim:Nat} {x:V} {u:Value} (hr:RepV σ s w x u):∀{y:V},frzV lim s x=some y→RepV σ (s.take lim) w y u:=by
 have fewer:∀b,Own σ (s.take lim) b→Own σ s b:=by
  rintro b (h | ⟨id,o,base,h1,h2,h3⟩)
  ·exact .inl h
  ·rw[List.getElem?_take] at h1
   split at h1
   ·exact .inr ⟨id,o,base,h1,h2,h3⟩
   ·cases h1
 induction hr with
 | d hx=>intro y h; simp only[frzV,Option.some.injEq] at h; subst h; exact .d (hx.own fewer)
 | fu hx=>intro y h; simp only[frzV,Option.some.injEq] at h; subst h; exact .d (hx.own fewer)
 | so o ho hg hu hk =>
  intro y h
  simp only[frzV] at h
  split at h
  ·rename_i z hz
   simp only[Option.some.injEq] at h
   subst h
   exact .d (frzD_spec hI lim 8 _ _ z (.so o ho hg hu hk) hz)
  ·split at h
   ·simp only[Option.some.injEq] at h
    subst h
    exact RepV.take (.so o ho hg hu hk) (by simpa [refsV] using ‹_›)
   ·cases h
 | rf o ho hg hu hk =>
  intro y h
  simp only[frzV] at h
  split at h
  ·rename_i z hz
   simp only[Option.some.injEq] at h
   subst h
   exact .d (frzD_spec hI lim 8 _ _ z (.rf o ho hg hu hk) hz)
  ·split at h
   ·simp only[Option.some.injEq] at h
    subst h
    exact RepV.take (.rf o ho hg hu hk) (by simpa [refsV] using ‹_›)
   ·cases h
 | pp o ho hg hk =>
  intro y h
  simp only[frzV] at h
  split at h
  ·simp only[Option.some.injEq] at h
   subst h
   exact RepV.take (.pp o ho hg hk) (by simpa [refsV] using ‹_›)
  ·simp only[Option.some.injEq] at h
   subst h
   exact .d (.sc _ rfl)
 | mp o ho hg hu hk =>
  intro y h
  simp only[frzV] at h
  split at h
  ·simp only[Option.some.injEq] at h
   subst h
   exact RepV.take (.mp o ho hg hu hk) (by simpa [refsV] using ‹_›)
  ·cases h
 | ag h1 h2 _ ih =>
  intro y h
  simp only[frzV] at h
  obtain⟨cs,hcs,rfl⟩:=Option.map_eq_some_iff.1 h
  obtain⟨k1,k2⟩:=frzV_go hcs
  refine .ag (by omega) (fun i x hx=>?_) (fun i x hx=>?_)
  ·obtain⟨z,hz,_⟩:=k2 i x hx; exact h2 i z hz
  ·obtain⟨z,hz,hz'⟩:=k2 i x hx; exact ih i z hz hz'
 | tu h1 _ ih =>
  intro y h
  simp only[frzV] at h
  obtain⟨cs,hcs,rfl⟩:=Option.map_eq_some_iff.1 h
  obtain⟨k1,k2⟩:=frzV_go hcs
  refine .tu (by omega) (fun i x hx=>?_)
  obtain⟨z,hz,hz'⟩:=k2 i x hx; exact ih i z hz hz'
 | cap h1 _ ih=>intro y h; exact ih (by simpa only[frzV] using h)
 | bx h1 h2 h3 hu h4 =>
  intro y h
  simp only[frzV] at h
  obtain⟨z,hz,rfl⟩:=Option.map_eq_some_iff.1 h
  exact .d (frzD_spec hI lim 8 _ _ z (.bx h1 h2 h3 hu h4) hz)
 | cl h1 h2 h3 h4 =>
  intro y h
  simp only[frzV] at h
  split at h
  ·rename_i z hz
   simp only[Option.some.injEq] at h
   subst h
   exact .d (frzD_spec hI lim 8 _ _ z (.cl h1 h2 h3 h4) hz)
  ·split at h
   ·simp only[Option.some.injEq] at h
    subst h
    exact RepV.take (.cl h1 h2 h3 h4) (by assumption)
   ·cases h
 | un=>intro y h; simp only[frzV,Option.some.injEq] at h; subst h; exact .un
 | any=>intro y h; simp only[frzV,Option.some.injEq] at h; subst h; exact .any
def objOk (lim:Nat) (o:Obj):Bool:=o.els.all fun e=>e.all (refsV lim)
def finWp (lim:Nat) (s:List Obj) (r:V) (K:V→List Obj→Prop):Prop :=
 (s.take lim).all (objOk lim)=true∧match frzV lim s r with
  | some r'=>K r' (s.take lim)
  | none=>False
theorem Evolve.take {σ s w σ' s' w'} (h:Evolve σ s w σ' s' w') {lim:Nat} (hl:s.length≤lim):Evolve σ s w σ' (s'.take lim) w':=by
 refine⟨h.os,h.tape,h.output,h.size,h.keep,h.shape,h.shapeM,fun b hb=>h.own b ?_,fun id o ho=>?_,h.base,h.foreign⟩
 ·rcases hb with hb | ⟨id,o,base,h1,h2,h3⟩
  ·exact .inl hb
  ·rw[List.getElem?_take] at h1
   split at h1
   ·exact .inr ⟨id,o,base,h1,h2,h3⟩
   ·cases h1
 ·obtain⟨o',h1,h2⟩:=h.objs id o ho
  have:=(List.getElem?_eq_some_iff.1 ho).1
  exact⟨o',by rw[List.getElem?_take,if_pos (by omega)]; exact h1,h2⟩
theorem Inv.take {σ:Gh} {s:List Obj} {w:World} (h:Inv σ s w) {lim:Nat} (ho:(s.take lim).all (objOk lim)=true):Inv σ (s.take lim) w:=by
 have get:∀(id:Nat) (o:Obj),(s.take lim)[id]?=some o→s[id]?=some o:=by
  intro id o hh
  rw[List.getElem?_take] at hh
  split at hh
  ·exact hh
  ·cases hh
 refine⟨fun id o hh=>?_,fun id id' o o' b base base' h1 h2=>h.inj id id' o o' b base base' (get _ _ h1) (get _ _ h2),h.low,fun id o b base h1=>h.apart id o b base (get _ _ h1)⟩
 rcases h.content id o (get _ _ hh) with h1 | ⟨b,base,arr,E,h1,h2,h3,h4,h5⟩
 ·exact .inl h1
 ·refine .inr ⟨b,base,arr,E,h1,h2,h3,h4,fun i j x hx=>?_⟩
  obtain⟨u,k1,k2,k3⟩:=h5 i j x hx
  refine⟨u,k1,k2,k3.take ?_⟩
  have hobj:=List.all_eq_true.1 ho o (List.mem_of_getElem? hh)
  cases hei:o.els[i]? with
  | none=>rw[hei] at hx; cases hx
  | some e =>
   rw[hei] at hx
   exact List.all_eq_true.1 (List.all_eq_true.1 hobj e (List.mem_of_getElem? hei)) x (List.mem_of_getElem? hx)
def resV (P:Program) (e:Env) (s:List Obj) (r:ResultVar) (K:V→Prop):Prop :=
 match r with
 | .tmp t=>K (e t)
 | .cell a t=>loadWp P t s (e a) K
def resL (P:Program) (e:Env) (s:List Obj):List ResultVar→List V→(List V→Prop)→Prop
 | [],acc,K=>K acc
 | r::rs,acc,K=>resV P e s r fun v=>resL P e s rs (acc++[v]) K
def resWp (P:Program) (rs:List ResultVar) (e:Env) (s:List Obj) (K:V→Prop):Prop :=
 resL P e s rs [] fun vs=>match vs with
  | [v]=>K v
  | vs=>K (.tu vs)
def resF (tmps:Array Value):ResultVar→Sem Value
 | .tmp t=>pure (tmps.getD t undef)
 | .cell x t=>do loadVar t (← asAddr (tmps.getD x undef))
theorem results_eq (fn:Func) (tmps:Array Value):results fn tmps=(do let vs ← fn.results.mapM (resF tmps); pure (if h:vs.size=1 then vs[0] else .tuple vs)):=by
 unfold results
 congr 1
theorem resV_sound {P:Program} {N:Nat} {σ:Gh} {s:List Obj} {w:World} {e:Env} {a:Act} {r:ResultVar} {K:V→Prop} (hI:Inv σ s w) (hR:RepE σ s w N e a) (h:resV P e s r K) :
  ∃v c,(resF a.tmps r).run P w=.ok c w∧RepV σ s w v c∧K v:=by
 cases r with
 | tmp t=>exact⟨e t,_,rfl,hR.2.2 t,h⟩
 | cell x t =>
  simp only[resV] at h
  have hx:=hR.2.2 x
  generalize hcv:a.tmps.getD x undef=c at hx
  obtain⟨v,r,k1,k2,k3⟩:=load_sound hI hx h
  have hp:∃ad,c=.pointer (some ad):=by
   unfold loadWp at h
   split at h
   ·exact h.elim
   ·split at h
    ·rename_i hh
     rw[hh] at hx
     cases hx with | d hx=>?_
     cases hx with | el _ ad _ _ _ _=>exact⟨ad,rfl⟩
    ·rename_i hh
     rw[hh] at hx
     cases hx with | bx _ _ _ _ _=>exact⟨_,rfl⟩
    ·rename_i hh
     rw[hh] at hx
     split at h
     ·exact h.elim
     ·rename_i o ho
      obtain⟨b,base,_,_,hp⟩:=rf_ptr hx ho h.1
      exact⟨_,hp⟩
    ·rename_i hh
     rw[hh] at hx
     exact⟨_,hx.pp_raw⟩
    ·exact h.elim
  obtain⟨ad,rfl⟩:=hp
  refine⟨v,r,?_,k2,k3⟩
  simp only[resF,hcv,asAddr,Sem.run_bind,Sem.run_pure,Result.andThen_ok]
  simpa [Instr.loadAt,Instr.sureAddr] using k1
theorem resL_sound {P:Program} {N:Nat} {σ:Gh} {s:List Obj} {w:World} {e:Env} {a:Act} (hI:Inv σ s w) (hR:RepE σ s w N e a):∀(rs:List ResultVar) (acc:List V) (K:List V→Prop),resL P e s rs acc K →
  ∃vs us,(rs.mapM (resF a.tmps)).run P w=.ok us w∧us.length=vs.length ∧
   (∀(i:Nat) (x:V),vs[i]?=some x→∃u,us[i]?=some u∧RepV σ s w x u)∧K (acc++vs)
 | [],acc,K,h=>⟨[],[],by simp,rfl,by simp,by simpa [resL] using h⟩
 | r::rs,acc,K,h=>by
  simp only[resL] at h
  obtain⟨v,c,k1,k2,k3⟩:=resV_sound hI hR h
  obtain⟨vs,us,m1,m2,m3,m4⟩:=resL_sound hI hR rs _ K k3
  refine⟨v::vs,c::us,?_,by simp [m2],fun i x hx=>?_,by simpa using m4⟩
  ·rw[List.mapM_cons,Sem.run_bind,k1,Result.andThen_ok,Sem.run_bind,m1,Result.andThen_ok]
   rfl
  ·cases i with
   | zero=>simp at hx; subst hx; exact⟨c,rfl,k2⟩
   | succ i=>simpa using m3 i x (by simpa using hx)
theorem resWp_sound {P:Program} {N:Nat} {σ:Gh} {s:List Obj} {w:World} {e:Env} {a:Act} {fn:Func} {K:V→Prop} (hI:Inv σ s w) (hR:RepE σ s w N e a) (h:resWp P fn.results.toList e s K) :
  ∃v c,(results fn a.tmps).run P w=.ok c w∧RepV σ s w v c∧K v:=by
 obtain⟨vs,us,m1,m2,m3,m4⟩:=resL_sound hI hR _ _ _ h
 have hrun:(results fn a.tmps).run P w=.ok (if h:us.toArray.size=1 then us.toArray[0] else .tuple us.toArray) w:=by
  rw[results_eq]
  rw[← Array.toArray_toList (xs:=fn.results),List.mapM_toArray]
  simp only[Sem.run_bind,Sem.run_map,m1,Result.andThen_ok,Sem.run_pure]
 rw[hrun]
 simp only[List.nil_append] at m4
 split at m4
 ·rename_i v
  have hlen:us.length=1:=by simpa using m2
  obtain⟨u,hu,hru⟩:=m3 0 v rfl
  refine⟨v,u,?_,hru,m4⟩
  rw[dif_pos (by simpa using hlen)]
  have:=(List.getElem?_eq_some_iff.1 hu).2
  simp [this]
 ·rename_i hne
  have hlen:us.length≠1:=by
   intro hh
   rw[m2] at hh
   match vs,hh,hne with
   | [v],_,hne=>exact hne v rfl
  refine⟨.tu vs,.tuple us.toArray,by rw[dif_neg (by simpa using hlen)],.tu (by simpa using m2) (fun i x hx=>?_),m4⟩
  obtain⟨u,hu,hru⟩:=m3 i x hx
  rw[getD_of_list hu]
  exact hru
def envOf:List V→Env
 | [],_=>.un
 | v::_,0=>v
 | _::l,n + 1=>envOf l n
theorem envOf_get:∀(l:List V) (t:Nat),envOf l t=(l[t]?).getD .un
 | [],t=>by simp [envOf]
 | v::l,0=>rfl
 | v::l,t + 1=>by simp [envOf,envOf_get l t]
def Qend:Exit→Prop
 | .normal=>True
 | .ret=>True
 | _=>False
theorem Qend_spec {ex:Exit} (h:Qend ex):ex=.normal∨ex=.ret:=by
 cases ex <;> simp_all [Qend]
def Qfin (P:Program) (rs:List ResultVar) (lim:Nat) (K:V→List Obj→Prop) (ex:Exit) (e:Env) (s:List Obj):Prop:=Qend ex∧resWp P rs e s fun r=>finWp lim s r K
theorem Qfin_app {P:Program} {rs:List ResultVar} {lim:Nat} {K:V→List Obj→Prop} {ex:Exit} {e:Env} {s:List Obj}:Qfin P rs lim K ex e s=(Qend ex∧resWp P rs e s fun r=>finWp lim s r K):=rfl
theorem fn_ok {P : Program} {f : FuncId} {fn : Func} {c : Code} {args : List V} {exts : List Obj} {K : V → List Obj → Prop} (hf : P.funcs[f]? = some fn) (hb : fn.body = some c) {N : Nat} (hN : fn.ntmps = N) {rs : Array ResultVar} (hrs : fn.results = rs) (hn : (fn.name != "runtime.NumGoroutine") = true)
  (lim M:Nat) (hl:exts.length≤lim) (ha:args.length≤N)
  (h:codeWp P N lim M c (Qfin P rs.toList lim K) (envOf args) exts):callWp P f args exts K:=by
 subst hN; subst hrs
 refine⟨by simp only[okFn,hf,hn,hb,Option.isSome_some,Bool.and_self],fun σ w vals hI hvl hv=>?_⟩
 refine calls_of_wp hf hb ?_
 have hR:RepE σ exts w fn.ntmps (envOf args) { tmps:=vals++Array.replicate (fn.ntmps - vals.size) undef,defers:=[] }:=by
  refine⟨rfl,by simp; omega,fun t=>?_⟩
  rw[envOf_get]
  by_cases ht:t < args.length
  ·have h1:=hv t args[t] (by simp [ht])
   have:(vals++Array.replicate (fn.ntmps - vals.size) undef).getD t undef=vals.getD t undef:=by
    rw[Array.getD_eq_getD_getElem?,Array.getElem?_append_left (by omega),Array.getD_eq_getD_getElem?]
   rw[this]
   simpa [ht] using h1
  ·have:(vals++Array.replicate (fn.ntmps - vals.size) undef).getD t undef=undef:=by
    rw[Array.getD_eq_getD_getElem?,Array.getElem?_append_right (by omega),Array.getElem?_replicate]
    split <;> rfl
   rw[this]
   simp [ht]
   exact .un
 refine wp_mono (codeWp_sound hl c _ (envOf args) exts σ w _ (Evolve.refl _ _ _) hI hR h) fun ex a' w' ⟨e',σ',s',hE,hI',hR',hex,hq⟩=>?_
 obtain⟨v,u,k1,k2,k3⟩:=resWp_sound hI' hR' hq
 obtain⟨h1,h2⟩:=k3
 have fin:a'.defers=[]∧∃v,(results fn a'.tmps).run P w'=.ok v w'∧∃u v_1 σ'_1 s'_1,Ending.returned v=.returned u∧Evolve σ exts w σ'_1 s'_1 w'∧Inv σ'_1 s'_1 w'∧RepV σ'_1 s'_1 w' v_1 u∧K v_1 s'_1:=by
  refine⟨hR'.1,u,k1,?_⟩
  split at h2
  ·rename_i r' hr'
   exact⟨u,r',σ',s'.take lim,rfl,hE.take hl,hI'.take h1,frzV_spec hI' k2 hr',h2⟩
  ·exact h2.elim
 rcases Qend_spec hex with rfl | rfl
 ·exact fin
 ·exact fin
theorem callWp_mono {P:Program} {f:FuncId} {args:List V} {s:List Obj} {K K':V→List Obj→Prop} (h:callWp P f args s K) (hk:∀v s',K v s'→K' v s'):callWp P f args s K' :=
 ⟨h.1,fun σ w vals hI hl hv=>(h.2 σ w vals hI hl hv).mono fun _ _ ⟨u,v,σ',s',a,b,c,d,e⟩=>⟨u,v,σ',s',a,b,c,d,hk v s' e⟩⟩
theorem RepV.move {σ σ':Gh} {s s':List Obj} {w:World} {x:V} {u:Value} (hr:RepV σ s w x u) (h:refsV 0 x=true) (fewer:∀b,Own σ' s' b→Own σ s b):RepV σ' s' w x u:=by
 induction hr with
 | d hx=>exact .d (hx.own fewer)
 | ag h1 h2 _ ih=>exact .ag h1 h2 fun i x hx=>ih i x hx (refsV_go (by simpa only[refsV] using h) i x hx)
 | tu h1 _ ih=>exact .tu h1 fun i x hx=>ih i x hx (refsV_go (by simpa only[refsV] using h) i x hx)
 | fu hx=>exact .fu (hx.own fewer)
 | so o ho hg hu hk=>simp [refsV] at h
 | rf o ho hg hu hk=>simp [refsV] at h
 | pp o ho hg hk=>simp [refsV] at h
 | mp o ho hg hu hk=>simp [refsV] at h
 | bx h1 h2 h3 hu _ ih=>exact .bx h1 h2 (fun h'=>h3 (fewer _ h')) hu (ih (by simpa only[refsV] using h))
 | cap h1 _ ih=>exact .cap h1 (ih (by simpa only[refsV] using h))
 | cl h1 _ h3 _ ih1 ih2 =>
  simp only[refsV,Bool.and_eq_true] at h
  exact .cl h1 (fun i x hx=>ih1 i x hx (refsV_go h.1 i x hx)) h3 (fun i x hx=>ih2 i x hx (refsV_go h.2 i x hx))
 | un=>exact .un
 | any=>exact .any
def PureOK (P:Program) (f:FuncId) (args:List V) (r:V):Prop:=callWp P f args [] fun v s'=>v=r∧s'=[]
theorem call_pure {P:Program} {f:FuncId} {args:List V} {r:V} {s:List Obj} {K:V→List Obj→Prop} (h:PureOK P f args r) (ha:refsV.go 0 args=true) (hr:refsV 0 r=true) (hk:K r s):callWp P f args s K:=by
 refine⟨h.1,fun σ w vals hI hl hv=>?_⟩
 have e1:∀b,Own ⟨fun _=>none,Own σ s⟩ [] b→Own σ s b:=by
  rintro b (h | ⟨id,o,base,h1,_⟩)
  ·exact h
  ·simp at h1
 refine(h.2 ⟨fun _=>none,Own σ s⟩ w vals ⟨fun id o ho=>by simp at ho,fun id _ o _ _ _ _ ho=>by simp at ho,fun b hb=>own_lt hI hb,fun id o _ _ ho=>by simp at ho⟩ hl
  (fun i x hx=>(hv i x hx).move (refsV_go ha i x hx) e1)).mono fun e w' ⟨u,v,σ',s',he,hE,hI',hR,hv',hs'⟩=>?_
 subst hv'; subst hs'
 have same:=same_obj (w':=w') hI hE.os hE.tape hE.output hE.size fun b hb=>by
  by_cases ho:Own σ s b
  ·exact hE.foreign b hb ho
  ·exact hE.keep b hb fun h'=>ho (e1 b h')
 refine⟨u,_,σ,s,he,same.1,same.2,hR.move hr fun b hb=>.inl ?_,hk⟩
 rw[hE.base]; exact hb
def renV (ρ:List Nat):V→V
 | .so id g lo n=>.so (ρ.getD id 0) g lo n
 | .rf id g i off=>.rf (ρ.getD id 0) g i off
 | .pp id g i off b a=>.pp (ρ.getD id 0) g i off b a
 | .mp id g=>.mp (ρ.getD id 0) g
 | .ag cs=>.ag (go cs)
 | .tu cs=>.tu (go cs)
 | .bx v=>.bx (renV ρ v)
 | .cap lo hi v=>.cap lo hi (renV ρ v)
 | .cl fn first caps=>.cl fn (go first) (go caps)
 | .d x=>.d x
 | .fu els=>.fu els
 | .un=>.un
 | .any=>.any
where go:List V→List V
 | []=>[]
 | v::vs=>renV ρ v::go vs
theorem renV_go (ρ:List Nat):∀(l:List V),renV.go ρ l=l.map (renV ρ)
 | []=>rfl
 | v::vs=>by simp [renV.go,renV_go ρ vs]
def renO (ρ:List Nat) (o:Obj):Obj:={ o with els:=o.els.map (renV.go ρ) }
def putObjs (s:List Obj):List Nat→List Obj→List Obj
 | r::ρ,o::os=>putObjs (s.set r o) ρ os
 | _,_=>s
theorem putObjs_length:∀(ρ:List Nat) (os:List Obj) (s:List Obj),(putObjs s ρ os).length=s.length
 | [],_,s=>by simp [putObjs]
 | r::ρ,[],s=>by simp [putObjs]
 | r::ρ,o::os,s=>by simp [putObjs,putObjs_length ρ os]
theorem putObjs_other:∀(ρ:List Nat) (os:List Obj) (s:List Obj) (id:Nat),id ∉ ρ→(putObjs s ρ os)[id]?=s[id]?
 | [],_,s,id,_=>by simp [putObjs]
 | r::ρ,[],s,id,_=>by simp [putObjs]
 | r::ρ,o::os,s,id,h=>by
  simp only[List.mem_cons,not_or] at h
  simp only[putObjs]
  rw[putObjs_other ρ os _ id h.2,List.getElem?_set_ne (Ne.symm h.1)]
theorem putObjs_at:∀(ρ:List Nat) (os:List Obj) (s:List Obj) (k r:Nat) (o:Obj),ρ.Nodup→ρ[k]?=some r→os[k]?=some o→r < s.length→(putObjs s ρ os)[r]?=some o
 | [],_,s,k,r,o,_,h,_,_=>by simp at h
 | r'::ρ,[],s,k,r,o,_,_,h,_=>by simp at h
 | r'::ρ,o'::os,s,k,r,o,hn,h1,h2,h3=>by
  simp only[List.nodup_cons] at hn
  simp only[putObjs]
  cases k with
  | zero =>
   simp only[List.getElem?_cons_zero,Option.some.injEq] at h1 h2
   subst h1; subst h2
   rw[putObjs_other ρ os _ r' hn.1,List.getElem?_set_self h3]
  | succ k=>exact putObjs_at ρ os _ k r o hn.2 (by simpa using h1) (by simpa using h2) (by simpa using h3)
section frame
variable {σ:Gh} {s exts:List Obj} {ρ:List Nat} {w:World}
theorem ren_down {σc:Gh} (hown:∀b,Own σc exts b→Own σ s b) (hs:∀(k:Nat) (o:Obj),exts[k]?=some o→s[ρ.getD k 0]?=some (renO ρ o)) (hσ:∀k,k < exts.length→σc k=σ (ρ.getD k 0))
  {y:V} {u:Value} (hr:RepV σ s w y u):∀{x:V},renV ρ x=y→refsV exts.length x=true→RepV σc exts w x u:=by
 induction hr with
 | d hx=>intro x he hh; cases x <;> simp only[renV,reduceCtorEq,V.d.injEq] at he; subst he; exact .d (hx.own hown)
 | fu hx=>intro x he hh; cases x <;> simp only[renV,reduceCtorEq,V.fu.injEq] at he; subst he; exact .fu (hx.own hown)
 | un=>intro x he hh; cases x <;> simp only[renV,reduceCtorEq] at he; exact .un
 | any=>intro x he hh; cases x <;> simp only[renV,reduceCtorEq] at he; exact .any
 | ag h1 h2 _ ih =>
  intro x he hh
  cases x <;> simp only[renV,reduceCtorEq,V.ag.injEq] at he
  rename_i cs
  subst he
  rw[renV_go] at h1 h2 ih
  have g:∀(i:Nat) (x:V),cs[i]?=some x→(cs.map (renV ρ))[i]?=some (renV ρ x):=fun i x hx=>by rw[List.getElem?_map,hx]; rfl
  exact .ag (by simpa using h1) (fun i x hx=>h2 i _ (g i x hx)) (fun i x hx=>ih i _ (g i x hx) rfl (refsV_go (by simpa only[refsV] using hh) i x hx))
 | tu h1 _ ih =>
  intro x he hh
  cases x <;> simp only[renV,reduceCtorEq,V.tu.injEq] at he
  rename_i cs
  subst he
  rw[renV_go] at h1 ih
  have g:∀(i:Nat) (x:V),cs[i]?=some x→(cs.map (renV ρ))[i]?=some (renV ρ x):=fun i x hx=>by rw[List.getElem?_map,hx]; rfl
  exact .tu (by simpa using h1) (fun i x hx=>ih i _ (g i x hx) rfl (refsV_go (by simpa only[refsV] using hh) i x hx))
 | cap h1 _ ih =>
  intro x he hh
  cases x <;> simp only[renV,reduceCtorEq,V.cap.injEq] at he
  obtain⟨rfl,rfl,he⟩:=he
  exact .cap h1 (ih he (by simpa only[refsV] using hh))
 | bx h1 h2 h3 hu _ ih =>
  intro x he hh
  cases x <;> simp only[renV,reduceCtorEq,V.bx.injEq] at he
  exact .bx h1 h2 (fun h'=>h3 (hown _ h')) hu (ih he (by simpa only[refsV] using hh))
 | cl h1 _ h3 _ ih1 ih2 =>
  intro x he hh
  cases x <;> simp only[renV,reduceCtorEq,V.cl.injEq] at he
  rename_i fn first caps
  obtain⟨rfl,rfl,rfl⟩:=he
  rw[renV_go] at h1 ih1 h3 ih2
  simp only[refsV,Bool.and_eq_true] at hh
  have g:∀(cs:List V) (i:Nat) (x:V),cs[i]?=some x→(cs.map (renV ρ))[i]?=some (renV ρ x):=fun cs i x hx=>by rw[List.getElem?_map,hx]; rfl
  exact .cl (by simpa using h1) (fun i x hx=>ih1 i _ (g _ i x hx) rfl (refsV_go hh.1 i x hx)) (by simpa using h3) (fun i x hx=>ih2 i _ (g _ i x hx) rfl (refsV_go hh.2 i x hx))
 | so o ho hg hu hk =>
  intro x he hh
  cases x <;> simp only[renV,reduceCtorEq,V.so.injEq] at he
  rename_i id g lo n
  obtain⟨rfl,rfl,rfl,rfl⟩:=he
  simp only[refsV,decide_eq_true_eq] at hh
  have hx:=hs id exts[id] (by simp [hh])
  rw[ho] at hx
  simp only[Option.some.injEq] at hx
  subst hx
  refine .so exts[id] (by simp [hh]) hg hu fun hgg=>?_
  have:=hk hgg
  unfold SoOK at this ⊢
  rw[hσ id hh]
  exact this
 | rf o ho hg hu hk =>
  intro x he hh
  cases x <;> simp only[renV,reduceCtorEq,V.rf.injEq] at he
  rename_i id g lo n
  obtain⟨rfl,rfl,rfl,rfl⟩:=he
  simp only[refsV,decide_eq_true_eq] at hh
  have hx:=hs id exts[id] (by simp [hh])
  rw[ho] at hx
  simp only[Option.some.injEq] at hx
  subst hx
  refine .rf exts[id] (by simp [hh]) hg hu fun hgg=>?_
  rw[hσ id hh]
  exact hk hgg
 | pp o ho hg hk =>
  intro x he hh
  cases x <;> simp only[renV,reduceCtorEq,V.pp.injEq] at he
  rename_i id g lo n b a
  obtain⟨rfl,rfl,rfl,rfl,rfl,rfl⟩:=he
  simp only[refsV,decide_eq_true_eq] at hh
  have hx:=hs id exts[id] (by simp [hh])
  rw[ho] at hx
  simp only[Option.some.injEq] at hx
  subst hx
  refine .pp exts[id] (by simp [hh]) hg fun hgg=>?_
  rw[hσ id hh]
  exact hk hgg
 | mp o ho hg hu hk =>
  intro x he hh
  cases x <;> simp only[renV,reduceCtorEq,V.mp.injEq] at he
  rename_i id g
  obtain⟨rfl,rfl⟩:=he
  simp only[refsV,decide_eq_true_eq] at hh
  have hx:=hs id exts[id] (by simp [hh])
  rw[ho] at hx
  simp only[Option.some.injEq] at hx
  subst hx
  refine .mp exts[id] (by simp [hh]) hg hu fun hgg=>?_
  rw[hσ id hh]
  exact hk hgg
theorem ren_up {σ' σn:Gh} {s' sn:List Obj} {w':World} (hown:∀b,Own σn sn b→Own σ' s' b) (hs:∀(k:Nat) (o:Obj),s'[k]?=some o→sn[ρ.getD k 0]?=some (renO ρ o)) (hσ:∀k,k < s'.length→σn (ρ.getD k 0)=σ' k)
  {x:V} {u:Value} (hr:RepV σ' s' w' x u):RepV σn sn w' (renV ρ x) u:=by
 have g:∀(cs:List V) (i:Nat) (y:V),(cs.map (renV ρ))[i]?=some y→∃x,cs[i]?=some x∧renV ρ x=y:=fun cs i y hy=>by
  rw[List.getElem?_map] at hy
  exact Option.map_eq_some_iff.1 hy
 induction hr with
 | d hx=>exact .d (hx.own hown)
 | fu hx=>exact .fu (hx.own hown)
 | un=>exact .un
 | any=>exact .any
 | ag h1 h2 _ ih =>
  simp only[renV,renV_go]
  refine .ag (by simpa using h1) (fun i y hy=>?_) (fun i y hy=>?_)
  ·obtain⟨x,hx,rfl⟩:=g _ i y hy; exact h2 i x hx
  ·obtain⟨x,hx,rfl⟩:=g _ i y hy; exact ih i x hx
 | tu h1 _ ih =>
  simp only[renV,renV_go]
  refine .tu (by simpa using h1) (fun i y hy=>?_)
  obtain⟨x,hx,rfl⟩:=g _ i y hy; exact ih i x hx
 | bx h1 h2 h3 hu _ ih=>simp only[renV]; exact .bx h1 h2 (fun h'=>h3 (hown _ h')) hu ih
 | cap h1 _ ih=>simp only[renV]; exact .cap h1 ih
 | cl h1 _ h3 _ ih1 ih2 =>
  simp only[renV,renV_go]
  refine .cl (by simpa using h1) (fun i y hy=>?_) (by simpa using h3) (fun i y hy=>?_)
  ·obtain⟨x,hx,rfl⟩:=g _ i y hy; exact ih1 i x hx
  ·obtain⟨x,hx,rfl⟩:=g _ i y hy; exact ih2 i x hx
 | so o ho hg hu hk =>
  have hlt:=(List.getElem?_eq_some_iff.1 ho).1
  refine .so (renO ρ o) (hs _ o ho) hg hu fun hgg=>?_
  have:=hk hgg
  unfold SoOK at this ⊢
  rw[hσ _ hlt]
  exact this
 | rf o ho hg hu hk =>
  have hlt:=(List.getElem?_eq_some_iff.1 ho).1
  refine .rf (renO ρ o) (hs _ o ho) hg hu fun hgg=>?_
  rw[hσ _ hlt]
  exact hk hgg
 | pp o ho hg hk =>
  have hlt:=(List.getElem?_eq_some_iff.1 ho).1
  refine .pp (renO ρ o) (hs _ o ho) hg fun hgg=>?_
  rw[hσ _ hlt]
  exact hk hgg
 | mp o ho hg hu hk =>
  have hlt:=(List.getElem?_eq_some_iff.1 ho).1
  refine .mp (renO ρ o) (hs _ o ho) hg hu fun hgg=>?_
  rw[hσ _ hlt]
  exact hk hgg
theorem renV_data {ρ:List Nat} {x:V} {y:D} (h:renV ρ x=.d y):x=.d y:=by
 cases x <;> simp_all [renV]
theorem ren_els {ρ:List Nat}:∀{els:List (List V)} {es:List MapEntry},els.map (renV.go ρ)=(es.map fun e=>[V.d (.sc e.key),V.d (.sc e.val)])→els=es.map fun e=>[V.d (.sc e.key),V.d (.sc e.val)]
 | [],[],_=>rfl
 | [],_::_,h=>by simp at h
 | _::_,[],h=>by simp at h
 | e::els,x::es,h=>by
  simp only[List.map_cons,List.cons.injEq] at h ⊢
  obtain⟨h1,h2⟩:=h
  refine⟨?_,ren_els h2⟩
  rw[renV_go] at h1
  match e,h1 with
  | [a,b],h1 =>
   simp only[List.map_cons,List.map_nil,List.cons.injEq,and_true] at h1
   rw[renV_data h1.1,renV_data h1.2]
  | [],h1=>simp at h1
  | [_],h1=>simp at h1
  | _::_::_::_,h1=>simp at h1
theorem Bare.down {ρ:List Nat} {w:World} {p:Option (Nat × Nat)} {o:Obj} (h:Bare w p (renO ρ o)):Bare w p o:=by
 rcases h with ⟨h1,h2⟩ | ⟨b,es,c,h1,h2,h3⟩
 ·exact .inl ⟨h1,by simpa [renO] using h2⟩
 ·exact .inr ⟨b,es,c,h1,h2,ren_els h3⟩
theorem Bare.up {ρ:List Nat} {w:World} {p:Option (Nat × Nat)} {o:Obj} (h:Bare w p o):Bare w p (renO ρ o):=by
 rcases h with ⟨h1,h2⟩ | ⟨b,es,c,h1,h2,h3⟩
 ·exact .inl ⟨h1,by simp [renO,h2]⟩
 ·refine .inr ⟨b,es,c,h1,h2,?_⟩
  simp only[renO,h3,mapEls,List.map_map]
  apply List.map_congr_left
  intro e _
  rfl
theorem renO_get {ρ:List Nat} {o:Obj} {i j:Nat} {y:V} (h:((renO ρ o).els[i]?.bind (·[j]?))=some y):∃x,(o.els[i]?.bind (·[j]?))=some x∧renV ρ x=y:=by
 simp only[renO,List.getElem?_map] at h
 cases he:o.els[i]? with
 | none=>rw[he] at h; cases h
 | some e =>
  rw[he] at h
  simp only[Option.map_some,Option.bind_some,renV_go,List.getElem?_map] at h
  exact Option.map_eq_some_iff.1 h
theorem renO_get' {ρ:List Nat} {o:Obj} {i j:Nat} {x:V} (h:(o.els[i]?.bind (·[j]?))=some x):((renO ρ o).els[i]?.bind (·[j]?))=some (renV ρ x):=by
 simp only[renO,List.getElem?_map]
 cases he:o.els[i]? with
 | none=>rw[he] at h; cases h
 | some e =>
  rw[he] at h
  simp only[Option.map_some,Option.bind_some,renV_go,List.getElem?_map]
  rw[show e[j]?=some x from h]
  rfl
end frame
theorem call_frame {P:Program} {f:FuncId} {cargs args:List V} {exts s:List Obj} {Kc K:V→List Obj→Prop} (h:callWp P f cargs exts Kc) (ρ:List Nat) (hρ:ρ.length=exts.length) (hnd:ρ.Nodup)
  (hs:∀(k:Nat) (o:Obj),exts[k]?=some o→s[ρ.getD k 0]?=some (renO ρ o)) (hargs:args=cargs.map (renV ρ)) (hra:refsV.go exts.length cargs=true) (hre:exts.all (objOk exts.length)=true)
  (hk:∀v s',Kc v s'→s'.length=exts.length∧K (renV ρ v) (putObjs s ρ (s'.map (renO ρ)))):callWp P f args s K:=by
 refine⟨h.1,fun σ w vals hI hl hv=>?_⟩
 have hρk:∀k,k < exts.length→ρ[k]?=some (ρ.getD k 0):=fun k hk=>by simp [List.getD,show k < ρ.length by omega]
 have hρi:∀k k',k < exts.length→k' < exts.length→ρ.getD k 0=ρ.getD k' 0→k=k':=by
  intro k k' h1 h2 he
  have e1:=hρk k h1
  have e2:=hρk k' h2
  rw[he] at e1
  obtain⟨l1,g1⟩:=List.getElem?_eq_some_iff.1 e1
  obtain⟨l2,g2⟩:=List.getElem?_eq_some_iff.1 e2
  exact(List.getElem_inj hnd).1 (g1.trans g2.symm)
 have hsk:∀k,(hk:k < exts.length)→s[ρ.getD k 0]?=some (renO ρ exts[k]):=fun k hk=>hs k exts[k] (by simp [hk])
 let isExt:Nat→Prop:=fun b=>∃k base,k < exts.length∧σ (ρ.getD k 0)=some (b,base)
 let σc:Gh:=⟨fun k=>if k < exts.length then σ (ρ.getD k 0) else none,fun b=>Own σ s b∧¬isExt b⟩
 have hσc:∀k,k < exts.length→σc k=σ (ρ.getD k 0):=fun k hk=>if_pos hk
 have own1:∀b,Own σc exts b→Own σ s b:=by
  rintro b (hb | ⟨k,o,base,h1,h2,h3⟩)
  ·exact hb.1
  ·have hlt:=(List.getElem?_eq_some_iff.1 h1).1
   rw[hσc k hlt] at h3
   exact .inr ⟨ρ.getD k 0,renO ρ o,base,hs k o h1,h2,h3⟩
 have own2:∀b,Own σ s b→Own σc exts b:=by
  intro b hb
  by_cases he:isExt b
  ·obtain⟨k,base,hlt,h3⟩:=he
   refine .inr ⟨k,exts[k],base,by simp [hlt],?_,by rw[hσc k hlt]; exact h3⟩
   rcases hb with hb | ⟨id,o,base',g1,g2,g3⟩
   ·exact absurd hb (hI.apart _ _ b base (hsk k hlt) h3)
   ·have:=hI.inj id _ o _ b base' base g1 (hsk k hlt) g2 g3 h3
    subst this
    rw[hsk k hlt] at g1
    cases g1
    exact g2
  ·exact .inl ⟨hb,he⟩
 have hIc:Inv σc exts w:=by
  refine⟨fun k o ho=>?_,fun k k' o o' b base base' h1 h2 h3 h4 h5=>?_,fun b hb=>own_lt hI hb.1,fun k o b base h1 h2 hb=>?_⟩
  ·have hlt:=(List.getElem?_eq_some_iff.1 ho).1
   rw[hσc k hlt]
   rcases hI.content _ _ (hs k o ho) with g1 | ⟨b,base,arr,E,g1,g2,g3,g4,g5⟩
   ·exact .inl g1.down
   ·refine .inr ⟨b,base,arr,E,g1,g2,fun e he=>?_,by simpa [renO] using g4,fun i j x hx=>?_⟩
    ·have:=g3 (renV.go ρ e) (List.mem_map.2 ⟨e,he,rfl⟩)
     rw[renV_go] at this
     simpa [renO] using this
    ·obtain⟨u,k1,k2,k3⟩:=g5 i j _ (renO_get' hx)
     refine⟨u,k1,k2,ren_down own1 hs hσc k3 rfl ?_⟩
     have hobj:=List.all_eq_true.1 hre o (List.mem_of_getElem? ho)
     cases hei:o.els[i]? with
     | none=>rw[hei] at hx; cases hx
     | some e =>
      rw[hei] at hx
      exact List.all_eq_true.1 (List.all_eq_true.1 hobj e (List.mem_of_getElem? hei)) x (List.mem_of_getElem? hx)
  ·have l1:=(List.getElem?_eq_some_iff.1 h1).1
   have l2:=(List.getElem?_eq_some_iff.1 h2).1
   rw[hσc k l1] at h4
   rw[hσc k' l2] at h5
   exact hρi k k' l1 l2 (hI.inj _ _ _ _ b base base' (hs k o h1) (hs k' o' h2) h3 h4 h5)
  ·have l1:=(List.getElem?_eq_some_iff.1 h1).1
   rw[hσc k l1] at h2
   exact hb.2 ⟨k,base,l1,h2⟩
 refine(h.2 σc w vals hIc (by rw[hl,hargs]; simp) (fun i x hx=>ren_down own1 hs hσc (hv i _ (by rw[hargs,List.getElem?_map,hx]; rfl)) rfl (refsV_go hra i x hx))).mono fun e w' ⟨u,v,σ',s',he,hE,hI',hR,hK⟩=>?_
 obtain⟨hlen,hK⟩:=hk v s' hK
 -- back
 let σn:Gh:=⟨fun id=>match ρ.idxOf? id with | some k=>σ' k | none=>σ id,σ.base⟩
 have hidx:∀k,k < exts.length→ρ.idxOf? (ρ.getD k 0)=some k:=by
  intro k hk
  have e1:=hρk k hk
  obtain⟨l1,g1⟩:=List.getElem?_eq_some_iff.1 e1
  rw[List.idxOf?_eq_some_iff]
  refine⟨l1,by simp [g1],fun j hj=>?_⟩
  have hj':j < ρ.length:=by omega
  intro hb
  have hb':ρ[j]=ρ.getD k 0:=by simpa using hb
  have:=(List.getElem_inj hnd).1 (hb'.trans g1.symm)
  omega
 have hσn:∀k,k < exts.length→σn (ρ.getD k 0)=σ' k:=fun k hk=>by
  show (match ρ.idxOf? (ρ.getD k 0) with | some k=>σ' k | none=>σ (ρ.getD k 0))=σ' k
  rw[hidx k hk]
 have hσo:∀id,id ∉ ρ→σn id=σ id:=fun id hid=>by
  show (match ρ.idxOf? id with | some k=>σ' k | none=>σ id)=σ id
  rw[List.idxOf?_eq_none_iff.2 hid]
 have hmem:∀id,id∈ρ→∃k,k < exts.length∧id=ρ.getD k 0:=by
  intro id hid
  obtain⟨k,hk⟩:=List.mem_iff_getElem?.1 hid
  have hlt:=(List.getElem?_eq_some_iff.1 hk).1
  exact⟨k,by omega,by simp [List.getD,hk]⟩
 have hsn1:∀(k:Nat) (o:Obj),s'[k]?=some o→(putObjs s ρ (s'.map (renO ρ)))[ρ.getD k 0]?=some (renO ρ o):=by
  intro k o ho
  have hlt:k < exts.length:=by rw[← hlen]; exact(List.getElem?_eq_some_iff.1 ho).1
  exact putObjs_at ρ _ s k _ _ hnd (hρk k hlt) (by rw[List.getElem?_map,ho]; rfl) (List.getElem?_eq_some_iff.1 (hsk k hlt)).1
 have hsn2:∀id,id ∉ ρ→(putObjs s ρ (s'.map (renO ρ)))[id]?=s[id]?:=fun id hid=>putObjs_other ρ _ s id hid
 have hsn3:∀(k:Nat) (o:Obj),k < exts.length→(putObjs s ρ (s'.map (renO ρ)))[ρ.getD k 0]?=some o→∃o',s'[k]?=some o'∧o=renO ρ o':=by
  intro k o hlt ho
  have hlt':k < s'.length:=by omega
  have:=hsn1 k s'[k] (by simp [hlt'])
  rw[ho] at this
  exact⟨s'[k],by simp [hlt'],by simpa using this⟩
 have foreign:∀b,b < w.heap.size→Own σ s b→¬isExt b→w'.heap[b]?=w.heap[b]?:=fun b hb h1 h2=>hE.foreign b hb ⟨h1,h2⟩
 have baseE:∀b,σ.base b→¬isExt b:=by
  rintro b hb ⟨k,base,hlt,h3⟩
  exact hI.apart _ _ b base (hsk k hlt) h3 hb
 have otherB:∀id o b base,id ∉ ρ→s[id]?=some o→σ id=some (b,base)→o.live=true→¬isExt b:=by
  rintro id o b base hid ho h1 hl' ⟨k,base',hlt,h3⟩
  have:=hI.inj id _ o _ b base base' ho (hsk k hlt) hl' h1 h3
  exact hid (by rw[this]; exact List.mem_of_getElem? (hρk k hlt))
 have own3:∀b,Own σn (putObjs s ρ (s'.map (renO ρ))) b→Own σ' s' b:=by
  rintro b (hb | ⟨id,o,base,h1,h2,h3⟩)
  ·left; rw[hE.base]; exact⟨.inl hb,baseE b hb⟩
  ·by_cases hid:id∈ρ
   ·obtain⟨k,hlt,rfl⟩:=hmem id hid
    obtain⟨o',g1,rfl⟩:=hsn3 k o hlt h1
    rw[hσn k hlt] at h3
    exact .inr ⟨k,o',base,g1,h2,h3⟩
   ·rw[hsn2 id hid] at h1
    rw[hσo id hid] at h3
    left; rw[hE.base]
    exact⟨.inr ⟨id,o,base,h1,h2,h3⟩,otherB id o b base hid h1 h3 h2⟩
 have hEn:Evolve σ s w σn (putObjs s ρ (s'.map (renO ρ))) w':=by
  refine⟨hE.os,hE.tape,hE.output,hE.size,fun b hb ho=>hE.keep b hb fun h'=>ho (own1 b h'),fun b arr E ho hh=>hE.shape b arr E (own2 b ho) hh,fun b ho hm=>hE.shapeM b (own2 b ho) hm,fun b hb=>?_,fun id o ho=>?_,rfl,
   fun b hb hf=>foreign b hb (.inl hf) (baseE b hf)⟩
  ·rcases hE.own b (own3 b hb) with h' | h'
   ·exact .inl (own1 b h')
   ·exact .inr h'
  ·by_cases hid:id∈ρ
   ·obtain⟨k,hlt,rfl⟩:=hmem id hid
    rw[hsk k hlt] at ho
    simp only[Option.some.injEq] at ho
    subst ho
    obtain⟨o',g1,g2,g3⟩:=hE.objs k exts[k] (by simp [hlt])
    refine⟨renO ρ o',hsn1 k o' g1,g2,fun he=>?_⟩
    obtain⟨e1,e2⟩:=g3 he
    exact⟨e1,by rw[hσn k hlt,e2,hσc k hlt]⟩
   ·exact⟨o,by rw[hsn2 id hid]; exact ho,Nat.le_refl _,fun _=>⟨rfl,hσo id hid⟩⟩
 have up:∀{x:V} {u:Value},RepV σ' s' w' x u→RepV σn (putObjs s ρ (s'.map (renO ρ))) w' (renV ρ x) u:=fun hr =>
  ren_up own3 hsn1 (fun k hk=>hσn k (by omega)) hr
 have hIn:Inv σn (putObjs s ρ (s'.map (renO ρ))) w':=by
  refine⟨fun id o ho=>?_,fun id id' o o' b base base' h1 h2 h3 h4 h5=>?_,fun b hb=>Nat.lt_of_lt_of_le (hI.low b hb) hE.size,fun id o b base h1 h2 hb=>?_⟩
  ·by_cases hid:id∈ρ
   ·obtain⟨k,hlt,rfl⟩:=hmem id hid
    obtain⟨o',g1,rfl⟩:=hsn3 k o hlt ho
    rw[hσn k hlt]
    rcases hI'.content k o' g1 with c1 | ⟨b,base,arr,E,c1,c2,c3,c4,c5⟩
    ·exact .inl c1.up
    ·refine .inr ⟨b,base,arr,E,c1,c2,fun e he=>?_,by simpa [renO] using c4,fun i j y hy=>?_⟩
     ·obtain⟨e',he',rfl⟩:=List.mem_map.1 he
      rw[renV_go]
      simpa [renO] using c3 e' he'
     ·obtain⟨x,hx,rfl⟩:=renO_get hy
      obtain⟨u,k1,k2,k3⟩:=c5 i j x hx
      exact⟨u,k1,k2,up k3⟩
   ·rw[hsn2 id hid] at ho
    rw[hσo id hid]
    refine Holds.evolve (p:=σ id) hEn (fun b base hb=>?_) (hI.content id o ho)
    have hlt:=hI.lt ho hb
    by_cases hO:Own σ s b
    ·by_cases hl':o.live=true
     ·exact foreign b hlt hO (otherB id o b base hid ho hb hl')
     ·exfalso
      rcases hO with hO | ⟨id',o',base',g1,g2,g3⟩
      ·exact hI.apart id o b base ho hb hO
      ·have:=hI.inj id' id o' o b base' base g1 ho g2 g3 hb
       subst this
       rw[ho] at g1; cases g1
       exact hl' g2
    ·exact hE.keep b hlt fun h'=>hO (own1 b h')
  ·by_cases hid:id∈ρ <;> by_cases hid':id'∈ρ
   ·obtain⟨k,hlt,rfl⟩:=hmem id hid
    obtain⟨k',hlt',rfl⟩:=hmem id' hid'
    obtain⟨p,g1,rfl⟩:=hsn3 k o hlt h1
    obtain⟨p',g1',rfl⟩:=hsn3 k' o' hlt' h2
    rw[hσn k hlt] at h4
    rw[hσn k' hlt'] at h5
    rw[hI'.inj k k' p p' b base base' g1 g1' h3 h4 h5]
   ·exfalso
    obtain⟨k,hlt,rfl⟩:=hmem id hid
    obtain⟨p,g1,rfl⟩:=hsn3 k o hlt h1
    rw[hσn k hlt] at h4
    rw[hsn2 id' hid'] at h2
    rw[hσo id' hid'] at h5
    have hltb:=hI.lt h2 h5
    have hO:Own σ s b:=by
     rcases hE.own b (.inr ⟨k,p,base,g1,h3,h4⟩) with h' | h'
     ·exact own1 b h'
     ·omega
    by_cases hl':o'.live=true
    ·exact hI'.apart k p b base g1 h4 (by rw[hE.base]; exact⟨hO,otherB id' o' b base' hid' h2 h5 hl'⟩)
    ·rcases hO with hO | ⟨id2,o2,base2,q1,q2,q3⟩
     ·exact hI.apart id' o' b base' h2 h5 hO
     ·have:=hI.inj id2 id' o2 o' b base2 base' q1 h2 q2 q3 h5
      subst this
      rw[h2] at q1; cases q1
      exact hl' q2
   ·exfalso
    obtain⟨k',hlt',rfl⟩:=hmem id' hid'
    obtain⟨p',g1',rfl⟩:=hsn3 k' o' hlt' h2
    rw[hσn k' hlt'] at h5
    rw[hsn2 id hid] at h1
    rw[hσo id hid] at h4
    exact hI'.apart k' p' b base' g1' h5 (by rw[hE.base]; exact⟨.inr ⟨id,o,base,h1,h3,h4⟩,otherB id o b base hid h1 h4 h3⟩)
   ·rw[hsn2 id hid] at h1
    rw[hsn2 id' hid'] at h2
    rw[hσo id hid] at h4
    rw[hσo id' hid'] at h5
    exact hI.inj id id' o o' b base base' h1 h2 h3 h4 h5
  ·by_cases hid:id∈ρ
   ·obtain⟨k,hlt,rfl⟩:=hmem id hid
    obtain⟨p,g1,rfl⟩:=hsn3 k o hlt h1
    rw[hσn k hlt] at h2
    exact hI'.apart k p b base g1 h2 (by rw[hE.base]; exact⟨.inl hb,baseE b hb⟩)
   ·rw[hsn2 id hid] at h1
    rw[hσo id hid] at h2
    exact hI.apart id o b base h1 h2 hb
 exact⟨u,renV ρ v,σn,_,he,hEn,hIn,up hR,hK⟩
end Go.VL
