/- A part of the proof (Va Vb Vc Vd Ve Vf Vg Vh Vhm Vgc Vi Vj Vk Vl Vm). -/
import Derived.WalkKit
import Derived.WalkSpells
import Derived.ChangeKeysEq
import Derived.Deep.AppendSrc
import Derived.ChangeMaps5
import Derived.MapKept
set_option linter.unusedSimpArgs false
set_option linter.unusedVariables false
set_option maxRecDepth 100000
set_option maxHeartbeats 80000000
namespace Go.VL
theorem Vq:type_of% @List.getElem?_eq_some_iff.{0}:=@List.getElem?_eq_some_iff.{0}
theorem Vr:type_of% @Int.le_refl:=@Int.le_refl
theorem Vs:type_of% @Bool.not_true:=@Bool.not_true
theorem Vt:type_of% @Bool.not_false:=@Bool.not_false
theorem Vu:type_of% @List.getElem?_eq_getElem.{0}:=@List.getElem?_eq_getElem.{0}
theorem Vv:type_of% @List.length_map.{0,0}:=@List.length_map.{0,0}
theorem Vw:type_of% @Bool.false_eq_true:=@Bool.false_eq_true
theorem Vx:type_of% @List.nil_append.{0}:=@List.nil_append.{0}
theorem Vy:type_of% @List.mem_of_getElem?.{0}:=@List.mem_of_getElem?.{0}
theorem Vz:type_of% @List.cons_append.{0}:=@List.cons_append.{0}
theorem VA:type_of% @Nat.le_refl:=@Nat.le_refl
theorem VB:type_of% @List.getElem?_map.{0,0}:=@List.getElem?_map.{0,0}
theorem VC:type_of% @List.length_cons.{0}:=@List.length_cons.{0}
theorem VD:type_of% @List.eq_nil_of_length_eq_zero.{0}:=@List.eq_nil_of_length_eq_zero.{0}
theorem VE:type_of% @Bool.and_eq_true:=@Bool.and_eq_true
theorem VF:type_of% @List.getElem?_append_right.{0}:=@List.getElem?_append_right.{0}
theorem VG:type_of% @Int.natCast_zero:=@Int.natCast_zero
theorem VH:type_of% @List.getElem?_append_left.{0}:=@List.getElem?_append_left.{0}
theorem VI:type_of% @Array.getD_eq_getD_getElem?.{0}:=@Array.getD_eq_getD_getElem?.{0}
theorem VJ:type_of% @Option.map_eq_some_iff.{0,0}:=@Option.map_eq_some_iff.{0,0}
theorem VK:type_of% @List.length_nil.{0}:=@List.length_nil.{0}
theorem VM:type_of% @Bool.false_or:=@Bool.false_or
theorem VN:type_of% @List.length_append.{0}:=@List.length_append.{0}
theorem VO:type_of% @List.map_nil.{0,0}:=@List.map_nil.{0,0}
theorem VP:type_of% @List.map_cons.{0,0}:=@List.map_cons.{0,0}
theorem VQ:type_of% @List.getElem?_cons_zero.{0}:=@List.getElem?_cons_zero.{0}
theorem VR:type_of% @Int.toNat_natCast:=@Int.toNat_natCast
theorem VS:type_of% @List.mem_map.{0,0}:=@List.mem_map.{0,0}
theorem VT:type_of% @List.all_eq_true.{0}:=@List.all_eq_true.{0}
theorem VU:type_of% @Nat.zero_add:=@Nat.zero_add
theorem VV:type_of% @Bool.true_or:=@Bool.true_or
theorem VW:type_of% @List.getElem?_take.{0}:=@List.getElem?_take.{0}
theorem VX:type_of% @Nat.lt_or_ge:=@Nat.lt_or_ge
theorem VY:type_of% @List.append_assoc.{0}:=@List.append_assoc.{0}
theorem VZ:type_of% @List.take_of_length_le.{0}:=@List.take_of_length_le.{0}
theorem V0:type_of% @Nat.mul_le_mul_right:=@Nat.mul_le_mul_right
theorem V1:type_of% @Bool.false_ne_true:=@Bool.false_ne_true
theorem V2:type_of% @List.mem_singleton.{0}:=@List.mem_singleton.{0}
theorem V3:type_of% @List.length_take.{0}:=@List.length_take.{0}
theorem V4:type_of% @Array.getElem?_toList.{0}:=@Array.getElem?_toList.{0}
theorem V5:type_of% @List.set_cons_zero.{0}:=@List.set_cons_zero.{0}
theorem V6:type_of% @Bool.eq_false_iff:=@Bool.eq_false_iff
theorem V7:type_of% @List.length_replicate.{0}:=@List.length_replicate.{0}
theorem V8:type_of% @List.getElem?_set_self.{0}:=@List.getElem?_set_self.{0}
theorem V9:type_of% @List.set_cons_succ.{0}:=@List.set_cons_succ.{0}
theorem Wa:type_of% @Nat.add_mul:=@Nat.add_mul
theorem Wb:type_of% @List.getElem?_eq_none.{0}:=@List.getElem?_eq_none.{0}
theorem Wc:type_of% @Option.map_some.{0,0}:=@Option.map_some.{0,0}
theorem Wd:type_of% @Option.bind_some.{0,0}:=@Option.bind_some.{0,0}
theorem We:type_of% @List.take_length.{0}:=@List.take_length.{0}
theorem Wf:type_of% @List.getElem?_drop.{0}:=@List.getElem?_drop.{0}
theorem Wg:type_of% @List.getElem?_set_ne.{0}:=@List.getElem?_set_ne.{0}
theorem Wh:type_of% @Int.add_assoc:=@Int.add_assoc
theorem Wi:type_of% @List.all_append.{0}:=@List.all_append.{0}
theorem Wj:type_of% @Nat.lt_irrefl:=@Nat.lt_irrefl
theorem Wk:type_of% @Nat.add_assoc:=@Nat.add_assoc
theorem Wl:type_of% @Int.eq_ofNat_of_zero_le:=@Int.eq_ofNat_of_zero_le
theorem Wm:type_of% @List.eq_of_mem_replicate.{0}:=@List.eq_of_mem_replicate.{0}
theorem Wn:type_of% @List.map_congr_left.{0,0}:=@List.map_congr_left.{0,0}
theorem Wo:type_of% @List.mem_of_mem_take.{0}:=@List.mem_of_mem_take.{0}
theorem Wp:type_of% @Nat.le_max_right:=@Nat.le_max_right
theorem Wq:type_of% @List.mem_append.{0}:=@List.mem_append.{0}
theorem Wr:type_of% @Bool.eq_false_or_eq_true:=@Bool.eq_false_or_eq_true
theorem Ws:type_of% @Nat.le_max_left:=@Nat.le_max_left
theorem Wt:type_of% @Int.natCast_add:=@Int.natCast_add
theorem Wu:type_of% @List.mem_cons.{0}:=@List.mem_cons.{0}
theorem Wv:type_of% @Nat.sub_self:=@Nat.sub_self
theorem Ww:type_of% @Array.length_toList.{0}:=@Array.length_toList.{0}
theorem Wx:type_of% @List.drop_zero.{0}:=@List.drop_zero.{0}
theorem Wy:type_of% @Bool.and_true:=@Bool.and_true
theorem Wz:type_of% @List.mapM_cons.{0,0,0}:=@List.mapM_cons.{0,0,0}
theorem WA:type_of% @List.map_append.{0,0}:=@List.map_append.{0,0}
theorem WB:type_of% @Bool.or_false:=@Bool.or_false
inductive D where
 |sc (v:Value)
 |sl (aL:List (List D))
 |el (cs:List D)
 |cl (fn:Fn) (first ai:List D)
 |ub
inductive V where
 |d (x:D)
 |ag (cs:List V)
 |fu (aL:List (List D))
 |so (id g lo n:Nat)
 |rf (id g i off:Nat)
 |pp (id g i off b a:Nat)
 |mp (id g:Nat)
 |bx (v:V)
 |cap (lo hi:Nat) (v:V)
 |cl (fn:Fn) (first ai:List V)
 |tu (vs:List V)
 |un
 |any
structure Obj where
 g:Nat
 live:Bool
 sz:Nat
 aL:List (List V)
structure Gh where
 map:Nat→Option (Nat×Nat)
 base:Nat→Prop
instance:CoeFun Gh (fun _=>Nat→Option (Nat×Nat)):=⟨Gh.map⟩
def Own (σ:Gh) (s:List Obj) (b:Nat):Prop:=σ.base b∨∃id o base,s[id]?=some o∧o.live=true∧σ id=some (b,base)
inductive du (O:Nat→Prop) (w:World):D→Value→Prop
 |sc (v:Value):v.oneCell'=true→du O w (.sc v) v
 |nil:du O w (.sl []) (.slice none 0 0)
 |sl (aL:List (List D)) (a:Addr) (cap sz:Nat) (f:Nat→Nat→Value):aL.length≤cap→(aL≠[]→a.spot=none)→(∀e∈aL,e.length=sz) →
   (∀i j x,(aL[i]?.bind (·[j]?))=some x→w.cell? ⟨a.block,a.off+i*sz+j,none⟩=some (f i j)∧¬O a.block) →
   (∀i j x,(aL[i]?.bind (·[j]?))=some x→du O w x (f i j))→du O w (.sl aL) (.slice (some a) aL.length cap)
 |el (cs:List D) (a:Addr) (f:Nat→Value):a.spot=none →
   (∀j x,cs[j]?=some x→w.cell? ⟨a.block,a.off+j,none⟩=some (f j)∧¬O a.block) →
   (∀j x,cs[j]?=some x→du O w x (f j))→du O w (.el cs) (.pointer (some a))
 |cl {fn:Fn}{first ai:List D}{f' c':Array Value}:f'.size=first.length→(∀i x,first[i]?=some x→du O w x (f'.getD i undef)) →
   c'.size=ai.length→(∀i x,ai[i]?=some x→du O w x (c'.getD i undef))→du O w (.cl fn first ai) (.func fn f' c')
 |ub (b:Bool):du O w .ub (.bool b)
def yD (σ:Gh) (w:World) (id:Nat) (o:Obj) (lo n:Nat) (u:Value):Prop :=
 (σ id=none∧(∃a,u=.slice a 0 0)∧lo=0∧n=0) ∨
 ∃b base cap E arr,σ id=some (b,base)∧w.heap[b]?=some (.cells arr E (0,0))∧u=.slice (some ⟨b,base+lo*o.sz,none⟩) n cap∧n≤cap∧base+(lo+cap)*o.sz≤arr.size
def D4 (w:World) (b:Nat):Prop:=∃arr E,w.heap[b]?=some (.cells arr E (0,0))
def LP (w:World) (b:Nat):Prop:=∃es c,w.heap[b]?=some (.map es c)
def Ku (lo hi:Nat) (u:Value):Prop:=∀a n c,u=.slice a n c→lo≤c∧c≤hi
inductive aJ (σ:Gh) (s:List Obj) (w:World):V→Value→Prop
 |d {x:D}{u:Value}:du (Own σ s) w x u→aJ σ s w (.d x) u
 |ag {cs:List V}{arr:Array Value}:arr.size=cs.length→(∀i x,cs[i]?=some x→(arr.getD i undef).oneCell'=true) →
   (∀i x,cs[i]?=some x→aJ σ s w x (arr.getD i undef))→aJ σ s w (.ag cs) (.agg arr)
 |tu {cs:List V}{arr:Array Value}:arr.size=cs.length→(∀i x,cs[i]?=some x→aJ σ s w x (arr.getD i undef))→aJ σ s w (.tu cs) (.tuple arr)
 |fu {aL:List (List D)}{a:Option Addr}:du (Own σ s) w (.sl aL) (.slice a aL.length aL.length)→aJ σ s w (.fu aL) (.slice a aL.length aL.length)
 |so {id g lo n:Nat}{u:Value} (o:Obj):s[id]?=some o→g≤o.g→u.oneCell'=true→(o.g=g→yD σ w id o lo n u)→aJ σ s w (.so id g lo n) u
 |rf {id g i off:Nat}{u:Value} (o:Obj):s[id]?=some o→g≤o.g→u.oneCell'=true→(o.g=g→∃b base,σ id=some (b,base)∧D4 w b∧u=.pointer (some ⟨b,base+i*o.sz+off,none⟩)) →
   aJ σ s w (.rf id g i off) u
 |pp {id g i off b a:Nat} (o:Obj):s[id]?=some o→g≤o.g→(o.g=g→∃base,σ id=some (b,base)∧D4 w b∧a=base+i*o.sz+off)→aJ σ s w (.pp id g i off b a) (.pointer (some ⟨b,a,none⟩))
 |mp {id g:Nat}{u:Value} (o:Obj):s[id]?=some o→g≤o.g→u.oneCell'=true→(o.g=g→∃b,σ id=some (b,0)∧LP w b∧u=.map (some b))→aJ σ s w (.mp id g) u
 |bx {v:V}{a:Addr}{u:Value}:a.spot=none→w.cell? ⟨a.block,a.off,none⟩=some u→¬Own σ s a.block→u.oneCell'=true→aJ σ s w v u→aJ σ s w (.bx v) (.pointer (some a))
 |cap {lo hi:Nat}{v:V}{u:Value}:Ku lo hi u→aJ σ s w v u→aJ σ s w (.cap lo hi v) u
 |cl {fn:Fn}{first ai:List V}{f' c':Array Value}:f'.size=first.length→(∀i x,first[i]?=some x→aJ σ s w x (f'.getD i undef)) →
   c'.size=ai.length→(∀i x,ai[i]?=some x→aJ σ s w x (c'.getD i undef))→aJ σ s w (.cl fn first ai) (.func fn f' c')
 |un:aJ σ s w .un undef
 |any {u:Value}:aJ σ s w .any u
structure bc (σ:Gh) (s:List Obj) (w:World) (σ':Gh) (s':List Obj) (w':World):Prop where
 os:w'.os=w.os
 tape:w'.tape=w.tape
 output:w'.output=w.output
 size:w.heap.size≤w'.heap.size
 cc:∀b,b<w.heap.size→¬Own σ s b→w'.heap[b]?=w.heap[b]?
 shape:∀b arr E,Own σ s b→w.heap[b]?=some (.cells arr E (0,0))→∃cH,w'.heap[b]?=some (.cells cH E (0,0))∧cH.size=arr.size
 pF:∀b,Own σ s b→LP w b→LP w' b
 own:∀b,Own σ' s' b→Own σ s b∨w.heap.size≤b
 aF:∀id o,s[id]?=some o→∃o',s'[id]?=some o'∧o.g≤o'.g∧(o'.g=o.g→o'.sz=o.sz∧σ' id=σ id)
 base:σ'.base=σ.base
 gn:∀b,b<w.heap.size→σ.base b→w'.heap[b]?=w.heap[b]?
theorem bc.refl (σ:Gh) (s:List Obj) (w:World):bc σ s w σ s w :=
 ⟨rfl,rfl,rfl,VA _,fun _ _ _=>rfl,fun _ arr _ _ h=>⟨arr,h,rfl⟩,fun _ _ h=>h,fun _ h=>.inl h,fun _ o h=>⟨o,h,VA _,fun _=>⟨rfl,rfl⟩⟩,rfl,fun _ _ _=>rfl⟩
theorem fw {w:World}{b:Nat}{o:Go.Obj} (h:w.heap[b]?=some o):b<w.heap.size:=by
 rcases VX b w.heap.size with h'|h'
 ·exact h'
 ·simp [Array.getElem?_eq_none h']at h
theorem bc.trans {σ s w σ' s' w' S0 D5 Ss} (h:bc σ s w σ' s' w') (k:bc σ' s' w' S0 D5 Ss):bc σ s w S0 D5 Ss:=by
 refine⟨k.os.trans h.os,k.tape.trans h.tape,k.output.trans h.output,Nat.le_trans h.size k.size,?_,?_,?_,?_,?_,k.base.trans h.base,
  fun b hb ho=>(k.gn b (Nat.lt_of_lt_of_le hb h.size) (by rw[h.base];exact ho)).trans (h.gn b hb ho)⟩
 ·intro b hb ho
  rw[k.cc b (Nat.lt_of_lt_of_le hb h.size) (fun h'=>(h.own b h').elim ho (fun MZ=>by omega)),h.cc b hb ho]
 ·intro b arr E ho hh
  obtain⟨cH,h1,h2⟩:=h.shape b arr E ho hh
  by_cases jj:Own σ' s' b
  ·obtain⟨Pu,h3,h4⟩:=k.shape b cH E jj h1
   exact⟨Pu,h3,by omega⟩
  ·exact⟨cH,by rw[k.cc b (fw h1) jj];exact h1,h2⟩
 ·intro b ho hh
  obtain⟨es,c,h1⟩:=h.pF b ho hh
  by_cases jj:Own σ' s' b
  ·exact k.pF b jj ⟨es,c,h1⟩
  ·exact⟨es,c,by rw[k.cc b (fw h1) jj];exact h1⟩
 ·intro b hb
  rcases k.own b hb with h'|h'
  ·exact h.own b h'
  ·exact .inr (Nat.le_trans h.size h')
 ·intro id o ho
  obtain⟨o',h1,h2,h3⟩:=h.aF id o ho
  obtain⟨Tb,k1,k2,k3⟩:=k.aF id o' h1
  refine⟨Tb,k1,Nat.le_trans h2 k2,fun he=>?_⟩
  have e1:o'.g=o.g:=by omega
  have e2:Tb.g=o'.g:=by omega
  exact⟨(k3 e2).1.trans (h3 e1).1,(k3 e2).2.trans (h3 e1).2⟩
theorem bc.cell {σ s w σ' s' w'} (h:bc σ s w σ' s' w') {a:Addr}{u:Value} (hc:w.cell? a=some u) (ho:¬Own σ s a.block) :
  w'.cell? a=some u∧¬Own σ' s' a.block:=by
 have hb:=World.block_lt_of_cell? _ _ hc
 refine⟨?_,fun h'=>?_⟩
 ·rw[World.cell?_of_block (w:=w) (h.cc a.block hb ho)];exact hc
 ·rcases h.own _ h' with h'|h'
  ·exact ho h'
  ·omega
theorem du.bM {σ s w σ' s' w'} (h:bc σ s w σ' s' w') {x:D}{u:Value} (hr:du (Own σ s) w x u):du (Own σ' s') w' x u:=by
 induction hr with
 |sc v hv=>exact .sc v hv
 |nil=>exact .nil
 |sl aL a cap sz f h1 h2 h3 h4 _ ih=>exact .sl aL a cap sz f h1 h2 h3 (fun i j x hx=>h.cell (a:=⟨a.block,_,none⟩) (h4 i j x hx).1 (h4 i j x hx).2) ih
 |el cs a f h1 h2 _ ih=>exact .el cs a f h1 (fun j x hx=>h.cell (a:=⟨a.block,_,none⟩) (h2 j x hx).1 (h2 j x hx).2) ih
 |cl h1 _ h3 _ yj gz=>exact .cl h1 yj h3 gz
 |ub b=>exact .ub b
theorem du.own {O O':Nat→Prop}{w:World}{x:D}{u:Value} (h:∀b,O' b→O b) (hr:du O w x u):du O' w x u:=by
 induction hr with
 |sc v hv=>exact .sc v hv
 |nil=>exact .nil
 |sl aL a cap sz f h1 h2 h3 h4 _ ih=>exact .sl aL a cap sz f h1 h2 h3 (fun i j x hx=>⟨(h4 i j x hx).1,fun h'=>(h4 i j x hx).2 (h _ h')⟩) ih
 |el cs a f h1 h2 _ ih=>exact .el cs a f h1 (fun j x hx=>⟨(h2 j x hx).1,fun h'=>(h2 j x hx).2 (h _ h')⟩) ih
 |cl h1 _ h3 _ yj gz=>exact .cl h1 yj h3 gz
 |ub b=>exact .ub b
theorem yD.bM {σ s w σ' s' w'} (h:bc σ s w σ' s' w') {id:Nat}{o o':Obj}{lo n:Nat}{u:Value} (gH:o'.sz=o.sz) (hs:σ' id=σ id)
  (hk:yD σ w id o lo n u):yD σ' w' id o' lo n u:=by
 rcases hk with ⟨h1,h2,h3,h4⟩|⟨b,base,cap,E,arr,h1,h2,h3,h4,h5⟩
 ·exact .inl ⟨hs.trans h1,h2,h3,h4⟩
 ·by_cases hO:Own σ s b
  ·obtain⟨cH,k1,k2⟩:=h.shape b arr E hO h2
   exact .inr ⟨b,base,cap,E,cH,hs.trans h1,k1,by rw[gH];exact h3,h4,by rw[gH,k2];exact h5⟩
  ·exact .inr ⟨b,base,cap,E,arr,hs.trans h1,by rw[h.cc b (fw h2) hO];exact h2,by rw[gH];exact h3,h4,by rw[gH];exact h5⟩
theorem D4.bM {σ s w σ' s' w'} (h:bc σ s w σ' s' w') {b:Nat} (hc:D4 w b):D4 w' b:=by
 obtain⟨arr,E,hh⟩:=hc
 by_cases hO:Own σ s b
 ·obtain⟨cH,k1,_⟩:=h.shape b arr E hO hh
  exact⟨cH,E,k1⟩
 ·exact⟨arr,E,by rw[h.cc b (fw hh) hO];exact hh⟩
theorem LP.bM {σ s w σ' s' w'} (h:bc σ s w σ' s' w') {b:Nat} (hc:LP w b):LP w' b:=by
 by_cases hO:Own σ s b
 ·exact h.pF b hO hc
 ·obtain⟨es,c,hh⟩:=hc
  exact⟨es,c,by rw[h.cc b (fw hh) hO];exact hh⟩
theorem D4.notM {w:World}{b:Nat} (h:D4 w b) (k:LP w b):False:=by
 obtain⟨arr,E,h⟩:=h
 obtain⟨es,c,k⟩:=k
 rw[h]at k;cases k
theorem aJ.bM {σ s w σ' s' w'} (h:bc σ s w σ' s' w') {x:V}{u:Value} (hr:aJ σ s w x u):aJ σ' s' w' x u:=by
 induction hr with
 |d hx=>exact .d (hx.bM h)
 |ag h1 h2 _ ih=>exact .ag h1 h2 ih
 |tu h1 _ ih=>exact .tu h1 ih
 |fu hx=>exact .fu (hx.bM h)
 |so o ho hg hu hk =>
  obtain⟨o',h1,h2,h3⟩:=h.aF _ o ho
  exact .so o' h1 (Nat.le_trans hg h2) hu fun he=>have e:o'.g=o.g:=by omega
   yD.bM h (h3 e).1 (h3 e).2 (hk (by omega))
 |rf o ho hg hu hk =>
  obtain⟨o',h1,h2,h3⟩:=h.aF _ o ho
  refine .rf o' h1 (Nat.le_trans hg h2) hu fun he=>?_
  have e:o'.g=o.g:=by omega
  obtain⟨b,base,k1,kc,k2⟩:=hk (by omega)
  exact⟨b,base,(h3 e).2.trans k1,kc.bM h,by rw[(h3 e).1];exact k2⟩
 |pp o ho hg hk =>
  obtain⟨o',h1,h2,h3⟩:=h.aF _ o ho
  refine .pp o' h1 (Nat.le_trans hg h2) fun he=>?_
  have e:o'.g=o.g:=by omega
  obtain⟨base,k1,kc,k2⟩:=hk (by omega)
  exact⟨base,(h3 e).2.trans k1,kc.bM h,by rw[(h3 e).1];exact k2⟩
 |mp o ho hg hu hk =>
  obtain⟨o',h1,h2,h3⟩:=h.aF _ o ho
  refine .mp o' h1 (Nat.le_trans hg h2) hu fun he=>?_
  have e:o'.g=o.g:=by omega
  obtain⟨b,k1,kc,k2⟩:=hk (by omega)
  exact⟨b,(h3 e).2.trans k1,kc.bM h,k2⟩
 |cap h1 _ ih=>exact .cap h1 ih
 |bx h1 h2 h3 hu _ ih =>
  obtain⟨k1,k2⟩:=h.cell h2 h3
  exact .bx h1 k1 k2 hu ih
 |cl h1 _ h3 _ yj gz=>exact .cl h1 yj h3 gz
 |un=>exact .un
 |any=>exact .any
theorem aJ.M3 {σ s w}{id g i off b a:Nat}{u:Value} (h:aJ σ s w (.pp id g i off b a) u):aJ σ s w (.rf id g i off) u:=by
 cases h with
 |pp o ho hg hk=>exact .rf o ho hg rfl fun he=>let ⟨base,h1,h2,h3⟩:=hk he;⟨b,base,h1,h2,by rw[h3]⟩
theorem aJ.wV {σ s w}{id g i off b a:Nat}{u:Value} (h:aJ σ s w (.pp id g i off b a) u):u=.pointer (some ⟨b,a,none⟩):=by
 cases h with
 |pp o ho hg hk=>rfl
theorem aJ.Pt {σ s w}{id g i off:Nat}{u:Value}{o:Obj} (ho:s[id]?=some o) (hg:o.g=g) (h:aJ σ s w (.rf id g i off) u):∃b a,aJ σ s w (.pp id g i off b a) u:=by
 cases h with
 |rf o' jj xg hu hk =>
  rw[ho]at jj;cases jj
  obtain⟨b,base,h1,h2,rfl⟩:=hk hg
  exact⟨b,_,.pp o ho xg fun _=>⟨base,h1,h2,rfl⟩⟩
def iP (es:Array MapEntry):List (List V):=es.toList.map fun e=>[V.d (.sc e.key),V.d (.sc e.val)]
def ri (w:World) (p:Option (Nat×Nat)) (o:Obj):Prop :=
 (p=none∧o.aL=[])∨∃b es c,p=some (b,0)∧w.heap[b]?=some (.map es c)∧o.aL=iP es
theorem ri.yW {w:World}{p:Option (Nat×Nat)}{o:Obj} (h:ri w p o) {b base:Nat} (hp:p=some (b,base)) (hc:D4 w b):False:=by
 rcases h with ⟨h,_⟩|⟨b',es,c,h,hh,_⟩
 ·rw[hp]at h;cases h
 ·rw[hp]at h;cases h
  exact hc.notM ⟨es,c,hh⟩
theorem ri.congr {w:World}{p:Option (Nat×Nat)}{o o':Obj} (h:ri w p o') (he:o.aL=o'.aL):ri w p o:=by
 unfold ri at *;rw[he];exact h
theorem ri.Bg {w:World}{p:Option (Nat×Nat)}{o:Obj} (h:ri w p o) (hp:p=none):o.aL=[]:=by
 rcases h with ⟨_,h⟩|⟨b',es,c,h,_⟩
 ·exact h
 ·rw[hp]at h;cases h
structure Inv (σ:Gh) (s:List Obj) (w:World):Prop where
 content:∀id o,s[id]?=some o→ri w (σ id) o∨∃b base arr E,σ id=some (b,base)∧w.heap[b]?=some (.cells arr E (0,0)) ∧
  (∀e∈o.aL,e.length=o.sz)∧base+o.aL.length*o.sz≤arr.size ∧
  ∀i j x,(o.aL[i]?.bind (·[j]?))=some x→∃u,arr[base+i*o.sz+j]?=some u∧u.oneCell'=true∧aJ σ s w x u
 inj:∀id jJ o o' b base cj,s[id]?=some o→s[jJ]?=some o'→o.live=true→σ id=some (b,base)→σ jJ=some (b,cj)→id=jJ
 low:∀b,σ.base b→b<w.heap.size
 apart:∀id o b base,s[id]?=some o→σ id=some (b,base)→¬σ.base b
def lO (σ:Gh) (id:Nat) (p:Option (Nat×Nat)):Gh:=⟨fun k=>if k=id then p else σ k,σ.base⟩
theorem b9 (σ:Gh) (id:Nat) (p:Option (Nat×Nat)):lO σ id p id=p:=by simp [lO]
theorem dw (σ:Gh) {id k:Nat} (p:Option (Nat×Nat)) (h:k≠id):lO σ id p k=σ k:=by simp [lO,h]
def rq (σ:Gh) (s:List Obj) (w:World) (p:Option (Nat×Nat)) (o:Obj):Prop :=
 ri w p o∨∃b base arr E,p=some (b,base)∧w.heap[b]?=some (.cells arr E (0,0)) ∧
  (∀e∈o.aL,e.length=o.sz)∧base+o.aL.length*o.sz≤arr.size ∧
  ∀i j x,(o.aL[i]?.bind (·[j]?))=some x→∃u,arr[base+i*o.sz+j]?=some u∧u.oneCell'=true∧aJ σ s w x u
theorem rq.bM {σ s w σ' s' w' p o} (h:bc σ s w σ' s' w') (hb:∀b base,p=some (b,base)→w'.heap[b]?=w.heap[b]?) (hh:rq σ s w p o):rq σ' s' w' p o:=by
 rcases hh with h1|⟨b,base,arr,E,h1,h2,h3,h4,h5⟩
 ·refine .inl ?_
  rcases h1 with h1|⟨b,es,c,h1,h2,h3⟩
  ·exact .inl h1
  ·exact .inr ⟨b,es,c,h1,(hb b 0 h1).trans h2,h3⟩
 ·exact .inr ⟨b,base,arr,E,h1,(hb b base h1).trans h2,h3,h4,fun i j x hx=>let ⟨u,k1,k2,k3⟩:=h5 i j x hx;⟨u,k1,k2,k3.bM h⟩⟩
theorem Inv.lt {σ s w} (hI:Inv σ s w) {id o b base} (ho:s[id]?=some o) (hs:σ id=some (b,base)):b<w.heap.size:=by
 rcases hI.content id o ho with (⟨h1,_⟩|⟨b',es,c,h1,h2,_⟩)|⟨b',cj,arr,E,h1,h2,_⟩
 ·rw[hs]at h1;cases h1
 ·rw[hs]at h1;cases h1;exact fw h2
 ·rw[hs]at h1;cases h1;exact fw h2
theorem lp {σ:Gh}{s:List Obj}{w:World} (hI:Inv σ s w) {id:Nat}{o o':Obj}{p:Option (Nat×Nat)}{w':World} (ho:s[id]?=some o) (hl:o.live=true)
  (hos:w'.os=w.os) (BV:w'.tape=w.tape) (ER:w'.output=w.output) (ia:w.heap.size≤w'.heap.size)
  (hkeep:∀b,b<w.heap.size→(∀base,σ id≠some (b,base))→w'.heap[b]?=w.heap[b]?)
  (hshape:∀b base arr E,σ id=some (b,base)→w.heap[b]?=some (.cells arr E (0,0))→∃cH,w'.heap[b]?=some (.cells cH E (0,0))∧cH.size=arr.size)
  (hshapeM:∀b base,σ id=some (b,base)→LP w b→LP w' b)
  (hg:o.g≤o'.g) (xg:o'.g=o.g→o'.sz=o.sz∧p=σ id)
  (hp:∀b base,p=some (b,base)→(∃wM,σ id=some (b,wM))∨w.heap.size≤b)
  (hc:bc σ s w (lO σ id p) (s.set id o') w'→rq (lO σ id p) (s.set id o') w' p o') :
  bc σ s w (lO σ id p) (s.set id o') w'∧Inv (lO σ id p) (s.set id o') w':=by
 have aT:id<s.length:=(List.getElem?_eq_some_iff.1 ho).1
 have vr:(s.set id o')[id]?=some o':=by simp [aT]
 have kD:∀k,k≠id→(s.set id o')[k]?=s[k]?:=fun k hk=>by rw[Wg (Ne.symm hk)]
 have RV:∀k ok b base,k≠id→s[k]?=some ok→σ k=some (b,base)→w'.heap[b]?=w.heap[b]?:=by
  intro k ok b base hk m8 hs
  exact hkeep b (hI.lt m8 hs) fun cj he=>hk (hI.inj id k o ok b cj base ho m8 hl he hs).symm
 have hE:bc σ s w (lO σ id p) (s.set id o') w':=by
  refine⟨hos,BV,ER,ia,?_,?_,?_,?_,?_,rfl,fun b hb hf=>hkeep b hb fun base he=>hI.apart id o b base ho he hf⟩
  ·intro b hb oP
   exact hkeep b hb fun base he=>oP (.inr ⟨id,o,base,ho,hl,he⟩)
  ·intro b arr E hO hh
   by_cases he:∃base,σ id=some (b,base)
   ·obtain⟨base,he⟩:=he
    exact hshape b base arr E he hh
   ·exact⟨arr,by rw[hkeep b (fw hh) (fun base h'=>he ⟨base,h'⟩)];exact hh,rfl⟩
  ·intro b hO hm
   by_cases he:∃base,σ id=some (b,base)
   ·obtain⟨base,he⟩:=he
    exact hshapeM b base he hm
   ·obtain⟨es,c,hh⟩:=hm
    exact⟨es,c,by rw[hkeep b (fw hh) (fun base h'=>he ⟨base,h'⟩)];exact hh⟩
  ·rintro b (hf|⟨k,ok,base,eO,yw,AL⟩)
   ·exact .inl (.inl hf)
   by_cases hk:k=id
   ·subst hk
    rw[b9]at AL
    rcases hp b base AL with ⟨wM,h'⟩|h'
    ·exact .inl (.inr ⟨k,o,wM,ho,hl,h'⟩)
    ·exact .inr h'
   ·rw[dw _ _ hk]at AL
    rw[kD k hk]at eO
    exact .inl (.inr ⟨k,ok,base,eO,yw,AL⟩)
  ·intro k ok m8
   by_cases hk:k=id
   ·subst hk
    rw[ho]at m8;cases m8
    exact⟨o',vr,hg,fun he=>⟨(xg he).1,by rw[b9];exact(xg he).2⟩⟩
   ·exact⟨ok,by rw[kD k hk];exact m8,VA _,fun _=>⟨rfl,dw _ _ hk⟩⟩
 refine⟨hE,⟨?_,?_,fun b hb=>Nat.lt_of_lt_of_le (hI.low b hb) ia,?_⟩⟩
 rotate_left 2
 ·intro k ok b base h1 h3 hf
  by_cases hk:k=id
  ·subst hk
   rw[b9]at h3
   rcases hp b base h3 with ⟨wM,h'⟩|h'
   ·exact hI.apart k o b wM ho h' hf
   ·have:=hI.low b hf;omega
  ·rw[dw _ _ hk]at h3
   rw[kD k hk]at h1
   exact hI.apart k ok b base h1 h3 hf
 ·intro k ok m8
  by_cases hk:k=id
  ·subst hk
   rw[vr]at m8;cases m8
   rw[b9]
   exact hc hE
  ·rw[kD k hk]at m8
   rw[dw _ _ hk]
   exact rq.bM (p:=σ k) hE (fun b base h=>RV k ok b base hk m8 h) (hI.content k ok m8)
 ·intro k k' ok Rv b base cj h1 h2 h3 h4 h5
  by_cases hk:k=id <;> by_cases rb:k'=id
  ·rw[hk,rb]
  ·subst hk
   rw[b9]at h4
   rw[dw _ _ rb]at h5
   rw[kD k' rb]at h2
   rcases hp b base h4 with ⟨wM,h'⟩|h'
   ·exact hI.inj _ _ _ _ _ _ _ ho h2 hl h' h5
   ·have:=hI.lt h2 h5;omega
  ·subst rb
   rw[b9]at h5
   rw[dw _ _ hk]at h4
   rw[kD k hk]at h1
   rcases hp b cj h5 with ⟨wM,h'⟩|h'
   ·exact hI.inj _ _ _ _ _ _ _ h1 ho h3 h4 h'
   ·have:=hI.lt h1 h4;omega
  ·rw[dw _ _ hk]at h4
   rw[dw _ _ rb]at h5
   rw[kD k hk]at h1
   rw[kD k' rb]at h2
   exact hI.inj _ _ _ _ _ _ _ h1 h2 h3 h4 h5
theorem lR {σ:Gh}{s:List Obj}{w:World} (hI:Inv σ s w) {o':Obj}{p:Option (Nat×Nat)}{w':World}
  (hos:w'.os=w.os) (BV:w'.tape=w.tape) (ER:w'.output=w.output) (ia:w.heap.size≤w'.heap.size)
  (hkeep:∀b,b<w.heap.size→w'.heap[b]?=w.heap[b]?)
  (hp:∀b base,p=some (b,base)→w.heap.size≤b)
  (hc:bc σ s w (lO σ s.length p) (s++[o']) w'→rq (lO σ s.length p) (s++[o']) w' p o') :
  bc σ s w (lO σ s.length p) (s++[o']) w'∧Inv (lO σ s.length p) (s++[o']) w':=by
 have vr:(s++[o'])[s.length]?=some o':=by simp
 have kD:∀k ok,k≠s.length→(s++[o'])[k]?=some ok→s[k]?=some ok:=by
  intro k ok hk h
  rw[List.getElem?_append]at h
  split at h
  ·exact h
  ·rename_i h'
   have:k-s.length≠0:=by omega
   cases hh:k-s.length with
   |zero=>omega
   |succ n=>rw[hh]at h;simp at h
 have aT:∀k ok,s[k]?=some ok→k≠s.length:=fun k ok h=>by have:=(List.getElem?_eq_some_iff.1 h).1;omega
 have hE:bc σ s w (lO σ s.length p) (s++[o']) w':=by
  refine⟨hos,BV,ER,ia,fun b hb _=>hkeep b hb,fun b arr E _ hh=>⟨arr,by rw[hkeep b (fw hh)];exact hh,rfl⟩,fun b _ hm=>let ⟨es,c,hh⟩:=hm;⟨es,c,by rw[hkeep b (fw hh)];exact hh⟩,?_,?_,rfl,fun b hb _=>hkeep b hb⟩
  ·rintro b (hf|⟨k,ok,base,eO,yw,AL⟩)
   ·exact .inl (.inl hf)
   by_cases hk:k=s.length
   ·subst hk
    rw[b9]at AL
    exact .inr (hp b base AL)
   ·rw[dw _ _ hk]at AL
    exact .inl (.inr ⟨k,ok,base,kD k ok hk eO,yw,AL⟩)
  ·intro k ok m8
   exact⟨ok,by rw[VH (List.getElem?_eq_some_iff.1 m8).1];exact m8,VA _,fun _=>⟨rfl,dw _ _ (aT k ok m8)⟩⟩
 refine⟨hE,⟨?_,?_,fun b hb=>Nat.lt_of_lt_of_le (hI.low b hb) ia,?_⟩⟩
 rotate_left 2
 ·intro k ok b base h1 h3 hf
  by_cases hk:k=s.length
  ·subst hk
   rw[b9]at h3
   have:=hp b base h3
   have:=hI.low b hf
   omega
  ·rw[dw _ _ hk]at h3
   exact hI.apart k ok b base (kD k ok hk h1) h3 hf
 ·intro k ok m8
  by_cases hk:k=s.length
  ·subst hk
   rw[vr]at m8;cases m8
   rw[b9]
   exact hc hE
  ·have h':=kD k ok hk m8
   rw[dw _ _ hk]
   exact rq.bM (p:=σ k) hE (fun b base h=>hkeep b (hI.lt h' h)) (hI.content k ok h')
 ·intro k k' ok Rv b base cj h1 h2 h3 h4 h5
  by_cases hk:k=s.length <;> by_cases rb:k'=s.length
  ·rw[hk,rb]
  ·subst hk
   rw[b9]at h4
   rw[dw _ _ rb]at h5
   have:=hI.lt (kD k' Rv rb h2) h5
   have:=hp b base h4
   omega
  ·subst rb
   rw[b9]at h5
   rw[dw _ _ hk]at h4
   have:=hI.lt (kD k ok hk h1) h4
   have:=hp b cj h5
   omega
  ·rw[dw _ _ hk]at h4
   rw[dw _ _ rb]at h5
   exact hI.inj _ _ _ _ _ _ _ (kD k ok hk h1) (kD k' Rv rb h2) h3 h4 h5
theorem sX {σ:Gh}{s:List Obj}{w w':World} (hI:Inv σ s w) (hos:w'.os=w.os) (BV:w'.tape=w.tape) (ER:w'.output=w.output) (ia:w.heap.size≤w'.heap.size)
  (hkeep:∀b,b<w.heap.size→w'.heap[b]?=w.heap[b]?):bc σ s w σ s w'∧Inv σ s w':=by
 have hE:bc σ s w σ s w':=⟨hos,BV,ER,ia,fun b hb _=>hkeep b hb,fun b arr E _ hh=>⟨arr,by rw[hkeep b (fw hh)];exact hh,rfl⟩,fun b _ hm=>let ⟨es,c,hh⟩:=hm;⟨es,c,by rw[hkeep b (fw hh)];exact hh⟩,fun b h=>.inl h,
  fun id o ho=>⟨o,ho,VA _,fun _=>⟨rfl,rfl⟩⟩,rfl,fun b hb _=>hkeep b hb⟩
 exact⟨hE,fun k ok m8=>rq.bM (p:=σ k) hE (fun b base h=>hkeep b (hI.lt m8 h)) (hI.content k ok m8),hI.inj,fun b hb=>Nat.lt_of_lt_of_le (hI.low b hb) ia,hI.apart⟩
theorem lS {σ:Gh}{s:List Obj}{w:World} (hI:Inv σ s w):bc σ s w σ s w.drew∧Inv σ s w.drew :=
 sX hI rfl rfl rfl (VA _) (fun _ _=>rfl)
theorem zl {σ:Gh}{s:List Obj}{w:World} (hI:Inv σ s w) (x:Go.Obj):bc σ s w σ s (w.alloc x)∧Inv σ s (w.alloc x) :=
 sX hI rfl rfl rfl (by simp) (fun b hb=>Go.RowKit.Below.heap_alloc w x b hb)
structure IP where
 sz:Nat
 agg:Bool
 xN:Nat
 zero:List Value
def bS (P:Program) (t:TypeId):Option IP :=
 match P.info? t,P.underlying t with
 |some i,some d=>match i.zero with
  |some z=>if z.cells.size=i.size∧z.cells.toList.all Value.oneCell'=true then
    some ⟨i.size,(match d with|.struct _|.array _ _=>true|_=>false),i.bytes,z.cells.toList⟩ else none
  |none=>none
 |_,_=>none
theorem fW {P:Program}{t:TypeId}{i:IP} (h:bS P t=some i):∃ti d z,P.info? t=some ti∧P.underlying t=some d∧ti.zero=some z∧ti.size=i.sz∧ti.bytes=i.xN ∧
  z.cells.toList=i.zero∧i.zero.length=i.sz∧(∀v∈i.zero,v.oneCell'=true)∧(∀w,(isAgg t).run P w=.ok i.agg w):=by
 unfold bS at h
 cases h1:P.info? t with
 |none=>simp [h1]at h
 |some ti =>
  cases h2:P.underlying t with
  |none=>simp [h1,h2]at h
  |some d =>
   cases h3:ti.zero with
   |none=>simp [h1,h2,h3]at h
   |some z =>
    simp only[h1,h2,h3]at h
    split at h
    ·rename_i hc
     simp only[Option.some.injEq]at h
     subst h
     refine⟨ti,d,z,rfl,rfl,h3,rfl,rfl,rfl,by simpa using hc.1,fun v hv=>List.all_eq_true.1 hc.2 v hv,fun w=>?_⟩
     cases d <;> simp [isAgg,run_underlying h2]
    ·cases h
def cv:Value→V
 |.slice none 0 0=>.fu []
 |.agg _=>.any
 |.tuple _=>.any
 |v=>.d (.sc v)
theorem AQ {σ s w} (v:Value):aJ σ s w (cv v) v:=by
 unfold cv
 split
 ·exact .fu .nil
 ·exact .any
 ·exact .any
 ·rename_i h1 h2 h3
  refine .d (.sc v ?_)
  cases v <;> simp_all [Value.oneCell']
def Ng:Value→V
 |.agg cs=>if cs.toList.all Value.oneCell'=true then .ag (cs.toList.map cv) else .any
 |v=>cv v
theorem L9 {σ s w} (v:Value):aJ σ s w (Ng v) v:=by
 unfold Ng
 split
 ·rename_i cs
  split
  ·rename_i h
   rw[VT]at h
   refine .ag (by simp) (fun i x hx=>?_) (fun i x hx=>?_)
   ·rw[VB]at hx
    obtain⟨y,hy,rfl⟩:=Option.map_eq_some_iff.1 hx
    have h2:cs[i]?=some y:=by rw[← V4];exact hy
    rw[VI,h2]
    exact h y (Vy hy)
   ·rw[VB]at hx
    obtain⟨y,hy,rfl⟩:=Option.map_eq_some_iff.1 hx
    have h2:cs[i]?=some y:=by rw[← V4];exact hy
    rw[VI,h2]
    exact AQ y
  ·exact .any
 ·exact AQ _
def ev (e:Nat→V):Operand→V
 |.tmp t=>e t
 |.const v=>Ng v
 |.global _=>.any
 |.func f=>.cl (.func f) [] []
def eA:V→Option (List V)
 |.ag cs=>some cs
 |.un|.any|.tu _|.cap ..=>none
 |v=>some [v]
theorem du.one {O w x u} (h:du O w x u):u.oneCell'=true:=by
 cases h <;> first|assumption|rfl
theorem ko {σ:Gh}{s:List Obj}{w:World}{x:V}{u:Value}{cs:List V} (hr:aJ σ s w x u) (hc:eA x=some cs) :
  u.cells.size=cs.length∧∀(i:Nat) (y:V),cs[i]?=some y→∃c,u.cells[i]?=some c∧c.oneCell'=true∧aJ σ s w y c:=by
 have single:∀{y:V}{c:Value},c.oneCell'=true→aJ σ s w y c→c.cells.size=[y].length∧∀(i:Nat) (z:V),[y][i]?=some z→∃b,c.cells[i]?=some b∧b.oneCell'=true∧aJ σ s w z b:=by
  intro y c h1 h2
  have kG:c.cells=#[c]:=by cases c <;> first|rfl|simp [Value.oneCell']at h1
  refine⟨by simp [kG],fun i z hz=>?_⟩
  cases i with
  |zero=>simp at hz;subst hz;exact⟨c,by simp [kG],h1,h2⟩
  |succ n=>simp at hz
 cases hr with
 |d h=>simp only[eA,Option.some.injEq]at hc;subst hc;exact single h.one (.d h)
 |ag h1 h2 h3 =>
  simp only[eA,Option.some.injEq]at hc;subst hc
  refine⟨h1,fun i y hy=>?_⟩
  have hi:=(List.getElem?_eq_some_iff.1 hy).1
  have e:∀{arr:Array Value},i<arr.size→arr[i]?=some (arr.getD i undef):=fun h=>by simp [Array.getD,h]
  exact⟨_,e (by simp only[Value.cells];omega),h2 i y hy,h3 i y hy⟩
 |tu h1 h2=>simp [eA]at hc
 |fu h=>simp only[eA,Option.some.injEq]at hc;subst hc;exact single rfl (.fu h)
 |so o h1 h2 h3 h4=>simp only[eA,Option.some.injEq]at hc;subst hc;exact single h3 (.so o h1 h2 h3 h4)
 |rf o h1 h2 h3 h4=>simp only[eA,Option.some.injEq]at hc;subst hc;exact single h3 (.rf o h1 h2 h3 h4)
 |pp o h1 h2 h3=>simp only[eA,Option.some.injEq]at hc;subst hc;exact single rfl (.pp o h1 h2 h3)
 |mp o h1 h2 h3 h4=>simp only[eA,Option.some.injEq]at hc;subst hc;exact single h3 (.mp o h1 h2 h3 h4)
 |bx h1 h2 h3 hu h4=>simp only[eA,Option.some.injEq]at hc;subst hc;exact single rfl (.bx h1 h2 h3 hu h4)
 |cap h1 h2=>simp [eA]at hc
 |cl h1 h2 h3 h4=>simp only[eA,Option.some.injEq]at hc;subst hc;exact single rfl (.cl h1 h2 h3 h4)
 |un=>simp [eA]at hc
 |any=>simp [eA]at hc
def mQ (agg:Bool) (n:Nat) (cs:List V) (K:V→Prop):Prop :=
 match agg with
 |true=>n≤cs.length∧K (.ag (cs.take n))
 |false=>n=1∧match cs with|[]=>False|v::_=>K v
def jH (P:Program) (t:TypeId) (s:List Obj) (p:V) (K:V→Prop):Prop :=
 match bS P t with
 |none=>False
 |some i=>match p with
  |.d (.el cs)=>mQ i.agg i.sz (cs.map .d) K
  |.bx v=>mQ i.agg i.sz [v] K
  |.rf id g k off=>match s[id]? with
   |none=>False
   |some o=>o.g=g∧match o.aL[k]? with
    |none=>False
    |some cs=>mQ i.agg i.sz (cs.drop off) K
  |.pp id g k off _ _=>match s[id]? with
   |none=>False
   |some o=>o.g=g∧match o.aL[k]? with
    |none=>False
    |some cs=>mQ i.agg i.sz (cs.drop off) K
  |_=>False
theorem fC {a:Addr} (h:a.spot=none) (n:Nat):a.add n=⟨a.block,a.off+n,none⟩:=by
 obtain⟨b,o,sp⟩:=a
 simp only at h
 subst h
 unfold Addr.add
 split <;> simp_all
theorem vv {P:Program}{t:TypeId}{i:IP} (ht:bS P t=some i) {w:World}{a:Addr} (ha:a.spot=none) (f:Nat→Value) (n1:i.agg=false→i.sz=1)
  (hc:∀j,j<i.sz→w.cell? ⟨a.block,a.off+j,none⟩=some (f j)) :
  (loadVar t a).run P w=.ok (if i.agg then .agg ((List.range i.sz).map f).toArray else f 0) w:=by
 obtain⟨ti,d,z,h1,h2,h3,h4,h5,h6,h7,h8,h9⟩:=fW ht
 have gH:(sizeOf t).run P w=.ok i.sz w:=by simp [sizeOf,typeInfo,h1,h4]
 cases tR:i.agg with
 |true =>
  rw[tR]at h9
  have hl:=run_loadCells (P:=P) w a i.sz f (fun j hj=>by rw[fC ha];exact hc j hj)
  simp [loadVar,h9,gH,hl]
 |false =>
  rw[tR]at h9
  have M0:=hc 0 (by rw[n1 tR];omega)
  have e:(⟨a.block,a.off+0,none⟩:Addr)=a:=by obtain⟨b,o,sp⟩:=a;simp_all
  rw[e]at M0
  simp [loadVar,h9,M0]
theorem wY {P:Program}{t:TypeId}{i:IP} (ht:bS P t=some i) {σ s w}{a:Addr} (ha:a.spot=none) {cs:List V}{K:V→Prop} (hk:mQ i.agg i.sz cs K)
  (hc:∀j x,cs[j]?=some x→∃u,w.cell? ⟨a.block,a.off+j,none⟩=some u∧u.oneCell'=true∧aJ σ s w x u) :
  ∃v c,(loadVar t a).run P w=.ok c w∧aJ σ s w v c∧K v:=by
 have hf:∃f:Nat→Value,∀j x,cs[j]?=some x→w.cell? ⟨a.block,a.off+j,none⟩=some (f j)∧(f j).oneCell'=true∧aJ σ s w x (f j):=by
  refine⟨fun j=>(w.cell? ⟨a.block,a.off+j,none⟩).getD undef,fun j x hx=>?_⟩
  obtain⟨u,h1,h2,h3⟩:=hc j x hx
  simp only[h1,Option.getD_some]
  exact⟨trivial,h2,h3⟩
 obtain⟨f,hf⟩:=hf
 unfold mQ at hk
 cases tR:i.agg with
 |true =>
  rw[tR]at hk
  obtain⟨hn,hk⟩:=hk
  have mV:∀j,j<i.sz→cs[j]?=some (cs[j]?.getD .any):=fun j hj=>by simp [show j<cs.length by omega]
  refine⟨_,_,vv ht ha f (by simp [tR]) (fun j hj=>(hf j _ (mV j hj)).1),?_,hk⟩
  rw[tR]
  simp only[if_true]
  have e:∀j,j<i.sz→((List.range i.sz).map f).toArray.getD j undef=f j:=fun j hj=>by simp [Array.getD,hj]
  have e2:∀j x,(cs.take i.sz)[j]?=some x→j<i.sz∧cs[j]?=some x:=by
   intro j x hx
   rw[VW]at hx
   split at hx
   ·exact⟨by assumption,hx⟩
   ·cases hx
  refine .ag (by simp [Nat.min_eq_left hn]) (fun j x hx=>?_) (fun j x hx=>?_)
  ·rw[e j (e2 j x hx).1];exact(hf j x (e2 j x hx).2).2.1
  ·rw[e j (e2 j x hx).1];exact(hf j x (e2 j x hx).2).2.2
 |false =>
  rw[tR]at hk
  obtain⟨hn,hk⟩:=hk
  cases cs with
  |nil=>exact hk.elim
  |cons v rest =>
   refine⟨v,_,vv ht ha f (fun _=>hn) (fun j hj=>?_),?_,hk⟩
   ·have:j=0:=by omega
    subst this
    exact(hf 0 v rfl).1
   ·rw[tR]
    exact(hf 0 v rfl).2.2
theorem Gk {P:Program}{t:TypeId}{σ:Gh}{s:List Obj}{w:World}{p:V}{u:Value}{K:V→Prop} (hI:Inv σ s w) (hp:aJ σ s w p u) (N3:∀id g i off b a,p≠.pp id g i off b a) (h:jH P t s p K) :
  ∃v c,(Instr.loadAt t u).run P w=.ok c w∧aJ σ s w v c∧K v:=by
 unfold jH at h
 cases ht:bS P t with
 |none=>rw[ht]at h;exact h.elim
 |some i =>
  rw[ht]at h
  simp only at h
  have fin:∀(a:Addr) (v:V) (c:Value),u=.pointer (some a)→(loadVar t a).run P w=.ok c w→aJ σ s w v c→K v→∃v c,(Instr.loadAt t u).run P w=.ok c w∧aJ σ s w v c∧K v:=by
   rintro a v c rfl h1 h2 h3
   exact⟨v,c,by simp [Instr.loadAt,Instr.sureAddr,h1],h2,h3⟩
  cases hp with
  |pp o ho hg hk=>exact absurd rfl (N3 _ _ _ _ _ _)
  |d hx =>
   cases hx with
   |el cs a f h1 h2 h3 =>
    obtain⟨v,c,k1,k2,k3⟩:=wY (σ:=σ) (s:=s) (w:=w) ht h1 h (fun j x hx=>by
     rw[VB]at hx
     obtain⟨y,hy,rfl⟩:=Option.map_eq_some_iff.1 hx
     exact⟨f j,(h2 j y hy).1,(h3 j y hy).one,.d (h3 j y hy)⟩)
    exact fin a v c rfl k1 k2 k3
   |_=>exact h.elim
  |bx h1 h2 h3 hu h4 =>
   obtain⟨v,c,k1,k2,k3⟩:=wY (σ:=σ) (s:=s) (w:=w) ht h1 h (fun j x hx=>by
    cases j with
    |zero=>simp at hx;subst hx;exact⟨_,h2,hu,h4⟩
    |succ j=>simp at hx)
   exact fin _ v c rfl k1 k2 k3
  |rf o ho hg hu hk =>
   simp only[ho]at h
   obtain⟨rM,h⟩:=h
   obtain⟨b,base,hs,hC,rfl⟩:=hk rM
   split at h
   ·exact h.elim
   ·rename_i id g k off _ cs mW
    rcases hI.content _ o ho with h1|⟨b',cj,arr,E,h1,h2,h3,h4,h5⟩
    ·exact(h1.yW hs hC).elim
    ·rw[hs]at h1;cases h1
     obtain⟨v,c,k1,k2,k3⟩:=wY (σ:=σ) (s:=s) (w:=w) (a:=⟨b,base+k*o.sz+off,none⟩) ht rfl h (fun j x hx=>by
      rw[Wf]at hx
      obtain⟨y,k1,k2,k3⟩:=h5 k (off+j) x (by rw[mW];exact hx)
      refine⟨y,?_,k2,k3⟩
      simp only[World.cell?,h2]
      simpa [Wk]using k1)
     exact fin _ v c rfl k1 k2 k3
  |_=>exact h.elim
theorem xX {P:Program}{t:TypeId}{σ:Gh}{s:List Obj}{w:World}{p:V}{u:Value}{K:V→Prop} (hI:Inv σ s w) (hp:aJ σ s w p u) (h:jH P t s p K) :
  ∃v c,(Instr.loadAt t u).run P w=.ok c w∧aJ σ s w v c∧K v:=by
 by_cases CI:∃id g i off b a,p=.pp id g i off b a
 ·obtain⟨id,g,i,off,b,a,rfl⟩:=CI
  exact Gk hI hp.M3 (by intros;simp) h
 ·exact Gk hI hp (fun id g i off b a he=>CI ⟨id,g,i,off,b,a,he⟩) h
def fU (cs:List V) (off:Nat) (ns:List V):List V:=cs.take off++ns++cs.drop (off+ns.length)
def gm (P:Program) (t:TypeId) (s:List Obj) (p x:V) (K:List Obj→Prop):Prop :=
 match bS P t with
 |none=>False
 |some i=>match p with
  |.rf id g k off=>match s[id]? with
   |none=>False
   |some o=>o.g=g∧o.live=true∧match o.aL[k]? with
    |none=>False
    |some cs=>match eA x with
     |none=>False
     |some ns=>ns.length=i.sz∧off+i.sz≤cs.length∧K (s.set id { o with aL:=o.aL.set k (fU cs off ns) })
  |.pp id g k off _ _=>match s[id]? with
   |none=>False
   |some o=>o.g=g∧o.live=true∧match o.aL[k]? with
    |none=>False
    |some cs=>match eA x with
     |none=>False
     |some ns=>ns.length=i.sz∧off+i.sz≤cs.length∧K (s.set id { o with aL:=o.aL.set k (fU cs off ns) })
  |_=>False
theorem mH (cs:List V) (off:Nat) (ns:List V) (h:off+ns.length≤cs.length) (j:Nat) :
  (fU cs off ns)[j]?=if off≤j∧j<off+ns.length then ns[j-off]? else cs[j]?:=by
 have hl:(cs.take off).length=off:=by simp;omega
 unfold fU
 by_cases h1:j<off
 ·rw[if_neg (by omega),VY,VH (by omega),VW,if_pos h1]
 ·by_cases h2:j<off+ns.length
  ·rw[if_pos (by omega),VY,VF (by omega),hl,VH (by omega)]
  ·rw[if_neg (by omega),VF (by simp;omega),Wf]
   congr 1
   simp
   omega
theorem oJ (cs:List V) (off:Nat) (ns:List V) (h:off+ns.length≤cs.length):(fU cs off ns).length=cs.length:=by
 simp [fU];omega
theorem qC (σ:Gh) (id:Nat):lO σ id (σ id)=σ:=by
 obtain⟨m,b⟩:=σ
 unfold lO
 congr 1
 funext k
 split
 ·rename_i h;rw[h]
 ·rfl
theorem Hw {σ:Gh}{s:List Obj}{w:World} (hI:Inv σ s w) {id:Nat}{o:Obj} (ho:s[id]?=some o) (hl:o.live=true) {k off:Nat}{cs ns:List V} (mW:o.aL[k]?=some cs)
  (hfit:off+ns.length≤cs.length) {b base:Nat} (hs:σ id=some (b,base)) (hC:D4 w b) {us:List Value} (QO:us.length=ns.length)
  (hrep:∀(j:Nat) (x:V),ns[j]?=some x→∃u,us[j]?=some u∧u.oneCell'=true∧aJ σ s w x u) (NB:∀u∈us,u.oneCell'=true) (P:Program) :
  ∃w',(storeCells ⟨b,base+k*o.sz+off,none⟩ us).run P w=.ok () w'∧bc σ s w σ (s.set id { o with aL:=o.aL.set k (fU cs off ns) }) w' ∧
   Inv σ (s.set id { o with aL:=o.aL.set k (fU cs off ns) }) w':=by
 rcases hI.content _ o ho with h1|⟨b',cj,arr,E,h1,h2,h3,h4,h5⟩
 ·exact(h1.yW hs hC).elim
 rw[hs]at h1;cases h1
 have hk:k<o.aL.length:=(List.getElem?_eq_some_iff.1 mW).1
 have cI:cs.length=o.sz:=h3 cs (Vy mW)
 have Si:k*o.sz+o.sz≤o.aL.length*o.sz:=by
  have:=V0 o.sz (show k+1≤o.aL.length from hk)
  rw[Wa,Nat.one_mul]at this
  exact this
 have cY:=run_storeCells_at P b (base+k*o.sz+off) E us 0 arr w h2 (by rw[QO];omega) NB
 simp only[Nat.add_zero]at cY
 generalize mJ:(arr.toList.take (base+k*o.sz+off)++us++arr.toList.drop (base+k*o.sz+off+us.length)).toArray=cH at cY
 have ia:cH.size=arr.size:=by rw[← mJ];simp;omega
 have mV:∀p,cH[p]?=if base+k*o.sz+off≤p∧p<base+k*o.sz+off+us.length then us[p-(base+k*o.sz+off)]? else arr[p]?:=by
  intro p
  have hl:(arr.toList.take (base+k*o.sz+off)).length=base+k*o.sz+off:=by simp;omega
  rw[← mJ,List.getElem?_toArray]
  by_cases g1:p<base+k*o.sz+off
  ·rw[if_neg (by omega),VY,VH (by omega),VW,if_pos g1,V4]
  ·by_cases g2:p<base+k*o.sz+off+us.length
   ·rw[if_pos (by omega),VY,VF (by omega),hl,VH (by omega)]
   ·rw[if_neg (by omega),VF (by simp;omega),Wf,V4]
    congr 1
    simp
    omega
 refine⟨_,cY,?_⟩
 have:=lp (p:=σ id) (w':=w.setRow b cH) (o':={ o with aL:=o.aL.set k (fU cs off ns) }) hI ho hl rfl rfl rfl (by simp)
  (fun b1 _ gf=>setRow_other w b b1 cH (fun e=>gf base (by rw[hs,e])))
  (fun b1 iI Nr E1 he hh=>by
   rw[hs]at he;cases he
   rw[h2]at hh;cases hh
   exact⟨cH,setRow_heap w b arr cH E (0,0) h2,ia⟩)
  (fun b1 iI he hm=>by
   rw[hs]at he;cases he
   exact(hC.notM hm).elim)
  (VA _) (fun _=>⟨rfl,rfl⟩) (fun b1 iI he=>.inl ⟨iI,he⟩)
  (fun hE=>.inr ⟨b,base,cH,E,hs,setRow_heap w b arr cH E (0,0) h2,(by
   intro e he
   simp only at he
   rcases List.mem_or_eq_of_mem_set he with h'|h'
   ·exact h3 e h'
   ·rw[h',oJ _ _ _ hfit];exact cI),(by simp only[List.length_set];omega),(by
   intro i j x hx
   simp only at hx ⊢
   rw[qC]at hE ⊢
   by_cases JE:i=k
   ·subst JE
    rw[V8 hk]at hx
    simp only[Wd]at hx
    rw[mH _ _ _ hfit]at hx
    split at hx
    ·rename_i yh
     obtain⟨u,k1,k2,k3⟩:=hrep _ x hx
     refine⟨u,?_,k2,k3.bM hE⟩
     rw[mV,if_pos (by omega),← k1]
     congr 1
     omega
    ·rename_i yh
     obtain⟨u,k1,k2,k3⟩:=h5 i j x (by rw[mW];exact hx)
     refine⟨u,?_,k2,k3.bM hE⟩
     rw[mV,if_neg (by omega)]
     exact k1
   ·rw[Wg (Ne.symm JE)]at hx
    obtain⟨u,k1,k2,k3⟩:=h5 i j x hx
    refine⟨u,?_,k2,k3.bM hE⟩
    rw[mV,if_neg ?_]
    ·exact k1
    ·have La:j<o.sz:=by
      cases he:o.aL[i]? with
      |none=>rw[he]at hx;cases hx
      |some e =>
       rw[he]at hx
       have:=(List.getElem?_eq_some_iff.1 hx).1
       rw[h3 e (Vy he)]at this
       exact this
     rcases Nat.lt_or_gt_of_ne JE with aT|aT
     ·have:=V0 o.sz (show i+1≤k from aT)
      rw[Wa,Nat.one_mul]at this
      omega
     ·have:=V0 o.sz (show k+1≤i from aT)
      rw[Wa,Nat.one_mul]at this
      omega)⟩)
 rw[qC]at this
 exact this
theorem Dt {P:Program}{t:TypeId}{σ:Gh}{s:List Obj}{w:World}{p x:V}{u c:Value}{K:List Obj→Prop} (hI:Inv σ s w) (hp:aJ σ s w p u) (hx:aJ σ s w x c) (N3:∀id g i off b a,p≠.pp id g i off b a) (h:gm P t s p x K) :
  ∃s' w',(Instr.storeAt t u c).run P w=.ok () w'∧bc σ s w σ s' w'∧Inv σ s' w'∧K s':=by
 unfold gm at h
 cases ht:bS P t with
 |none=>rw[ht]at h;exact h.elim
 |some i =>
  rw[ht]at h
  simp only at h
  cases hp with
  |rf o ho hg hu hk =>
   simp only[ho]at h
   obtain⟨rM,hl,h⟩:=h
   obtain⟨b,base,hs,hC,rfl⟩:=hk rM
   split at h
   ·exact h.elim
   ·rename_i id g k off _ cs mW
    split at h
    ·exact h.elim
    ·rename_i ns tJ
     obtain⟨h1,h2,h3⟩:=h
     obtain⟨D8,Hh⟩:=ko hx tJ
     obtain⟨ti,d,z,k1,k2,k3,k4,k5,k6,k7,k8,k9⟩:=fW ht
     have gH:∀w,(sizeOf t).run P w=.ok i.sz w:=fun w=>by simp [sizeOf,typeInfo,k1,k4]
     obtain⟨w',r1,r2,r3⟩:=Hw hI ho hl mW (ns:=ns) (off:=off) (by omega) hs hC (us:=c.cells.toList) (by simpa using D8)
      (fun j x hx=>by
       obtain⟨u,e1,e2,e3⟩:=Hh j x hx
       exact⟨u,by rw[V4];exact e1,e2,e3⟩)
      (fun u hu=>by
       obtain⟨j,hj,rfl⟩:=List.mem_iff_getElem.1 hu
       have SQ:j<ns.length:=by simpa [D8]using hj
       obtain⟨u,e1,e2,e3⟩:=Hh j ns[j] (by simp [SQ])
       have:c.cells.toList[j]=u:=by
        rw[← V4]at e1
        exact(List.getElem?_eq_some_iff.1 e1).2
       rw[this];exact e2) P
     refine⟨_,w',?_,r2,r3,h3⟩
     simp [Instr.storeAt,Instr.sureAddr,storeVar,gH,D8,h1,r1]
  |pp o ho hg hk=>exact absurd rfl (N3 _ _ _ _ _ _)
  |_=>exact h.elim
theorem BG {P:Program}{t:TypeId}{σ:Gh}{s:List Obj}{w:World}{p x:V}{u c:Value}{K:List Obj→Prop} (hI:Inv σ s w) (hp:aJ σ s w p u) (hx:aJ σ s w x c) (h:gm P t s p x K) :
  ∃s' w',(Instr.storeAt t u c).run P w=.ok () w'∧bc σ s w σ s' w'∧Inv σ s' w'∧K s':=by
 by_cases CI:∃id g i off b a,p=.pp id g i off b a
 ·obtain⟨id,g,i,off,b,a,rfl⟩:=CI
  exact Dt hI hp.M3 hx (by intros;simp) h
 ·exact Dt hI hp hx (fun id g i off b a he=>CI ⟨id,g,i,off,b,a,he⟩) h
def aX (P:Program) (t:TypeId) (f:Nat):Option Nat :=
 match P.underlying t with
 |some (.struct fields)=>match fields[f]? with
  |some fd=>match P.info? fd.type with
   |some i=>if i.size=0 then none else some fd.offset
   |none=>none
  |none=>none
 |_=>none
theorem Io {P:Program}{t f off} (h:aX P t f=some off):∃fields fd,P.underlying t=some (.struct fields)∧fields[f]?=some fd∧fd.offset=off ∧
  ∀(a:Addr) (w:World),(fieldPlace a fd).run P w=.ok (a.add off) w:=by
 unfold aX at h
 split at h
 ·rename_i fields hu
  split at h
  ·rename_i fd hf
   split at h
   ·rename_i i hi
    split at h
    ·cases h
    ·rename_i gf
     simp only[Option.some.injEq]at h
     exact⟨fields,fd,hu,hf,h,fun a w=>by simp [fieldPlace,sizeOf,typeInfo,hi,gf,h]⟩
   ·cases h
  ·cases h
 ·cases h
def pB (s:List Obj) (id g:Nat) (K:Obj→Prop):Prop :=
 match s[id]? with
 |none=>False
 |some o=>o.g=g∧K o
theorem dT {s:List Obj}{id g:Nat}{K:Obj→Prop} (h:pB s id g K):∃o,s[id]?=some o∧o.g=g∧K o:=by
 unfold pB at h
 split at h
 ·exact h.elim
 ·rename_i o ho;exact⟨o,ho,h.1,h.2⟩
def eG (P:Program) (t:TypeId) (s:List Obj) (p:V) (f:Nat) (K:V→Prop):Prop :=
 match aX P t f with
 |none=>False
 |some d=>match p with
  |.d (.el cs)=>K (.d (.el (cs.drop d)))
  |.rf id g k off=>pB s id g fun _=>K (.rf id g k (off+d))
  |.pp id g k off b a=>pB s id g fun _=>K (.pp id g k (off+d) b (a+d))
  |.d (.sc (.pointer (some ⟨b,a,none⟩)))=>K (.d (.sc (.pointer (some ⟨b,a+d,none⟩))))
  |_=>False
theorem Fq {σ:Gh}{s:List Obj}{w:World}{id g k off:Nat}{u:Value} (hp:aJ σ s w (.rf id g k off) u) {o:Obj} (ho:s[id]?=some o) (hg:o.g=g) :
  ∃b base,σ id=some (b,base)∧D4 w b∧u=.pointer (some ⟨b,base+k*o.sz+off,none⟩):=by
 cases hp with
 |rf o' jj xg hu hk =>
  rw[ho]at jj;cases jj
  exact hk hg
theorem du.drop {O:Nat→Prop}{w:World}{cs:List D}{a:Addr} (h:du O w (.el cs) (.pointer (some a))) (d:Nat):du O w (.el (cs.drop d)) (.pointer (some (a.add d))):=by
 cases h with
 |el _ _ f h1 h2 h3 =>
  rw[fC h1]
  refine .el _ _ (fun j=>f (d+j)) rfl (fun j x hx=>?_) (fun j x hx=>?_)
  ·rw[Wf]at hx
   have:=h2 (d+j) x hx
   simpa [Wk]using this
  ·rw[Wf]at hx
   exact h3 (d+j) x hx
theorem vR {P:Program}{t:TypeId}{σ:Gh}{s:List Obj}{w:World}{p:V}{u:Value}{f:Nat}{K:V→Prop} (hp:aJ σ s w p u) (h:eG P t s p f K) :
  ∃v c,(Instr.fieldAt t u f).run P w=.ok c w∧aJ σ s w v c∧K v:=by
 unfold eG at h
 split at h
 ·exact h.elim
 ·rename_i d hd
  obtain⟨fields,fd,h1,h2,h3,h4⟩:=Io hd
  have cY:∀a:Addr,(Instr.fieldAt t (.pointer (some a)) f).run P w=.ok (.pointer (some (a.add d))) w:=fun a=>by
   simp [Instr.fieldAt,run_underlying h1,h2,Instr.sureAddr,h4]
  cases hp with
  |d hx =>
   cases hx with
   |el cs a f' k1 k2 k3=>exact⟨_,_,cY a,.d (du.drop (.el cs a f' k1 k2 k3) d),h⟩
   |sc v hv =>
    split at h
    case h_4 =>
     rename_i b a he
     simp only[V.d.injEq,D.sc.injEq]at he
     subst he
     refine⟨_,_,cY _,?_,h⟩
     rw[fC rfl]
     exact .d (.sc _ rfl)
    all_goals first|exact h.elim|(rename_i he;cases he)
   |_=>exact h.elim
  |rf o ho hg hu hk =>
   obtain⟨o',e1,e2,e3⟩:=dT h
   rw[ho]at e1;cases e1
   obtain⟨b,base,k1,kC,rfl⟩:=hk e2
   refine⟨_,_,cY _,.rf o ho hg rfl (fun _=>⟨b,base,k1,kC,?_⟩),e3⟩
   rw[fC rfl]
   simp [Wk]
  |pp o ho hg hk =>
   obtain⟨o',e1,e2,e3⟩:=dT h
   rw[ho]at e1;cases e1
   refine⟨_,_,cY _,?_,e3⟩
   rw[fC rfl]
   exact .pp o ho hg fun he=>let ⟨base,h1,h2,h3⟩:=hk he;⟨base,h1,h2,by rw[h3];simp [Wk]⟩
  |_=>exact h.elim
def A5 (P:Program) (t:TypeId):Option Nat :=
 match P.underlying t with
 |some (.slice e)=>(P.info? e).map (·.size)
 |_=>none
def LM (P:Program) (t:TypeId):Option (Nat×Nat) :=
 match P.underlying t with
 |some (.array n e)=>(P.info? e).map fun i=>(n,i.size)
 |_=>none
theorem C8 {P:Program}{t z} (h:A5 P t=some z):∃e i,P.underlying t=some (.slice e)∧P.info? e=some i∧i.size=z:=by
 unfold A5 at h
 split at h
 ·rename_i e hu
  obtain⟨i,h1,h2⟩:=Option.map_eq_some_iff.1 h
  exact⟨e,i,hu,h1,h2⟩
 ·cases h
theorem xR {P:Program}{t n z} (h:LM P t=some (n,z)):∃e i,P.underlying t=some (.array n e)∧P.info? e=some i∧i.size=z:=by
 unfold LM at h
 split at h
 ·rename_i m e hu
  obtain⟨i,h1,h2⟩:=Option.map_eq_some_iff.1 h
  simp only[Prod.mk.injEq]at h2
  obtain⟨rfl,h2⟩:=h2
  exact⟨e,i,hu,h1,h2⟩
 ·cases h
def MU (aL:List (List D)) (i z:Nat) (K:V→Prop):Prop :=
 match aL[i]? with
 |none=>False
 |some cs=>cs.length=z∧K (.d (.el cs))
def dP (P:Program) (t:TypeId) (s:List Obj) (x i:V) (K:V→Prop):Prop :=
 match i with
 |.d (.sc (.int _ n))=>match A5 P t with
  |some z=>match x with
   |.d (.sl aL)=>0≤n∧n<aL.length∧MU aL n.toNat z K
   |.fu aL=>0≤n∧n<aL.length∧MU aL n.toNat z K
   |.so id g lo m=>pB s id g fun o=>0≤n∧n<m∧o.sz=z∧K (.rf id g (lo+n.toNat) 0)
   |_=>False
  |none=>match LM P t with
   |some (len,z)=>match x with
    |.d (.el cs)=>0≤n∧n<len∧K (.d (.el (cs.drop (n.toNat*z))))
    |.rf id g k off=>pB s id g fun _=>0≤n∧n<len∧K (.rf id g k (off+n.toNat*z))
    |_=>False
   |none=>False
 |_=>False
theorem du.elem {O:Nat→Prop}{w:World}{aL:List (List D)}{a:Option Addr}{n cap:Nat} (h:du O w (.sl aL) (.slice a n cap)) {i:Nat}{cs:List D} (mW:aL[i]?=some cs) {z:Nat} (hz:cs.length=z) :
  ∃ad,a=some ad∧n=aL.length∧du O w (.el cs) (.pointer (some (ad.add (i*z)))):=by
 have aT:=(List.getElem?_eq_some_iff.1 mW).1
 cases h with
 |nil=>simp at aT
 |sl _ ad _ sz f h1 h2 h3 h4 h5 =>
  have gf:aL≠[]:=by intro e;rw[e]at aT;simp at aT
  have gH:sz=z:=by rw[← hz];exact(h3 cs (Vy mW)).symm
  subst gH
  refine⟨ad,rfl,rfl,?_⟩
  rw[fC (h2 gf)]
  exact .el _ _ (f i) rfl (fun j x hx=>h4 i j x (by rw[mW];exact hx)) (fun j x hx=>h5 i j x (by rw[mW];exact hx))
theorem vz {P:Program}{t:TypeId}{σ:Gh}{s:List Obj}{w:World}{x i:V}{u ui:Value}{K:V→Prop} (hx:aJ σ s w x u) (hi:aJ σ s w i ui) (h:dP P t s x i K) :
  ∃v c,(Instr.indexAt t u ui).run P w=.ok c w∧aJ σ s w v c∧K v:=by
 unfold dP at h
 split at h
 case h_2=>exact h.elim
 rename_i k n
 cases hi with|d hi=>?_
 cases hi with|sc _ _=>?_
 split at h
 ·rename_i z hz
  obtain⟨e,ti,h1,h2,h3⟩:=C8 hz
  have cY:∀(ad:Addr) (len cap:Nat),0≤n→n<len→(Instr.indexAt t (.slice (some ad) len cap) (.int k n)).run P w=.ok (.pointer (some (ad.add (n.toNat*z)))) w:=by
   intro ad len cap g1 g2
   simp [Instr.indexAt,asIntOf,run_underlying h1,g1,g2,sizeOf,typeInfo,h2,h3]
  have zn:∀(aL:List (List D)) (a:Option Addr) (m cap:Nat),du (Own σ s) w (.sl aL) (.slice a m cap)→0≤n∧n<aL.length∧MU aL n.toNat z K →
    ∃v c,(Instr.indexAt t (.slice a m cap) (.int k n)).run P w=.ok c w∧aJ σ s w v c∧K v:=by
   intro aL a m cap hr ⟨g1,g2,g3⟩
   unfold MU at g3
   split at g3
   ·exact g3.elim
   ·rename_i cs mW
    obtain⟨ad,rfl,rfl,A2⟩:=hr.elem mW g3.1
    exact⟨_,_,cY ad _ cap g1 g2,.d A2,g3.2⟩
  cases hx with
  |d hx =>
   cases hx with
   |nil=>exact zn _ _ _ _ .nil h
   |sl aL a cap sz f k1 k2 k3 k4 k5=>exact zn _ _ _ _ (.sl aL a cap sz f k1 k2 k3 k4 k5) h
   |_=>exact h.elim
  |fu hx=>exact zn _ _ _ _ hx h
  |so o ho hg hu hk =>
   obtain⟨o',e1,e2,e3,e4,e5,e6⟩:=dT h
   rw[ho]at e1;cases e1
   rcases hk e2 with ⟨_,⟨a,rfl⟩,_,rfl⟩|⟨b,base,cap,E,arr,g1,g2,rfl,g4,g5⟩
   ·omega
   ·refine⟨_,_,cY _ _ _ e3 e4,.rf o ho hg rfl (fun _=>⟨b,base,g1,⟨arr,E,g2⟩,?_⟩),e6⟩
    rw[fC rfl,e5,Wa]
    simp [Wk]
  |_=>exact h.elim
 ·split at h
  ·rename_i th len z hz
   obtain⟨e,ti,h1,h2,h3⟩:=xR hz
   have cY:∀(ad:Addr),0≤n→n<len→(Instr.indexAt t (.pointer (some ad)) (.int k n)).run P w=.ok (.pointer (some (ad.add (n.toNat*z)))) w:=by
    intro ad g1 g2
    simp [Instr.indexAt,asIntOf,run_underlying h1,Instr.sureAddr,g1,g2,sizeOf,typeInfo,h2,h3]
   cases hx with
   |d hx =>
    cases hx with
    |el cs a f k1 k2 k3=>exact⟨_,_,cY a h.1 h.2.1,.d (du.drop (.el cs a f k1 k2 k3) _),h.2.2⟩
    |_=>exact h.elim
   |rf o ho hg hu hk =>
    obtain⟨o',e1,e2,e3,e4,e5⟩:=dT h
    rw[ho]at e1;cases e1
    obtain⟨b,base,k1,kC,rfl⟩:=hk e2
    refine⟨_,_,cY _ e3 e4,.rf o ho hg rfl (fun _=>⟨b,base,k1,kC,?_⟩),e5⟩
    rw[fC rfl]
    simp [Wk]
   |_=>exact h.elim
  ·exact h.elim
def oZ (P:Program) (t:TypeId) (cs:List V) (off:Nat) (K:V→Prop):Prop :=
 match bS P t with
 |none=>False
 |some i=>match i.agg with
  |true=>off+i.sz≤cs.length∧K (.ag ((cs.drop off).take i.sz))
  |false=>match cs[off]? with
   |none=>False
   |some v=>K v
theorem w4 {P:Program}{t:TypeId}{σ:Gh}{s:List Obj}{w:World}{cs:List V}{arr:Array Value}{off:Nat}{K:V→Prop} (hx:aJ σ s w (.ag cs) (.agg arr)) (h:oZ P t cs off K) :
  ∃v c,(part t arr off).run P w=.ok c w∧aJ σ s w v c∧K v:=by
 unfold oZ at h
 cases hx with|ag h1 h2 h3=>?_
 split at h
 ·exact h.elim
 ·rename_i i hi
  obtain⟨ti,d,z,k1,k2,k3,k4,k5,k6,k7,k8,k9⟩:=fW hi
  have gH:∀w,(sizeOf t).run P w=.ok i.sz w:=fun w=>by simp [sizeOf,typeInfo,k1,k4]
  split at h
  ·rename_i tR
   rw[tR]at k9
   refine⟨_,.agg (arr.extract off (off+i.sz)),by simp [part,k9,gH],?_,h.2⟩
   have e:∀(j:Nat) (x:V),((cs.drop off).take i.sz)[j]?=some x→cs[off+j]?=some x∧(arr.extract off (off+i.sz)).getD j undef=arr.getD (off+j) undef:=by
    intro j x hx
    rw[VW]at hx
    split at hx
    ·rename_i hj
     rw[Wf]at hx
     refine⟨hx,?_⟩
     have e2:(arr.extract off (off+i.sz))[j]?=arr[off+j]?:=by
      rw[Array.getElem?_extract,if_pos (by rw[h1];omega)]
     rw[VI,VI,e2]
    ·cases hx
   refine .ag (by simp [h1];omega) (fun j x hx=>?_) (fun j x hx=>?_)
   ·rw[(e j x hx).2];exact h2 _ _ (e j x hx).1
   ·rw[(e j x hx).2];exact h3 _ _ (e j x hx).1
  ·rename_i tR
   rw[tR]at k9
   split at h
   ·exact h.elim
   ·rename_i v hv
    have aT:=(List.getElem?_eq_some_iff.1 hv).1
    obtain⟨c,hc⟩:∃c,arr[off]?=some c:=⟨arr[off]'(by omega),by rw[Array.getElem?_eq_getElem]⟩
    have hd:arr.getD off undef=c:=by rw[VI,hc];rfl
    exact⟨v,c,by simp [part,k9,hc],by rw[← hd];exact h3 _ _ hv,h⟩
def ke (P:Program) (t:TypeId) (x:V) (f:Nat) (K:V→Prop):Prop :=
 match x with
 |.ag cs=>match P.underlying t with
  |some (.struct fields)=>match fields[f]? with
   |some fd=>oZ P fd.type cs fd.offset K
   |none=>False
  |_=>False
 |_=>False
theorem Ch {P:Program}{t:TypeId}{σ:Gh}{s:List Obj}{w:World}{x:V}{u:Value}{f:Nat}{K:V→Prop} (hx:aJ σ s w x u) (h:ke P t x f K) :
  ∃v c,(Instr.field t u f).run P w=.ok c w∧aJ σ s w v c∧K v:=by
 unfold ke at h
 split at h
 case h_2=>exact h.elim
 split at h
 case h_2=>exact h.elim
 split at h
 case h_2=>exact h.elim
 rename_i hu _ fd UM
 cases hx with|ag h1 h2 h3=>?_
 obtain⟨v,c,r1,r2,r3⟩:=w4 (.ag h1 h2 h3) h
 exact⟨v,c,by simp [Instr.field,run_underlying hu,UM,asAgg,r1],r2,r3⟩
def iO (P:Program) (t:TypeId) (x i:V) (K:V→Prop):Prop :=
 match i with
 |.d (.sc (.int _ n))=>match x with
  |.ag cs=>match P.underlying t with
   |some (.array len e)=>match (P.info? e).map (·.size) with
    |some z=>0≤n∧n<len∧oZ P e cs (n.toNat*z) K
    |none=>False
   |_=>False
  |_=>False
 |_=>False
theorem BR {P:Program}{t:TypeId}{σ:Gh}{s:List Obj}{w:World}{x i:V}{u ui:Value}{K:V→Prop} (hx:aJ σ s w x u) (hi:aJ σ s w i ui) (h:iO P t x i K) :
  ∃v c,(Instr.index t u ui).run P w=.ok c w∧aJ σ s w v c∧K v:=by
 unfold iO at h
 split at h
 case h_2=>exact h.elim
 rename_i k n
 cases hi with|d hi=>?_
 cases hi with|sc _ _=>?_
 split at h
 case h_2=>exact h.elim
 split at h
 case h_2=>exact h.elim
 rename_i hu
 split at h
 case h_2=>exact h.elim
 rename_i z hz
 obtain⟨ti,h1,h2⟩:=Option.map_eq_some_iff.1 hz
 cases hx with|ag k1 k2 k3=>?_
 obtain⟨v,c,r1,r2,r3⟩:=w4 (.ag k1 k2 k3) h.2.2
 refine⟨v,c,?_,r2,r3⟩
 simp [Instr.index,asIntOf,run_underlying hu,h.1,h.2.1,sizeOf,typeInfo,h1,h2,r1]
def sk (σ:Gh) (s:List Obj) (w:World) (cs:List V) (arr:Array Value):Prop :=
 arr.size=cs.length∧∀(i:Nat) (x:V),cs[i]?=some x→∃c,arr[i]?=some c∧c.oneCell'=true∧aJ σ s w x c
theorem sk.ag {σ s w cs arr} (h:sk σ s w cs arr):aJ σ s w (.ag cs) (.agg arr):=by
 have e:∀(i:Nat) (x:V),cs[i]?=some x→(arr.getD i undef).oneCell'=true∧aJ σ s w x (arr.getD i undef):=by
  intro i x hx
  obtain⟨c,h1,h2,h3⟩:=h.2 i x hx
  rw[VI,h1]
  exact⟨h2,h3⟩
 exact .ag h.1 (fun i x hx=>(e i x hx).1) (fun i x hx=>(e i x hx).2)
theorem tV {P:Program}{t:TypeId}{i:IP} (ht:bS P t=some i) (σ:Gh) (s:List Obj) (w:World):∃z,(∀w,(zeroValue t).run P w=.ok z w)∧sk σ s w (i.zero.map cv) z.cells∧z.cells.size=i.sz∧z.cells.toList=i.zero:=by
 obtain⟨ti,d,z,k1,k2,k3,k4,k5,k6,k7,k8,k9⟩:=fW ht
 refine⟨z,fun w=>by simp [zeroValue,typeInfo,k1,k3],⟨by rw[← Ww,k6];simp,fun j x hx=>?_⟩,by rw[← Ww,k6,k7],k6⟩
 rw[VB]at hx
 obtain⟨v,hv,rfl⟩:=Option.map_eq_some_iff.1 hx
 exact⟨v,by rw[← V4,k6];exact hv,k8 v (Vy hv),AQ v⟩
theorem tO (off:Nat):∀(l:List Value) (k:Nat) (cells:Array Value),off+k+l.length≤cells.size →
  ((l.zipIdx k).foldl (fun cs (x:Value×Nat)=>cs.setIfInBounds (off+x.2) x.1) cells).size=cells.size ∧
  ∀p,((l.zipIdx k).foldl (fun cs (x:Value×Nat)=>cs.setIfInBounds (off+x.2) x.1) cells)[p]?=if off+k≤p∧p<off+k+l.length then l[p-(off+k)]? else cells[p]?
 |[],k,cells,_=>by simp;intro p h1 h2;omega
 |v::l,k,cells,h=>by
  simp only[VC]at h
  simp only[List.zipIdx_cons,List.foldl_cons]
  obtain⟨h1,h2⟩:=tO off l (k+1) (cells.setIfInBounds (off+k) v) (by simp;omega)
  refine⟨by rw[h1];simp,fun p=>?_⟩
  rw[h2 p]
  by_cases hp:p=off+k
  ·subst hp
   rw[if_neg (by omega),if_pos (by simp),Array.getElem?_setIfInBounds_self_of_lt (by omega)]
   simp
  ·rw[Array.getElem?_setIfInBounds_ne (by omega)]
   by_cases hq:off+(k+1)≤p∧p<off+(k+1)+l.length
   ·rw[if_pos hq,if_pos (by simp only[VC];omega)]
    rw[show p-(off+k)=(p-(off+(k+1)))+1 by omega]
    simp
   ·rw[if_neg hq,if_neg (by simp only[VC];omega)]
def rA (place:Nat→Option (Nat×Nat)) (cs:List V):List (Nat×V)→Option (List V)
 |[]=>some cs
 |(i,v)::rest=>match place i with
  |none=>none
  |some (off,size)=>match eA v with
   |none=>none
   |some ns=>if ns.length=size∧off+ns.length≤cs.length then rA place (fU cs off ns) rest else none
theorem rJ {σ:Gh}{s:List Obj}{w:World}{place:Nat→Option (Nat×Nat)}:∀(parts:List (Nat×V)) (ps:List (Nat×Value)) (cs:List V) (arr:Array Value) (OS:List V),sk σ s w cs arr →
  ps.length=parts.length→(∀(j:Nat) i x,parts[j]?=some (i,x)→∃u,ps[j]?=some (i,u)∧aJ σ s w x u)→rA place cs parts=some OS →
  ∃cH,Instr.fill place arr ps=some cH∧sk σ s w OS cH
 |[],[],cs,arr,OS,hr,_,_,h=>by
  simp only[rA,Option.some.injEq]at h
  subst h
  exact⟨arr,rfl,hr⟩
 |[],p::ps,_,_,_,_,hl,_,_=>by simp at hl
 |_::_,[],_,_,_,_,hl,_,_=>by simp at hl
 |(i,v)::parts,(i',u)::ps,cs,arr,OS,hr,hl,hp,h=>by
  obtain⟨u',hu,KT⟩:=hp 0 i v rfl
  simp only[VQ,Option.some.injEq,Prod.mk.injEq]at hu
  obtain⟨rfl,rfl⟩:=hu
  simp only[rA]at h
  split at h
  ·cases h
  ·rename_i off size Ir
   split at h
   ·cases h
   ·rename_i ns tJ
    split at h
    ·rename_i hc
     obtain⟨h1,h2⟩:=ko KT tJ
     have hrep:=tO off u.cells.toList 0 arr (by simp;rw[hr.1,h1];exact hc.2)
     have e:u.cells.zipIdx.foldl (fun cs (x:Value×Nat)=>cs.setIfInBounds (off+x.2) x.1) arr=(u.cells.toList.zipIdx 0).foldl (fun cs (x:Value×Nat)=>cs.setIfInBounds (off+x.2) x.1) arr:=by
      rw[← Array.foldl_toList];simp
     have Lf:sk σ s w (fU cs off ns) ((u.cells.toList.zipIdx 0).foldl (fun cs (x:Value×Nat)=>cs.setIfInBounds (off+x.2) x.1) arr):=by
      refine⟨by rw[hrep.1,hr.1,oJ _ _ _ hc.2],fun j x hx=>?_⟩
      rw[mH _ _ _ hc.2]at hx
      rw[hrep.2]
      split at hx
      ·rename_i hj
       rw[if_pos (by simp;omega)]
       obtain⟨c,k1,k2,k3⟩:=h2 _ x hx
       exact⟨c,by rw[V4];simpa using k1,k2,k3⟩
      ·rename_i hj
       rw[if_neg (by simp;omega)]
       exact hr.2 j x hx
     obtain⟨cH,k1,k2⟩:=rJ parts ps _ _ OS Lf (by simpa using hl) (fun j i x hx=>hp (j+1) i x (by simpa using hx)) h
     refine⟨cH,?_,k2⟩
     simp only[Instr.fill,Ir]
     rw[if_neg (by simp [h1,hc.1,hr.1];omega)]
     rw[← e]at k1
     exact k1
    ·cases h
def bp (P:Program) (t:TypeId):Option (List (Nat×Nat)) :=
 match P.underlying t with
 |some (.struct fields)=>fields.toList.mapM fun f=>(P.info? f.type).map fun i=>(f.offset,i.size)
 |_=>none
def mL (P:Program) (t:TypeId) (parts:List (Nat×V)) (K:V→Prop):Prop :=
 match bS P t with
 |none=>False
 |some i=>match bp P t with
  |some pl=>match rA (pl[·]?) (i.zero.map cv) parts with
   |some cs=>K (.ag cs)
   |none=>False
  |none=>match LM P t with
   |some (_,z)=>match rA (fun j=>some (j*z,z)) (i.zero.map cv) parts with
    |some cs=>K (.ag cs)
    |none=>False
   |none=>False
theorem ru {P:Program}{α β:Type} (f:α→Sem β) (g:α→Option β) (Tn:∀a b,g a=some b→∀w,(f a).run P w=.ok b w) (w:World):∀(l:List α) (r:List β),l.mapM g=some r→(l.mapM f).run P w=.ok r w
 |[],r,h=>by
  simp at h;subst h
  simp [List.mapM_nil]
 |a::l,r,h=>by
  rw[Wz]at h
  cases ha:g a with
  |none=>simp [ha]at h
  |some b =>
   cases hl:l.mapM g with
   |none=>simp [ha,hl]at h
   |some r' =>
    simp [ha,hl]at h
    subst h
    rw[Wz]
    simp [Tn a b ha w,ru f g Tn w l r' hl]
theorem Cj {P:Program}{t:TypeId}{σ:Gh}{s:List Obj}{w:World}{parts:List (Nat×V)}{ps:List (Nat×Value)}{K:V→Prop}
  (hl:ps.length=parts.length) (hp:∀(j:Nat) i x,parts[j]?=some (i,x)→∃u,ps[j]?=some (i,u)∧aJ σ s w x u) (h:mL P t parts K) :
  ∃v c,(Instr.build t ps.toArray).run P w=.ok c w∧aJ σ s w v c∧K v:=by
 unfold mL at h
 split at h
 ·exact h.elim
 ·rename_i i hi
  obtain⟨z,hz,S8,_,_⟩:=tV hi σ s w
  split at h
  ·rename_i pl Ir
   unfold bp at Ir
   split at Ir
   ·rename_i fields hu
    split at h
    ·rename_i cs mW
     obtain⟨cH,k1,k2⟩:=rJ parts ps _ _ cs S8 hl hp mW
     refine⟨_,_,?_,k2.ag,h⟩
     have hm:(fields.mapM (fun f=>do pure (f.offset,← sizeOf f.type):Field→Sem (Nat×Nat))).run P w=.ok pl.toArray w:=by
      have:=ru (P:=P) (fun f=>do pure (f.offset,← sizeOf f.type):Field→Sem (Nat×Nat)) (fun f=>(P.info? f.type).map fun i=>(f.offset,i.size))
       (fun f b hb w=>by
        obtain⟨ti,e1,rfl⟩:=Option.map_eq_some_iff.1 hb
        simp [sizeOf,typeInfo,e1]) w fields.toList pl Ir
      rw[← Array.toArray_toList (xs:=fields)]
      rw[List.mapM_toArray,Sem.run_map,this]
      rfl
     have Sd:(fun x:Nat=>pl.toArray[x]?)=(fun x:Nat=>pl[x]?):=by funext x;simp
     simp only[Instr.build,Sem.run_bind,hz,Result.andThen_ok,run_underlying hu,hm,Sd,k1,Sem.run_pure]
    ·exact h.elim
   ·cases Ir
  ·split at h
   ·rename_i len zz SK
    obtain⟨e,ti,h1,h2,h3⟩:=xR SK
    split at h
    ·rename_i cs mW
     obtain⟨cH,k1,k2⟩:=rJ parts ps _ _ cs S8 hl hp mW
     refine⟨_,_,?_,k2.ag,h⟩
     have gH:(sizeOf e).run P w=.ok zz w:=by simp [sizeOf,typeInfo,h2,h3]
     simp only[Instr.build,Sem.run_bind,hz,Result.andThen_ok,run_underlying h1,gH,k1,Sem.run_pure]
    ·exact h.elim
   ·exact h.elim
theorem ou {σ:Gh}{s:List Obj}{w:World} (hI:Inv σ s w) {sz:Nat}{aL:List (List V)}{arr:Array Value} (E:TypeId) (hl:∀e∈aL,e.length=sz) (hs:aL.length*sz≤arr.size)
  (hc:∀(i j:Nat) (x:V),(aL[i]?.bind (·[j]?))=some x→∃u,arr[i*sz+j]?=some u∧u.oneCell'=true∧aJ σ s w x u) :
  bc σ s w (lO σ s.length (some (w.heap.size,0))) (s++[⟨0,true,sz,aL⟩]) (w.alloc (.cells arr E)) ∧
  Inv (lO σ s.length (some (w.heap.size,0))) (s++[⟨0,true,sz,aL⟩]) (w.alloc (.cells arr E)):=by
 refine lR (p:=some (w.heap.size,0)) hI rfl rfl rfl (by simp) (fun b hb=>Go.RowKit.Below.heap_alloc w _ b hb) (fun b base h=>by cases h;exact VA _)
  (fun hE=>.inr ⟨w.heap.size,0,arr,E,rfl,heap_alloc_new w _,hl,by simpa using hs,fun i j x hx=>?_⟩)
 obtain⟨u,h1,h2,h3⟩:=hc i j x hx
 exact⟨u,by simpa using h1,h2,h3.bM hE⟩
theorem II {σ:Gh}{s:List Obj}{w:World}{o:Obj}{b base:Nat} (hC:D4 w b):aJ (lO σ s.length (some (b,base))) (s++[o]) w (.rf s.length o.g 0 0) (.pointer (some ⟨b,base,none⟩)) :=
 .rf o (by simp) (VA _) rfl (fun _=>⟨b,base,b9 _ _ _,hC,by simp⟩)
def mK (P:Program) (t:TypeId) (s:List Obj) (K:V→List Obj→Prop):Prop :=
 match bS P t with
 |none=>False
 |some i=>K (.rf s.length 0 0 0) (s++[⟨0,true,i.sz,[i.zero.map cv]⟩])
theorem qY {cs:List V}{arr:Array Value}{σ:Gh}{s:List Obj}{w:World} (h:sk σ s w cs arr) (sz:Nat) :
  ∀(i j:Nat) (x:V),(([cs]:List (List V))[i]?.bind (·[j]?))=some x→∃u,arr[i*sz+j]?=some u∧u.oneCell'=true∧aJ σ s w x u:=by
 intro i j x hx
 cases i with
 |zero=>simp at hx;simpa using h.2 j x hx
 |succ n=>simp at hx
theorem Dj {P:Program}{t:TypeId}{σ:Gh}{s:List Obj}{w:World}{K:V→List Obj→Prop} (hI:Inv σ s w) (h:mK P t s K) :
  ∃v c σ' s' w',(Instr.alloc t true (.tuple #[])).run P w=.ok c w'∧bc σ s w σ' s' w'∧Inv σ' s' w'∧aJ σ' s' w' v c∧K v s':=by
 unfold mK at h
 split at h
 ·exact h.elim
 ·rename_i i hi
  obtain⟨z,hz,hr,hs,hl⟩:=tV hi σ s w
  have:=ou (aL:=[i.zero.map cv]) (sz:=i.sz) (arr:=z.cells) hI t (by simp;rw[← hl];simpa using hs) (by simp [hs]) (qY hr i.sz)
  refine⟨_,.pointer (some ⟨w.heap.size,0,none⟩),_,_,w.alloc (.cells z.cells t),?_,this.1,this.2,II (o:=⟨0,true,i.sz,[i.zero.map cv]⟩) ⟨_,_,heap_alloc_new w _⟩,h⟩
  simp [Instr.alloc,hz,newVar,newRow]
def vp (s:List Obj) (x:V) (K:V→List Obj→Prop):Prop :=
 match eA x with
 |none=>False
 |some cs=>K (.rf s.length 0 0 0) (s++[⟨0,true,cs.length,[cs]⟩])
theorem HA {P:Program}{t:TypeId}{σ:Gh}{s:List Obj}{w:World}{x:V}{u:Value}{K:V→List Obj→Prop} (hI:Inv σ s w) (hx:aJ σ s w x u) (h:vp s x K) :
  ∃v c σ' s' w',(Instr.box t u).run P w=.ok c w'∧bc σ s w σ' s' w'∧Inv σ' s' w'∧aJ σ' s' w' v c∧K v s':=by
 unfold vp at h
 split at h
 ·exact h.elim
 ·rename_i cs mW
  have hr:sk σ s w cs u.cells:=ko hx mW
  have:=ou (aL:=[cs]) (sz:=cs.length) (arr:=u.cells) hI t (by simp) (by simp [hr.1]) (qY hr _)
  refine⟨_,.pointer (some ⟨w.heap.size,0,none⟩),_,_,w.alloc (.cells u.cells t),?_,this.1,this.2,II (o:=⟨0,true,cs.length,[cs]⟩) ⟨_,_,heap_alloc_new w _⟩,h⟩
  simp [Instr.box,newVar,newRow]
def F0 (σ:Gh) (s:List Obj) (w:World) (sz:Nat) (aL:List (List V)) (arr:Array Value):Prop :=
 (∀e∈aL,e.length=sz)∧arr.size=aL.length*sz ∧
 ∀(i j:Nat) (x:V),(aL[i]?.bind (·[j]?))=some x→∃c,arr[i*sz+j]?=some c∧c.oneCell'=true∧aJ σ s w x c
def pz (sz:Nat) (aL:List (List V)):List (Nat×V)→Option (List (List V))
 |[]=>some aL
 |(i,v)::rest=>match eA v with
  |none=>none
  |some ns=>if i<aL.length∧ns.length=sz then pz sz (aL.set i ns) rest else none
theorem vu {σ:Gh}{s:List Obj}{w:World}{sz:Nat}:∀(parts:List (Nat×V)) (ps:List (Nat×Value)) (aL:List (List V)) (arr:Array Value) (els':List (List V)),F0 σ s w sz aL arr →
  ps.length=parts.length→(∀(j:Nat) i x,parts[j]?=some (i,x)→∃u,ps[j]?=some (i,u)∧aJ σ s w x u)→pz sz aL parts=some els' →
  ∃cH,Instr.fill (fun i=>some (i*sz,sz)) arr ps=some cH∧F0 σ s w sz els' cH∧els'.length=aL.length
 |[],[],aL,arr,els',hr,_,_,h=>by
  simp only[pz,Option.some.injEq]at h
  subst h
  exact⟨arr,rfl,hr,rfl⟩
 |[],p::ps,_,_,_,_,hl,_,_=>by simp at hl
 |_::_,[],_,_,_,_,hl,_,_=>by simp at hl
 |(i,v)::parts,(i',u)::ps,aL,arr,els',hr,hl,hp,h=>by
  obtain⟨u',hu,KT⟩:=hp 0 i v rfl
  simp only[VQ,Option.some.injEq,Prod.mk.injEq]at hu
  obtain⟨rfl,rfl⟩:=hu
  simp only[pz]at h
  split at h
  ·cases h
  ·rename_i ns tJ
   split at h
   ·rename_i hc
    obtain⟨D8,Hh⟩:=hc
    obtain⟨h1,h2⟩:=ko KT tJ
    obtain⟨r1,r2,r3⟩:=hr
    have hb:=V0 sz (show i'+1≤aL.length from D8)
    rw[Wa,Nat.one_mul]at hb
    have hrep:=tO (i'*sz) u.cells.toList 0 arr (by simp;rw[h1];omega)
    have e:u.cells.zipIdx.foldl (fun cs (x:Value×Nat)=>cs.setIfInBounds (i'*sz+x.2) x.1) arr=(u.cells.toList.zipIdx 0).foldl (fun cs (x:Value×Nat)=>cs.setIfInBounds (i'*sz+x.2) x.1) arr:=by
     rw[← Array.foldl_toList];simp
    have Lf:F0 σ s w sz (aL.set i' ns) ((u.cells.toList.zipIdx 0).foldl (fun cs (x:Value×Nat)=>cs.setIfInBounds (i'*sz+x.2) x.1) arr):=by
     refine⟨fun e he=>?_,by rw[hrep.1,r2,List.length_set],fun k j x hx=>?_⟩
     ·rcases List.mem_or_eq_of_mem_set he with h'|h'
      ·exact r1 e h'
      ·rw[h'];exact Hh
     ·rw[hrep.2]
      have ia:u.cells.toList.length=sz:=by simp [h1,Hh]
      by_cases hk:k=i'
      ·subst hk
       rw[V8 D8]at hx
       simp only[Wd]at hx
       have hj:=(List.getElem?_eq_some_iff.1 hx).1
       rw[if_pos (by rw[ia];omega)]
       obtain⟨c,k1,k2,k3⟩:=h2 _ x hx
       refine⟨c,?_,k2,k3⟩
       rw[V4,← k1]
       congr 1
       omega
      ·rw[Wg (Ne.symm hk)]at hx
       have hj:j<sz:=by
        cases he:aL[k]? with
        |none=>rw[he]at hx;cases hx
        |some e =>
         rw[he]at hx
         have:=(List.getElem?_eq_some_iff.1 hx).1
         rw[r1 e (Vy he)]at this
         exact this
       rw[if_neg ?_]
       ·exact r3 k j x hx
       ·rw[ia]
        rcases Nat.lt_or_gt_of_ne hk with aT|aT
        ·have:=V0 sz (show k+1≤i' from aT)
         rw[Wa,Nat.one_mul]at this
         omega
        ·have:=V0 sz (show i'+1≤k from aT)
         rw[Wa,Nat.one_mul]at this
         omega
    obtain⟨cH,k1,k2,k3⟩:=vu parts ps _ _ els' Lf (by simpa using hl) (fun j i x hx=>hp (j+1) i x (by simpa using hx)) h
    refine⟨cH,?_,k2,by simpa using k3⟩
    simp only[Instr.fill]
    rw[if_neg (by simp [h1,Hh,r2];omega)]
    rw[← e]at k1
    exact k1
   ·cases h
def GG:V→Option D
 |.d x=>some x
 |.fu aL=>some (.sl aL)
 |_=>none
theorem lK {σ:Gh}{s:List Obj}{w:World}{x:V}{u:Value}{y:D} (hr:aJ σ s w x u) (h:GG x=some y):du (Own σ s) w y u:=by
 cases hr <;> simp only[GG,Option.some.injEq]at h <;> first|(cases h;done)|(subst h;assumption)
def mY (aL:List (List V)):Option (List (List D)):=aL.mapM fun e=>e.mapM GG
theorem iB {α β:Type}{f:α→Option β}:∀{l:List α}{r:List β},l.mapM f=some r→r.length=l.length∧∀(i:Nat) (y:β),r[i]?=some y→∃x,l[i]?=some x∧f x=some y
 |[],r,h=>by simp at h;subst h;simp
 |a::l,r,h=>by
  rw[Wz]at h
  cases ha:f a with
  |none=>simp [ha]at h
  |some b =>
   cases hl:l.mapM f with
   |none=>simp [ha,hl]at h
   |some r' =>
    simp [ha,hl]at h
    subst h
    obtain⟨h1,h2⟩:=iB hl
    refine⟨by simp [h1],fun i y hy=>?_⟩
    cases i with
    |zero=>simp at hy;subst hy;exact⟨a,rfl,ha⟩
    |succ i=>simpa using h2 i y (by simpa using hy)
theorem Hc {aL:List (List V)}{ds:List (List D)} (h:mY aL=some ds):ds.length=aL.length ∧
  (∀(i:Nat) (e:List D),ds[i]?=some e→∃e',aL[i]?=some e'∧e.length=e'.length) ∧
  ∀(i j:Nat) (y:D),(ds[i]?.bind (·[j]?))=some y→∃x,(aL[i]?.bind (·[j]?))=some x∧GG x=some y:=by
 obtain⟨h1,h2⟩:=iB h
 refine⟨h1,fun i e he=>?_,fun i j y hy=>?_⟩
 ·obtain⟨e',k1,k2⟩:=h2 i e he
  exact⟨e',k1,(iB k2).1⟩
 ·cases he:ds[i]? with
  |none=>rw[he]at hy;cases hy
  |some e =>
   rw[he]at hy
   obtain⟨e',k1,k2⟩:=h2 i e he
   obtain⟨x,k3,k4⟩:=(iB k2).2 j y hy
   exact⟨x,by rw[k1];exact k3,k4⟩
theorem du.Ej {O:Nat→Prop}{w:World}{aL:List (List D)}{b base cap sz:Nat} (gD:aL.length≤cap) (gH:∀e∈aL,e.length=sz) (hO:¬O b)
  (h:∀(i j:Nat) (x:D),(aL[i]?.bind (·[j]?))=some x→∃u,w.cell? ⟨b,base+i*sz+j,none⟩=some u∧du O w x u):du O w (.sl aL) (.slice (some ⟨b,base,none⟩) aL.length cap):=by
 refine .sl aL ⟨b,base,none⟩ cap sz (fun i j=>(w.cell? ⟨b,base+i*sz+j,none⟩).getD undef) gD (fun _=>rfl) gH (fun i j x hx=>?_) (fun i j x hx=>?_)
 ·obtain⟨u,h1,h2⟩:=h i j x hx
  simp only[h1,Option.getD_some]
  exact⟨trivial,hO⟩
 ·obtain⟨u,h1,h2⟩:=h i j x hx
  simpa only[h1,Option.getD_some]using h2
theorem uf {σ:Gh}{s:List Obj}{w:World} (hI:Inv σ s w) {b:Nat} (h:Own σ s b):b<w.heap.size:=by
 rcases h with h|⟨id,o,base,h1,_,h3⟩
 ·exact hI.low b h
 ·exact hI.lt h1 h3
def iE (P:Program) (t:TypeId):Option (TypeId×IP) :=
 match P.underlying t with
 |some (.slice e)=>(bS P e).map fun i=>(e,i)
 |_=>none
theorem jd {P:Program}{t e:TypeId}{i:IP} (h:iE P t=some (e,i)):P.underlying t=some (.slice e)∧bS P e=some i:=by
 unfold iE at h
 split at h
 ·rename_i e' hu
  obtain⟨i',h1,h2⟩:=Option.map_eq_some_iff.1 h
  simp only[Prod.mk.injEq]at h2
  obtain⟨rfl,rfl⟩:=h2
  exact⟨hu,h1⟩
 ·cases h
def eC (P:Program) (t:TypeId) (len:Nat) (parts:List (Nat×V)) (s:List Obj) (K:V→List Obj→Prop):Prop :=
 match iE P t with
 |none=>False
 |some (_,i)=>(len*i.sz≤16777216∧0<i.sz)∧match pz i.sz (List.replicate len (i.zero.map cv)) parts with
  |none=>False
  |some aL=>match mY aL with
   |some ds=>K (.fu ds) s
   |none=>K (.so s.length 0 0 len) (s++[⟨0,true,i.sz,aL⟩])
theorem wz {P:Program}{t:TypeId}{i:IP} (ht:bS P t=some i) (σ:Gh) (s:List Obj) (w:World) (n:Nat) (z:Value) (hz:z.cells.toList=i.zero) :
  F0 σ s w i.sz (List.replicate n (i.zero.map cv)) ((Array.range (n*i.sz)).map (z.cells[· % z.cells.size]!)):=by
 obtain⟨ti,d,z',k1,k2,k3,k4,k5,k6,k7,k8,k9⟩:=fW ht
 have T6:z.cells.size=i.sz:=by rw[← Ww,hz,k7]
 refine⟨fun e he=>by rw[Wm he];simp [k7],by simp,fun a j x hx=>?_⟩
 have ha:a<n:=by
  cases he:(List.replicate n (i.zero.map cv))[a]? with
  |none=>rw[he]at hx;cases hx
  |some e=>simpa using (List.getElem?_eq_some_iff.1 he).1
 simp only[List.getElem?_replicate,ha,if_true,Wd,VB]at hx
 obtain⟨v,hv,rfl⟩:=Option.map_eq_some_iff.1 hx
 have hj:j<i.sz:=by rw[← k7];exact(List.getElem?_eq_some_iff.1 hv).1
 have hb:=V0 i.sz (show a+1≤n from ha)
 rw[Wa,Nat.one_mul]at hb
 refine⟨v,?_,k8 v (Vy hv),AQ v⟩
 have SO:(a*i.sz+j) % z.cells.size=j:=by rw[T6,Nat.mul_add_mod_self_right,Nat.mod_eq_of_lt hj]
 have mV:z.cells[j]! = v:=by
  rw[getElem!_def,← V4,hz,hv]
 simp [show a*i.sz+j<n*i.sz by omega,SO,mV]
theorem uE {P:Program}{t:TypeId}{len:Nat}{σ:Gh}{s:List Obj}{w:World}{parts:List (Nat×V)}{ps:List (Nat×Value)}{K:V→List Obj→Prop} (hI:Inv σ s w)
  (hl:ps.length=parts.length) (hp:∀(j:Nat) i x,parts[j]?=some (i,x)→∃u,ps[j]?=some (i,u)∧aJ σ s w x u) (h:eC P t len parts s K) :
  ∃v c σ' s' w',(Instr.buildSlice t len ps.toArray).run P w=.ok c w'∧bc σ s w σ' s' w'∧Inv σ' s' w'∧aJ σ' s' w' v c∧K v s':=by
 unfold eC at h
 split at h
 ·exact h.elim
 rename_i e i hti
 obtain⟨hu,hi⟩:=jd hti
 obtain⟨⟨hb,dv⟩,h⟩:=h
 split at h
 ·exact h.elim
 rename_i aL kV
 obtain⟨ti,d,z,k1,k2,k3,k4,k5,k6,k7,k8,k9⟩:=fW hi
 have hz:∀w,(zeroValue e).run P w=.ok z w:=fun w=>by simp [zeroValue,typeInfo,k1,k3]
 have gH:∀w,(sizeOf e).run P w=.ok i.sz w:=fun w=>by simp [sizeOf,typeInfo,k1,k4]
 obtain⟨cH,f1,f2,f3⟩:=vu parts ps _ _ aL (wz hi σ s w len z k6) hl hp kV
 have hlen:aL.length=len:=by simpa using f3
 have cY:(Instr.buildSlice t len ps.toArray).run P w=.ok (.slice (some ⟨w.heap.size,0,none⟩) len len) (w.alloc (.cells cH e)):=by
  have Ld:¬(len*i.sz>2 ^ 24):=by omega
  by_cases h0:len=0
  ·subst h0
   have vP:∀g:Nat→Value,(Array.range 0).map g=#[]:=fun g=>by apply Array.ext' ;simp
   rw[Nat.zero_mul,vP]at f1
   simp only[Instr.buildSlice,Sem.run_bind,run_underlying hu,gH,Result.andThen_ok,Nat.zero_mul,vP,f1]
   simp [newRow]
  ·have kI:¬(len*i.sz=0):=by
    have:=Nat.mul_pos (Nat.pos_of_ne_zero h0) dv;omega
   simp only[Instr.buildSlice,Sem.run_bind,run_underlying hu,gH,Result.andThen_ok,if_neg Ld,if_neg kI,hz,f1,Sem.run_pure]
   simp [newRow]
 obtain⟨r1,r2,r3⟩:=f2
 split at h
 ·rename_i ds RB
  obtain⟨d1,d2,d3⟩:=Hc RB
  obtain⟨hE,jF⟩:=zl hI (.cells cH e)
  refine⟨_,_,σ,s,_,cY,hE,jF,?_,h⟩
  have hd:du (Own σ s) (w.alloc (.cells cH e)) (.sl ds) (.slice (some ⟨w.heap.size,0,none⟩) ds.length ds.length):=by
   refine du.Ej (sz:=i.sz) (VA _) (fun x hx=>?_) (fun ho=>by have:=uf hI ho;omega) (fun a j y hy=>?_)
   ·obtain⟨a,ha⟩:=List.mem_iff_getElem?.1 hx
    obtain⟨e',g1,g2⟩:=d2 a x ha
    rw[g2];exact r1 e' (Vy g1)
   ·obtain⟨x,g1,g2⟩:=d3 a j y hy
    obtain⟨c,c1,c2,c3⟩:=r3 a j x g1
    exact⟨c,by simpa using c1,(lK c3 g2).bM hE⟩
  rw[show len=ds.length by omega]
  exact .fu hd
 ·have:=ou (aL:=aL) (sz:=i.sz) (arr:=cH) hI e r1 (by omega) r3
  refine⟨_,_,_,_,_,cY,this.1,this.2,?_,h⟩
  refine .so ⟨0,true,i.sz,aL⟩ (by simp) (VA _) rfl (fun _=>.inr ⟨w.heap.size,0,len,e,cH,b9 _ _ _,heap_alloc_new w _,by simp,VA _,by simp [r2,hlen]⟩)
def fx (P:Program) (t:TypeId) (l c:V) (s:List Obj) (K:V→List Obj→Prop):Prop :=
 match iE P t with
 |none=>False
 |some (_,i)=>match l,c with
  |.d (.sc (.int _ n)),.d (.sc (.int _ m))=>(0≤n∧n≤m∧i.xN*m≤140737488355328∧m≤9223372036854775807∧0<i.sz) ∧
    K (.so s.length 0 0 n.toNat) (s++[⟨0,true,i.sz,List.replicate n.toNat (i.zero.map cv)⟩])
  |_,_=>False
theorem vE {P:Program}{t:TypeId}{l c:V}{ul uc:Value}{σ:Gh}{s:List Obj}{w:World}{K:V→List Obj→Prop} (hI:Inv σ s w) (hl:aJ σ s w l ul) (hc:aJ σ s w c uc)
  (h:fx P t l c s K):∃v r σ' s' w',(Instr.makeSlice t ul uc).run P w=.ok r w'∧bc σ s w σ' s' w'∧Inv σ' s' w'∧aJ σ' s' w' v r∧K v s':=by
 unfold fx at h
 split at h
 ·exact h.elim
 rename_i e i hti
 obtain⟨hu,hi⟩:=jd hti
 split at h
 case h_2=>exact h.elim
 rename_i kl n kc m
 obtain⟨⟨h1,h2,h3,h4,h5⟩,h⟩:=h
 cases hl with|d hl=>?_
 cases hl with|sc _ _=>?_
 cases hc with|d hc=>?_
 cases hc with|sc _ _=>?_
 obtain⟨ti,d,z,k1,k2,k3,k4,k5,k6,k7,k8,k9⟩:=fW hi
 have hz:∀w,(zeroValue e).run P w=.ok z w:=fun w=>by simp [zeroValue,typeInfo,k1,k3]
 have gH:∀w,(sizeOf e).run P w=.ok i.sz w:=fun w=>by simp [sizeOf,typeInfo,k1,k4]
 obtain⟨N,rfl⟩:=Wl h1
 obtain⟨M,rfl⟩:=Wl (show 0≤m by omega)
 have w1:IntKind.i64.wrap (N:Int)=N:=IntWalk.i64_in _ (by omega)
 have w2:IntKind.i64.wrap (M:Int)=M:=IntWalk.i64_in _ (by omega)
 have Um:¬((i.xN:Int)*(M:Int)>2 ^ 48):=by omega
 obtain⟨r1,r2,r3⟩:=wz hi σ s w M z k6
 have cY:(Instr.makeSlice t (.int kl N) (.int kc M)).run P w=.ok (.slice (some ⟨w.heap.size,0,none⟩) N M) (w.alloc (.cells ((Array.range (M*i.sz)).map (z.cells[· % z.cells.size]!)) e)):=by
  have vP:∀g:Nat→Value,(Array.range 0).map g=#[]:=fun g=>by apply Array.ext' ;simp
  have c1:¬((M:Int)<0):=by omega
  have c2:¬((N:Int)<0):=by omega
  have c3:¬((N:Int)>M):=by omega
  by_cases h0:M*i.sz=0
  ·simp only[Instr.makeSlice,run_underlying hu,asInt,asIntOf,typeInfo,k1,k5,w1,w2,Sem.run_bind,Result.andThen_ok,run_program,Sem.run_pure,VR,h0,vP]
   simp [c1,c2,c3,gH,newRow,h0,vP]
   intro hx;exfalso;omega
  ·simp only[Instr.makeSlice,run_underlying hu,asInt,asIntOf,typeInfo,k1,k5,w1,w2,Sem.run_bind,Result.andThen_ok,run_program,Sem.run_pure,VR]
   simp [c1,c2,c3,gH,newRow,h0,hz]
   intro hx;exfalso;omega
 have:=ou (aL:=List.replicate N (i.zero.map cv)) (sz:=i.sz) (arr:=(Array.range (M*i.sz)).map (z.cells[· % z.cells.size]!)) hI e (fun x hx=>by rw[Wm hx];simp [k7])
  (by simp;exact V0 _ (by omega)) (fun a j x hx=>by
   refine r3 a j x ?_
   rw[List.getElem?_replicate]at hx ⊢
   split at hx
   ·rw[if_pos (by omega)];exact hx
   ·cases hx)
 refine⟨_,_,_,_,_,cY,this.1,this.2,?_,h⟩
 refine .so ⟨0,true,i.sz,List.replicate N (i.zero.map cv)⟩ (by simp) (VA _) rfl (fun _=>.inr ⟨w.heap.size,0,M,e,(Array.range (M*i.sz)).map (z.cells[· % z.cells.size]!),b9 _ _ _,heap_alloc_new w _,by simp,by omega,by simp⟩)
def Dl:V→Option Int
 |.d (.sc (.int _ n))=>some n
 |_=>none
theorem zt {σ:Gh}{s:List Obj}{w:World}{x:V}{u:Value}{n:Int} (hr:aJ σ s w x u) (h:Dl x=some n):∃k,u=.int k n:=by
 unfold Dl at h
 split at h
 ·simp only[Option.some.injEq]at h
  subst h
  cases hr with|d hr=>?_
  cases hr with|sc _ _=>exact⟨_,rfl⟩
 ·cases h
def gG (s:List Obj):V→Option (List (List V))
 |.d (.sl aL)=>some (aL.map (·.map .d))
 |.fu aL=>some (aL.map (·.map .d))
 |.so id g lo n=>match s[id]? with
  |some o=>if o.g=g∧lo+n≤o.aL.length then some ((o.aL.drop lo).take n) else none
  |none=>none
 |_=>none
theorem IA {aL:List (List D)}{i j:Nat}{x:V} (h:((aL.map (·.map V.d))[i]?.bind (·[j]?))=some x):∃y,x=.d y∧(aL[i]?.bind (·[j]?))=some y:=by
 rw[VB]at h
 cases he:aL[i]? with
 |none=>rw[he]at h;cases h
 |some e =>
  rw[he]at h
  simp only[Wc,Wd,VB]at h
  obtain⟨y,hy,rfl⟩:=Option.map_eq_some_iff.1 h
  exact⟨y,rfl,hy⟩
theorem il {σ:Gh}{s:List Obj}{w:World} (hI:Inv σ s w) {x:V}{u:Value}{es:List (List V)} (hr:aJ σ s w x u) (h:gG s x=some es) {z:Nat} (hz:∀e∈es,e.length=z) :
  ∃a cap,u=.slice a es.length cap∧(a=none→es=[])∧es.length≤cap∧∃news:List Value,news.length=es.length*z∧(∀c∈news,c.oneCell'=true) ∧
   (∀ad,a=some ad→∀(j:Nat) (c:Value),news[j]?=some c→w.cell? (ad.add j)=some c) ∧
   ∀(i j:Nat) (y:V),(es[i]?.bind (·[j]?))=some y→∃c,news[i*z+j]?=some c∧c.oneCell'=true∧aJ σ s w y c:=by
 -- from cells Rk U6 there
 have key:∀(a:Option Addr) (cap:Nat),(a=none→es=[])→es.length≤cap→(es≠[]→∃ad,a=some ad∧ad.spot=none∧∀(i j:Nat) (y:V),(es[i]?.bind (·[j]?))=some y →
    ∃c,w.cell? ⟨ad.block,ad.off+i*z+j,none⟩=some c∧c.oneCell'=true∧aJ σ s w y c) →
   ∃a' lJ,Value.slice a es.length cap=.slice a' es.length lJ∧(a'=none→es=[])∧es.length≤lJ∧∃news:List Value,news.length=es.length*z∧(∀c∈news,c.oneCell'=true) ∧
    (∀ad,a'=some ad→∀(j:Nat) (c:Value),news[j]?=some c→w.cell? (ad.add j)=some c) ∧
    ∀(i j:Nat) (y:V),(es[i]?.bind (·[j]?))=some y→∃c,news[i*z+j]?=some c∧c.oneCell'=true∧aJ σ s w y c:=by
  intro a cap h1 h2 h3
  refine⟨a,cap,rfl,h1,h2,?_⟩
  by_cases gf:es=[]
  ·subst gf
   exact⟨[],by simp,by simp,by simp,by simp⟩
  ·obtain⟨ad,rfl,eD,hc⟩:=h3 gf
   have hdiv:∀p,p<es.length*z→0<z∧p / z<es.length∧p / z*z+p % z=p∧p % z<z:=by
    intro p hp
    have SL:0<z:=by
     rcases Nat.eq_zero_or_pos z with h'|h'
     ·subst h';simp at hp
     ·exact h'
    refine⟨SL,?_,by rw[Nat.mul_comm];exact Nat.div_add_mod p z,Nat.mod_lt _ SL⟩
    rw[Nat.div_lt_iff_lt_mul SL];exact hp
   have Jm:∀p,p<es.length*z→∃y,(es[p / z]?.bind (·[p % z]?))=some y:=by
    intro p hp
    obtain⟨g1,g2,g3,g4⟩:=hdiv p hp
    have A2:(es[p / z]'g2).length=z:=hz _ (List.getElem_mem g2)
    exact⟨(es[p / z]'g2)[p % z]'(by omega),by simp [g2,A2,g4]⟩
   have vh:∀p,p<es.length*z→∃c,w.cell? ⟨ad.block,ad.off+p,none⟩=some c∧c.oneCell'=true:=by
    intro p hp
    obtain⟨y,hy⟩:=Jm p hp
    obtain⟨c,k1,k2,_⟩:=hc _ _ y hy
    exact⟨c,by rw[← k1,Wk,(hdiv p hp).2.2.1],k2⟩
   refine⟨(List.range (es.length*z)).map fun p=>(w.cell? ⟨ad.block,ad.off+p,none⟩).getD undef,by simp,?_,?_,?_⟩
   ·intro c MN
    obtain⟨p,hp,rfl⟩:=List.mem_map.1 MN
    obtain⟨c,k1,k2⟩:=vh p (by simpa using hp)
    rw[k1];exact k2
   ·intro Vd Uc j c hj
    cases Uc
    rw[VB]at hj
    obtain⟨p,hp,rfl⟩:=Option.map_eq_some_iff.1 hj
    have aT:j<es.length*z:=by simpa using (List.getElem?_eq_some_iff.1 hp).1
    obtain rfl:p=j:=by
     have:=(List.getElem?_eq_some_iff.1 hp).2
     simpa using this.symm
    obtain⟨c,k1,_⟩:=vh p aT
    rw[fC eD,k1];rfl
   ·intro i j y hy
    obtain⟨c,k1,k2,k3⟩:=hc i j y hy
    refine⟨c,?_,k2,k3⟩
    have OK:i*z+j<es.length*z:=by
     cases he:es[i]? with
     |none=>rw[he]at hy;cases hy
     |some e =>
      rw[he]at hy
      have hj:=(List.getElem?_eq_some_iff.1 hy).1
      rw[hz e (Vy he)]at hj
      have:=V0 z (show i+1≤es.length from (List.getElem?_eq_some_iff.1 he).1)
      rw[Wa,Nat.one_mul]at this
      omega
    rw[VB,List.getElem?_range OK]
    simp only[Wc]
    rw[← Wk,k1]
    rfl
 have zn:∀(aL:List (List D)) (a:Option Addr) (n cap:Nat),du (Own σ s) w (.sl aL) (.slice a n cap)→es=aL.map (·.map .d)→n=es.length∧(a=none→es=[])∧es.length≤cap ∧
   (es≠[]→∃ad,a=some ad∧ad.spot=none∧∀(i j:Nat) (y:V),(es[i]?.bind (·[j]?))=some y →
    ∃c,w.cell? ⟨ad.block,ad.off+i*z+j,none⟩=some c∧c.oneCell'=true∧aJ σ s w y c):=by
  intro aL a n cap hd he
  subst he
  cases hd with
  |nil=>simp
  |sl _ ad _ sz f h1 h2 h3 h4 h5 =>
   refine⟨by simp,by simp,by simpa using h1,fun gf=>⟨ad,rfl,h2 (by intro h';subst h';simp at gf),fun i j y hy=>?_⟩⟩
   obtain⟨y',rfl,Np⟩:=IA hy
   have gH:sz=z:=by
    cases xC:aL[i]? with
    |none=>rw[xC]at Np;cases Np
    |some e =>
     have:=h3 e (Vy xC)
     have MZ:=hz (e.map .d) (List.mem_map.2 ⟨e,Vy xC,rfl⟩)
     simp at MZ
     omega
   subst gH
   exact⟨f i j,(h4 i j y' Np).1,(h5 i j y' Np).one,.d (h5 i j y' Np)⟩
 unfold gG at h
 split at h
 ·simp only[Option.some.injEq]at h
  cases hr with|d hr=>?_
  have hu:∃a n cap,u=.slice a n cap:=by cases hr <;> exact⟨_,_,_,rfl⟩
  obtain⟨a,n,cap,rfl⟩:=hu
  obtain⟨rfl,e2,e3,e4⟩:=zn _ a n cap hr h.symm
  exact key a cap e2 e3 e4
 ·simp only[Option.some.injEq]at h
  cases hr with|fu hr=>?_
  obtain⟨e1,e2,e3,e4⟩:=zn _ _ _ _ hr h.symm
  rw[e1]
  exact key _ _ e2 (by omega) e4
 ·rename_i id g lo n
  split at h
  case h_2=>cases h
  rename_i o ho
  split at h
  case isFalse=>cases h
  rename_i hc
  simp only[Option.some.injEq]at h
  subst h
  have hlen:((o.aL.drop lo).take n).length=n:=by simp;omega
  cases hr with|so o' jj hg hu hk=>?_
  rw[ho]at jj;cases jj
  rcases hk hc.1 with ⟨_,⟨a,rfl⟩,rfl,rfl⟩|⟨b,base,cap,E,arr,g1,g2,rfl,g4,g5⟩
  ·have:=key a 0 (by simp) (by simp) (by simp)
   simp only[List.take_zero]at this ⊢
   exact this
  ·have:=key (some ⟨b,base+lo*o.sz,none⟩) cap (by simp) (by omega) (fun gf=>⟨_,rfl,rfl,fun i j y hy=>?_⟩)
   ·rw[hlen]at this ⊢;exact this
   ·have hi:i<n∧(o.aL[lo+i]?.bind (·[j]?))=some y:=by
     rw[VW]at hy
     split at hy
     ·rw[Wf]at hy;exact⟨by assumption,hy⟩
     ·cases hy
    rcases hI.content _ o ho with h1|⟨b',cj,cH,E',h1,h2,h3,h4,h5⟩
    ·exact(h1.yW g1 ⟨arr,E,g2⟩).elim
    ·rw[g1]at h1;cases h1
     rw[g2]at h2;cases h2
     have gH:o.sz=z:=by
      cases xC:o.aL[lo+i]? with
      |none=>rw[xC]at hi;cases hi.2
      |some e =>
       have e1:=h3 e (Vy xC)
       have e2:=hz e (Vy (i:=i) (by rw[VW,if_pos hi.1,Wf];exact xC))
       omega
     subst gH
     obtain⟨c,k1,k2,k3⟩:=h5 (lo+i) j y hi.2
     refine⟨c,?_,k2,k3⟩
     simp only[World.cell?,g2]
     rw[Wa]at k1
     simpa [Wk]using k1
 ·cases h
def dD (P:Program) (t:TypeId) (a x:V) (s:List Obj) (K:V→List Obj→Prop):Prop :=
 match iE P t with
 |none=>False
 |some (_,i)=>match gG s x with
  |none=>False
  |some ns=>((∀e∈ns,e.length=i.sz)∧0<i.sz∧0<i.xN)∧match a with
   |.fu aL=>match aL,x with
    |_::_,.d (.sl ds)=>((aL.length+ds.length)*i.xN≤140737488355328∧∀e∈aL,e.length=i.sz)∧K (.d (.sl (aL++ds))) s
    |_,_=>((aL=[]∨0<ns.length)∧(aL.length+ns.length)*i.xN≤140737488355328∧∀e∈aL,e.length=i.sz) ∧
      K (.so s.length 0 0 (aL.length+ns.length)) (s++[⟨0,true,i.sz,aL.map (·.map .d)++ns⟩])
   |.so id g lo n=>pB s id g fun o=>(o.live=true∧o.sz=i.sz∧lo+n≤o.aL.length∧(n+ns.length)*i.xN≤140737488355328) ∧
     K (.so id (g+1) 0 (n+ns.length)) (s.set id ⟨g+1,true,i.sz,(o.aL.drop lo).take n++ns⟩)
   |_=>False
theorem pG {σ:Gh}{s:List Obj}{w:World}{z:Nat}{es ns:List (List V)}{jK news:List Value} (ho:jK.length=es.length*z)
  (h1:∀(i j:Nat) (y:V),(es[i]?.bind (·[j]?))=some y→∃c,jK[i*z+j]?=some c∧c.oneCell'=true∧aJ σ s w y c)
  (h2:∀(i j:Nat) (y:V),(ns[i]?.bind (·[j]?))=some y→∃c,news[i*z+j]?=some c∧c.oneCell'=true∧aJ σ s w y c) :
  ∀(i j:Nat) (y:V),((es++ns)[i]?.bind (·[j]?))=some y→∃c,(jK++news)[i*z+j]?=some c∧c.oneCell'=true∧aJ σ s w y c:=by
 intro i j y hy
 by_cases hi:i<es.length
 ·rw[VH hi]at hy
  obtain⟨c,k1,k2,k3⟩:=h1 i j y hy
  refine⟨c,?_,k2,k3⟩
  rw[VH (by
   have:=(List.getElem?_eq_some_iff.1 k1).1
   exact this)]
  exact k1
 ·rw[VF (by omega)]at hy
  obtain⟨c,k1,k2,k3⟩:=h2 _ j y hy
  refine⟨c,?_,k2,k3⟩
  have hmul:i*z=es.length*z+(i-es.length)*z:=by
   rw[← Wa];congr 1;omega
  rw[VF (by rw[ho,hmul];omega),← k1]
  congr 1
  rw[ho,hmul]
  omega
theorem zO {l:List Value}{arr:Array Value}{p:Nat}{c:Value} (h:l[p]?=some c):(l.toArray++arr)[p]?=some c:=by
 have aT:=(List.getElem?_eq_some_iff.1 h).1
 rw[Array.getElem?_append_left (by simpa using aT)]
 simpa using h
theorem kE {P:Program}{t ty e:TypeId}{ti:TypeInfo} (hu:P.underlying t=some (.slice e)) (hi:P.info? e=some ti) {w:World}{ux:Value} (hs:Src P ti.size t ux 0 [] w)
  (base:Option Addr) (n cap:Nat) (h:n≤cap):(Builtin.append_ #[t,t] ty #[.slice base n cap,ux]).run P w=.ok (.slice base n cap) w:=by
 cases base <;> simp [Builtin.append_,run_underlying hu,sizeOf,typeInfo,hi,hs.len,h,hs.cells,storeCells]
theorem A7 {P:Program}{t ty:TypeId}{a x:V}{ua ux:Value}{σ:Gh}{s:List Obj}{w:World}{K:V→List Obj→Prop} (hI:Inv σ s w) (ha:aJ σ s w a ua) (hx:aJ σ s w x ux)
  (h:dD P t a x s K):∃v r σ' s' w',(Builtin.append_ #[t,t] ty #[ua,ux]).run P w=.ok r w'∧bc σ s w σ' s' w'∧Inv σ' s' w'∧aJ σ' s' w' v r∧K v s':=by
 unfold dD at h
 split at h
 ·exact h.elim
 rename_i e i hti
 obtain⟨hu,hi⟩:=jd hti
 split at h
 ·exact h.elim
 rename_i ns tJ
 obtain⟨⟨hz,dv,QI⟩,h⟩:=h
 obtain⟨ti,d,z,k1,k2,k3,k4,k5,k6,k7,k8,k9⟩:=fW hi
 obtain⟨ax,rG,rfl,x0,NZ,news,n1,n2,n3,n4⟩:=il hI hx tJ hz
 have Es:z.cells.size=i.sz:=by rw[← Ww,k6,k7]
 have rp:Src P ti.size t (.slice ax ns.length rG) ns.length news w:=by
  rw[k4]
  cases ax with
  |none =>
   have:ns=[]:=x0 rfl
   subst this
   have hn:news=[]:=VD (by simpa using n1)
   subst hn
   exact Src.ofNil w hu rG
  |some ad=>exact Src.ofSlice w hu ad ns.length rG news n1 (n3 ad rfl) n2
 -- it QC
 have grow:∀(es:List (List V)) (base:Option Addr) (cap:Nat) (jK:List Value),jK.length=es.length*i.sz→(base=none→es=[])→(∀e∈es,e.length=i.sz) →
   (∀ad,base=some ad→∀(j:Nat) (c:Value),jK[j]?=some c→w.cell? (ad.add j)=some c) →
   (∀(i' j:Nat) (y:V),(es[i']?.bind (·[j]?))=some y→∃c,jK[i'*i.sz+j]?=some c∧c.oneCell'=true∧aJ σ s w y c) →
   cap<es.length+ns.length→(es.length+ns.length)*i.xN≤140737488355328 →
   ∃(arr:Array Value) (lJ:Nat),(Builtin.append_ #[t,t] ty #[.slice base es.length cap,.slice ax ns.length rG]).run P w=.ok (.slice (some ⟨w.heap.size,0,none⟩) (es.length+ns.length) lJ) (w.drew.alloc (.cells arr e)) ∧
    es.length+ns.length≤lJ∧arr.size=lJ*i.sz ∧
    ∀(i' j:Nat) (y:V),((es++ns)[i']?.bind (·[j]?))=some y→∃c,arr[i'*i.sz+j]?=some c∧c.oneCell'=true∧aJ σ s w y c:=by
  intro es base cap jK o1 o2 o3 o4 o5 gD Sl
  have hold:(Builtin.firstCells ti.size es.length (.slice base es.length cap)).run P w.drew=.ok jK.toArray w.drew:=by
   rw[k4]
   cases base with
   |none =>
    have:es=[]:=o2 rfl
    subst this
    have hn:jK=[]:=VD (by simpa using o1)
    subst hn
    exact run_firstCells_none w.drew i.sz 0 0 cap
   |some ad=>exact run_firstCells_some w.drew i.sz es.length ad es.length cap jK o1 (by simpa using o4 ad rfl)
  have hle:es.length+ns.length≤(es.length+ns.length)*i.xN:=Nat.le_mul_of_pos_right _ QI
  have cY:=run_append_grow_src (P:=P) w t t ty e ti z hu k1 k3 base es.length cap jK hold (.slice ax ns.length rG) ns.length news rp gD (by omega) (growslice_fits gD (by rw[k5];exact Sl))
  have iR:=grownCap_ge w (es.length+ns.length) cap e
  refine⟨_,_,cY,iR,?_,?_⟩
  ·simp only[Array.size_append,List.size_toArray,size_zeroCells,VN,o1,n1,Es]
   rw[← Wa,← Wa]
   congr 1
   omega
  ·intro i' j y hy
   obtain⟨c,c1,c2,c3⟩:=pG o1 o5 n4 i' j y hy
   exact⟨c,zO c1,c2,c3⟩
 have Kn:∀(es:List (List V)),(∀e∈es,e.length=i.sz)→∀e∈es++ns,e.length=i.sz:=by
  intro es AA e he
  rcases List.mem_append.1 he with h'|h'
  ·exact AA e h'
  ·exact hz e h'
 obtain⟨KO,M1⟩:=lS hI
 split at h
 ·
  rename_i aL
  have kV:gG s (.fu aL)=some (aL.map (·.map .d)):=rfl
  have O4:(∀e∈aL,e.length=i.sz)→∀e∈aL.map (·.map V.d),e.length=i.sz:=by
   intro hh e he
   obtain⟨e',vj,rfl⟩:=List.mem_map.1 he
   simpa using hh e' vj
  split at h
  ·
   rename_i d0 tp ds
   obtain⟨⟨hb,hl⟩,h⟩:=h
   have HD:ns=ds.map (·.map .d):=by simpa [gG]using tJ.symm
   obtain⟨base,cap,yf,a1,a2,jK,o1,o2,o3,o4⟩:=il hI ha kV (O4 hl)
   have Ef:cap=(d0::tp).length:=by
    cases ha with|fu ha=>?_
    simp only[Value.slice.injEq]at yf
    omega
   subst yf
   have kJ:((d0::tp).map (·.map V.d)).length=(d0::tp).length:=by simp
   by_cases hm:ns.length=0
   ·have RB:ds=[]:=by
     rw[HD]at hm
     simpa using hm
    subst RB
    have ma:ns=[]:=by simpa using HD
    subst ma
    have rF:news=[]:=VD (by simpa using n1)
    subst rF
    cases base with
    |none=>simp at a1
    |some ad =>
     refine⟨_,.slice (some ad) ((d0::tp).map (·.map V.d)).length cap,σ,s,w,kE hu k1 rp _ _ _ (by simp [Ef]),bc.refl _ _ _,hI,?_,h⟩
     ·rw[List.append_nil]
      exact .d (lK ha rfl)
   ·obtain⟨arr,lJ,g1,g2,g3,g4⟩:=grow ((d0::tp).map (·.map .d)) base cap jK o1 a1 (O4 hl) o3 o4 (by rw[kJ];omega) (by rw[kJ,HD];simpa using hb)
    obtain⟨hE,jF⟩:=zl M1 (.cells arr e)
    refine⟨_,_,σ,s,_,g1,KO.trans hE,jF,?_,h⟩
    have hlen:((d0::tp).map (·.map V.d)).length+ns.length=((d0::tp)++ds).length:=by rw[HD];simp;omega
    rw[hlen]
    refine .d (du.Ej (sz:=i.sz) (by rw[← hlen];exact g2) (fun x hx=>?_) (fun ho=>by have:=uf M1 ho;simp at this) (fun a j y hy=>?_))
    ·rcases List.mem_append.1 hx with h'|h'
     ·exact hl x h'
     ·have:=hz (x.map .d) (by rw[HD];exact List.mem_map.2 ⟨x,h',rfl⟩)
      simpa using this
    ·have Np:(((d0::tp).map (·.map V.d)++ns)[a]?.bind (·[j]?))=some (.d y):=by
      rw[HD,← WA,VB]
      cases O1:((d0::tp)++ds)[a]? with
      |none=>rw[O1]at hy;cases hy
      |some ea =>
       rw[O1]at hy
       simp only[Wc,Wd,VB]
       rw[show ea[j]?=some y from hy]
       rfl
     obtain⟨c,c1,c2,c3⟩:=g4 a j _ Np
     refine⟨c,by
      show (w.drew.alloc (.cells arr e)).cell? ⟨w.drew.heap.size,0+a*i.sz+j,none⟩=some c
      rw[World.cell?_alloc_new];simpa using c1,?_⟩
     have:=(c3.bM KO).bM hE
     cases this with|d h'=>exact h'
  ·
   obtain⟨⟨gf,hb,hl⟩,h⟩:=h
   obtain⟨base,cap,yf,a1,a2,jK,o1,o2,o3,o4⟩:=il hI ha kV (O4 hl)
   have Ef:cap=aL.length:=by
    cases ha with|fu ha=>?_
    simp only[Value.slice.injEq]at yf
    omega
   subst yf
   have kJ:(aL.map (·.map V.d)).length=aL.length:=by simp
   by_cases hm:ns.length=0
   ·have kB:aL=[]:=gf.resolve_right (by omega)
    subst kB
    have ma:ns=[]:=VD hm
    subst ma
    have rF:news=[]:=VD (by simpa using n1)
    subst rF
    have:=lR (p:=none) (o':=⟨0,true,i.sz,[]⟩) (w':=w) hI rfl rfl rfl (VA _) (fun _ _=>rfl) (fun _ _ h'=>by cases h') (fun _=>.inl (.inl ⟨rfl,rfl⟩))
    refine⟨_,.slice base 0 cap,_,_,w,kE hu k1 rp _ _ _ (Nat.zero_le _),this.1,this.2,?_,h⟩
    ·subst Ef
     exact .so ⟨0,true,i.sz,[]⟩ (by simp) (VA _) rfl (fun _=>.inl ⟨b9 _ _ _,⟨base,rfl⟩,rfl,rfl⟩)
   ·obtain⟨arr,lJ,g1,g2,g3,g4⟩:=grow (aL.map (·.map .d)) base cap jK o1 a1 (O4 hl) o3 o4 (by rw[kJ];omega) (by rw[kJ];exact hb)
    have:=ou (aL:=aL.map (·.map .d)++ns) (sz:=i.sz) (arr:=arr) M1 e (Kn _ (O4 hl)) (by rw[g3];exact V0 _ (by simpa using g2))
     (fun i' j y hy=>let ⟨c,c1,c2,c3⟩:=g4 i' j y hy;⟨c,c1,c2,c3.bM KO⟩)
    refine⟨_,_,_,_,_,g1,KO.trans this.1,this.2,?_,h⟩
    rw[kJ]
    refine .so ⟨0,true,i.sz,aL.map (·.map .d)++ns⟩ (by simp) (VA _) rfl (fun _=>.inr ⟨w.heap.size,0,lJ,e,arr,b9 _ _ _,heap_alloc_new w.drew _,by simp,by rw[kJ]at g2;exact g2,by simp [g3]⟩)
 ·
  rename_i id g lo n
  obtain⟨o,ho,hg,⟨pC,Cw,hlo,hb⟩,h⟩:=dT h
  have kV:gG s (.so id g lo n)=some ((o.aL.drop lo).take n):=by simp [gG,ho,hg,hlo]
  have kJ:((o.aL.drop lo).take n).length=n:=by simp;omega
  have LU:∀e∈(o.aL.drop lo).take n,e.length=i.sz:=by
   intro e he
   have vj:e∈o.aL:=List.mem_of_mem_drop (Wo he)
   rcases hI.content _ o ho with h0|⟨b,base,arr,E,h1,h2,h3,h4,h5⟩
   ·cases ha with|so o' jj xg Jc hk=>?_
    rw[ho]at jj;cases jj
    rcases hk hg with ⟨eB,_⟩|⟨b,bs,cp,E,arr,ga,hh,_⟩
    ·rw[h0.Bg eB]at vj;cases vj
    ·exact(h0.yW ga ⟨arr,E,hh⟩).elim
   ·rw[← Cw];exact h3 e vj
  obtain⟨base,cap,yf,a1,a2,jK,o1,o2,o3,o4⟩:=il hI ha kV LU
  rw[kJ]at yf a2
  cases ha with|so o' jj xg Jc hk=>?_
  rw[ho]at jj;cases jj
  have rb:=hk hg
  by_cases gD:cap<n+ns.length
  ·
   obtain⟨arr,lJ,g1,g2,g3,g4⟩:=grow _ base cap jK o1 a1 LU o3 o4 (by rw[kJ];exact gD) (by rw[kJ];exact hb)
   rw[kJ]at g1 g2
   subst yf
   have:=lp (p:=some (w.heap.size,0)) (o':=⟨g+1,true,i.sz,(o.aL.drop lo).take n++ns⟩) (w':=w.drew.alloc (.cells arr e)) hI ho pC rfl rfl rfl (by simp)
    (fun b Ld _=>Go.RowKit.Below.heap_alloc w.drew _ b Ld)
    (fun b cj cH E' he hh=>⟨cH,by rw[Go.RowKit.Below.heap_alloc w.drew _ b (by exact fw hh)];exact hh,rfl⟩)
    (fun b cj he hm=>let ⟨es,c,hh⟩:=hm;⟨es,c,by rw[Go.RowKit.Below.heap_alloc w.drew _ b (by exact fw hh)];exact hh⟩)
    (by simp only;omega) (fun h'=>by simp only at h';omega) (fun b cj he=>by cases he;exact .inr (VA _))
    (fun hE=>.inr ⟨w.heap.size,0,arr,e,rfl,heap_alloc_new w.drew _,Kn _ LU,by simp only[VN,kJ,g3];rw[VU];exact V0 _ g2,fun i' j y hy=>by
     obtain⟨c,c1,c2,c3⟩:=g4 i' j y hy
     exact⟨c,by simpa using c1,c2,c3.bM hE⟩⟩)
   refine⟨_,_,_,_,_,g1,this.1,this.2,?_,h⟩
   exact .so ⟨g+1,true,i.sz,(o.aL.drop lo).take n++ns⟩ (by simp [(List.getElem?_eq_some_iff.1 ho).1]) (VA _) rfl (fun _=>.inr ⟨w.heap.size,0,lJ,e,arr,b9 _ _ _,heap_alloc_new w.drew _,by simp,g2,by simp [g3]⟩)
  ·
   have dR:n+ns.length≤cap:=by omega
   rcases rb with ⟨eB,⟨aa,sE⟩,rfl,rfl⟩|⟨b,bs,cp,E,arr,ga,hh,sE,sa,hfit⟩
   ·
    rw[yf]at sE
    simp only[Value.slice.injEq]at sE
    obtain⟨rfl,_,rfl⟩:=sE
    have ma:ns=[]:=VD (by omega)
    subst ma
    have rF:news=[]:=VD (by simpa using n1)
    subst rF
    subst yf
    have:=lp (p:=none) (o':=⟨g+1,true,i.sz,(o.aL.drop 0).take 0++[]⟩) (w':=w) hI ho pC rfl rfl rfl (VA _) (fun _ _ _=>rfl)
     (fun _ _ cH _ _ hh=>⟨cH,hh,rfl⟩) (fun _ _ _ hm=>hm) (by simp only;omega) (fun h'=>by simp only at h';omega) (fun _ _ he=>by cases he) (fun _=>.inl (.inl ⟨rfl,by simp⟩))
    refine⟨_,.slice base 0 0,_,_,w,kE hu k1 rp _ _ _ (VA _),this.1,this.2,?_,h⟩
    ·exact .so ⟨g+1,true,i.sz,(o.aL.drop 0).take 0++[]⟩ (by simp [(List.getElem?_eq_some_iff.1 ho).1]) (VA _) rfl (fun _=>.inl ⟨b9 _ _ _,⟨base,rfl⟩,rfl,rfl⟩)
   ·rw[yf]at sE
    simp only[Value.slice.injEq]at sE
    obtain⟨rfl,_,rfl⟩:=sE
    subst yf
    have hq:bs+lo*o.sz+n*i.sz+news.length≤arr.size:=by
     rw[n1,← Cw]
     have e1:(lo+cap)*o.sz=lo*o.sz+cap*o.sz:=Wa _ _ _
     have e2:=V0 o.sz dR
     rw[Wa]at e2
     omega
    have aH:=run_storeCells_at P b (bs+lo*o.sz+n*i.sz) E news 0 arr w hh (by omega) n2
    simp only[Nat.add_zero]at aH
    generalize mJ:(arr.toList.take (bs+lo*o.sz+n*i.sz)++news++arr.toList.drop (bs+lo*o.sz+n*i.sz+news.length)).toArray=cH at aH
    have ia:cH.size=arr.size:=by rw[← mJ];simp;omega
    have aT:∀p,p<bs+lo*o.sz+n*i.sz→cH[p]?=arr[p]?:=by
     intro p hp
     rw[← mJ,List.getElem?_toArray,VY,VH (by simp;omega),VW,if_pos hp,V4]
    have yh:∀q,q<news.length→cH[bs+lo*o.sz+n*i.sz+q]?=news[q]?:=by
     intro q oO
     have hl:(arr.toList.take (bs+lo*o.sz+n*i.sz)).length=bs+lo*o.sz+n*i.sz:=by simp;omega
     rw[← mJ,List.getElem?_toArray,VY,VF (by omega),hl,VH (by omega)]
     congr 1
     omega
    have:=lp (p:=some (b,bs+lo*o.sz)) (o':=⟨g+1,true,i.sz,(o.aL.drop lo).take n++ns⟩) (w':=w.setRow b cH) hI ho pC rfl rfl rfl (by simp)
     (fun b1 _ gf=>setRow_other w b b1 cH (fun e=>gf bs (by rw[ga,e])))
     (fun b1 iI Nr E1 he O8=>by
      rw[ga]at he;cases he
      rw[hh]at O8;cases O8
      exact⟨cH,setRow_heap w b arr cH E (0,0) hh,ia⟩)
     (fun b1 iI he hm=>by
      rw[ga]at he;cases he
      exact(D4.notM ⟨arr,E,hh⟩ hm).elim)
     (by simp only;omega) (fun h'=>by simp only at h';omega) (fun b1 iI he=>by cases he;exact .inl ⟨bs,ga⟩)
     (fun hE=>.inr ⟨b,bs+lo*o.sz,cH,E,rfl,setRow_heap w b arr cH E (0,0) hh,Kn _ LU,(by
      simp only[VN,kJ,Wa]
      rw[ia]
      omega),fun i' j y hy=>by
      obtain⟨c,c1,c2,c3⟩:=pG (z:=i.sz) o1 o4 n4 i' j y hy
      refine⟨c,?_,c2,c3.bM hE⟩
      simp only
      by_cases OK:i'*i.sz+j<jK.length
      ·rw[VH OK]at c1
       rw[aT _ (by rw[o1,kJ]at OK;omega)]
       have hc:=o3 ⟨b,bs+lo*o.sz,none⟩ rfl _ c c1
       rw[fC rfl]at hc
       simp only[World.cell?,hh]at hc
       simpa [Wk]using hc
      ·rw[VF (by omega)]at c1
       have cn:=(List.getElem?_eq_some_iff.1 c1).1
       have:=yh _ cn
       rw[c1]at this
       rw[← this]
       congr 1
       rw[o1,kJ]at *
       omega⟩)
    refine⟨_,.slice (some ⟨b,bs+lo*o.sz,none⟩) (n+ns.length) cap,_,_,w.setRow b cH,?_,this.1,this.2,?_,h⟩
    ·have kG:=rp.cells
     rw[k4]at kG
     simp [Builtin.append_,run_underlying hu,sizeOf,typeInfo,k1,Builtin.lenOf,dR,kG,k4,Addr.add_lit,aH]
    ·exact .so ⟨g+1,true,i.sz,(o.aL.drop lo).take n++ns⟩ (by simp [(List.getElem?_eq_some_iff.1 ho).1]) (VA _) rfl
      (fun _=>.inr ⟨b,bs+lo*o.sz,cap,E,cH,b9 _ _ _,setRow_heap w b arr cH E (0,0) hh,by simp,dR,by rw[ia];simp only[VU];rw[← Cw,Wa]at *;omega⟩)
 ·exact h.elim
theorem oF {P:Program} (w:World) (t tn ty e:TypeId) (i:TypeInfo) (z:Value) (k kn:IntKind) (ht:P.underlying t=some (.slice e)) (UG:P.underlying tn=some (.int kn)) (hi:P.info? e=some i) (hz:i.zero=some z)
  (base:Option Addr) (n:Nat) (h0:0<n) (hs:0<i.size) (Vp:(n:Int)≤9223372036854775807) (Th:n*i.bytes≤281474976710656) :
  (Builtin.append_ #[t,tn] ty #[.slice base 0 0,.int k n]).run P w =
   .ok (.slice (some ⟨w.heap.size,0,none⟩) n (grownCap w n 0 e)) (w.drew.alloc (.cells (Builtin.zeroCells z.cells n++Builtin.zeroCells z.cells (grownCap w n 0 e-n)) e)):=by
 have hn:n≠0:=by omega
 have hw:IntKind.i64.wrap (n:Int)=n:=by rw[IntKind.wrap_i64];omega
 have Sm:¬(9223372036854775807<(n:Int)):=by omega
 have SW:¬(281474976710656<Builtin.nextslicecap n 0*i.bytes):=by rw[nextslicecap_zero h0];omega
 have Sy:¬(281474976710656<(n:Int)*(i.bytes:Int)):=by
  rw[← Int.natCast_mul]
  omega
 have ca:¬((n:Int)<0):=by omega
 have tJ:¬(n*i.size=0):=Nat.mul_ne_zero hn (by omega)
 have hold:∀w:World,(Builtin.firstCells i.size 0 (.slice base 0 0)).run P w=.ok #[] w:=by
  intro w
  cases base with
  |none=>exact run_firstCells_none w i.size 0 0 0
  |some ad=>exact run_firstCells_some w i.size 0 ad 0 0 [] (by simp) (by simp)
 simp [Builtin.append_,run_underlying ht,run_underlying UG,sizeOf,typeInfo,zeroValue,hi,hz,asInt,asIntOf,hw,hn,ca,tJ,Sm,SW,Sy,Question.forced,hold,newRow,grownCap]
def jg (P:Program) (t t':TypeId) (a x:V) (s:List Obj) (K:V→List Obj→Prop):Prop :=
 match iE P t with
 |none=>False
 |some (_,i)=>match P.underlying t' with
  |some (.int _)=>match a,x with
   |.fu aL,.d (.sc (.int _ n))=>(aL=[]∧0<n∧(i.xN:Int)*n≤140737488355328∧n≤140737488355328∧0<i.sz) ∧
     K (.so s.length 0 0 n.toNat) (s++[⟨0,true,i.sz,List.replicate n.toNat (i.zero.map cv)⟩])
   |_,_=>False
  |_=>False
theorem yE {P:Program}{t t' ty:TypeId}{a x:V}{ua ux:Value}{σ:Gh}{s:List Obj}{w:World}{K:V→List Obj→Prop} (hI:Inv σ s w) (ha:aJ σ s w a ua) (hx:aJ σ s w x ux)
  (h:jg P t t' a x s K):∃v r σ' s' w',(Builtin.append_ #[t,t'] ty #[ua,ux]).run P w=.ok r w'∧bc σ s w σ' s' w'∧Inv σ' s' w'∧aJ σ' s' w' v r∧K v s':=by
 unfold jg at h
 split at h
 ·exact h.elim
 rename_i e i hti
 obtain⟨hu,hi⟩:=jd hti
 split at h
 case h_2=>exact h.elim
 rename_i kn UL
 split at h
 case h_2=>exact h.elim
 rename_i aL k n
 obtain⟨⟨rfl,h1,h2,h3,h4⟩,h⟩:=h
 cases hx with|d hx=>?_
 cases hx with|sc _ _=>?_
 cases ha with|fu ha=>?_
 rename_i base
 obtain⟨ti,d,z,k1,k2,k3,k4,k5,k6,k7,k8,k9⟩:=fW hi
 have Es:z.cells.size=i.sz:=by rw[← Ww,k6,k7]
 obtain⟨N,rfl⟩:=Wl (show 0≤n by omega)
 have Th:N*ti.bytes≤281474976710656:=by
  rw[k5,Nat.mul_comm]
  have:((i.xN*N:Nat):Int)≤140737488355328:=by rw[Int.natCast_mul];exact h2
  omega
 have cY:=oF (P:=P) w t t' ty e ti z k kn hu UL k1 k3 base N (by omega) (by rw[k4];exact h4) (by omega) Th
 have iR:=grownCap_ge w N 0 e
 generalize grownCap w N 0 e=cap at cY iR
 obtain⟨KO,M1⟩:=lS hI
 have gH:(Builtin.zeroCells z.cells N++Builtin.zeroCells z.cells (cap-N)).size=cap*i.sz:=by
  simp only[Array.size_append,size_zeroCells,Es]
  rw[← Wa]
  congr 1
  omega
 obtain⟨r1,r2,r3⟩:=wz hi σ s w N z k6
 have Rd:Builtin.zeroCells z.cells N=(Array.range (N*i.sz)).map (z.cells[· % z.cells.size]!):=by
  unfold Builtin.zeroCells
  rw[Es]
 have mV:∀(a j:Nat) (x:V),((List.replicate N (i.zero.map cv))[a]?.bind (·[j]?))=some x→∃c,(Builtin.zeroCells z.cells N++Builtin.zeroCells z.cells (cap-N))[a*i.sz+j]?=some c∧c.oneCell'=true∧aJ σ s w x c:=by
  intro a j x hx
  obtain⟨c,c1,c2,c3⟩:=r3 a j x hx
  refine⟨c,?_,c2,c3⟩
  rw[← Rd]at c1
  have aT:=(Array.getElem?_eq_some_iff.1 c1).1
  rw[Array.getElem?_append_left aT]
  exact c1
 generalize Builtin.zeroCells z.cells N++Builtin.zeroCells z.cells (cap-N)=arr at *
 have:=ou (aL:=List.replicate N (i.zero.map cv)) (sz:=i.sz) (arr:=arr) M1 e (fun x hx=>by rw[Wm hx];simp [k7])
  (by rw[gH,V7];exact V0 _ iR) (fun a j x hx=>let ⟨c,c1,c2,c3⟩:=mV a j x hx;⟨c,c1,c2,c3.bM KO⟩)
 refine⟨_,_,_,_,_,cY,KO.trans this.1,this.2,?_,h⟩
 exact .so ⟨0,true,i.sz,List.replicate N (i.zero.map cv)⟩ (by simp) (VA _) rfl (fun _=>.inr ⟨w.heap.size,0,cap,e,arr,b9 _ _ _,heap_alloc_new w.drew _,by simp,iR,by simp [gH]⟩)
def vQ (x:Option V) (Lk:Int):Option Int :=
 match x with
 |none=>some Lk
 |some v=>Dl v
def pw (cs:List D) (z l n:Nat):List (List D):=(List.range n).map fun i=>(cs.drop ((l+i)*z)).take z
def jO (P:Program) (t:TypeId) (x:V) (lo hi mx:Option V) (K:V→Prop):Prop :=
 match LM P t with
 |none=>False
 |some (len,z)=>match x,vQ lo 0,vQ hi len,mx with
  |.d (.el cs),some l,some h,none=>((0≤l∧l≤h∧h≤len)∧cs.length=len*z)∧K (.d (.sl (pw cs z l.toNat (h-l).toNat)))
  |_,_,_,_=>False
def jq (P:Program) (t:TypeId) (x:V) (lo hi mx:Option V) (s:List Obj) (K:V→Prop):Prop :=
 match A5 P t with
 |none=>jO P t x lo hi mx K
 |some z=>match gG s x with
  |none=>False
  |some es=>match vQ lo 0,vQ hi es.length with
   |some l,some h=>(0≤l∧l≤h∧h≤es.length)∧match x,mx with
    |.d (.sl aL),none=>(l=0∨∀e∈aL,e.length=z)∧K (.d (.sl ((aL.drop l.toNat).take (h-l).toNat)))
    |.fu aL,none=>(l=0∨∀e∈aL,e.length=z)∧K (bif aL.isEmpty then .fu [] else .d (.sl ((aL.drop l.toNat).take (h-l).toNat)))
    |.d (.sl aL),some m=>hi.isSome=true∧Dl m=some h∧(l=0∨∀e∈aL,e.length=z)∧K (.fu ((aL.drop l.toNat).take (h-l).toNat))
    |.so id g Ns _,none=>pB s id g fun o=>o.sz=z∧if l=0∨l<h then K (.so id g (Ns+l.toNat) (h-l).toNat) else K (.d (.sl []))
    |_,_=>False
   |_,_=>False
theorem du.sub {O:Nat→Prop}{w:World}{aL:List (List D)}{a:Option Addr}{n cap l h m z:Nat} (hr:du O w (.sl aL) (.slice a n cap)) (hl:l≤h) (hh:h≤aL.length) (hm:h≤m) (nu:m≤cap)
  (hz:l=0∨∀e∈aL,e.length=z):du O w (.sl ((aL.drop l).take (h-l))) (.slice (if m=l then a else a.map (·.add (l*z))) (h-l) (m-l)):=by
 have hlen:((aL.drop l).take (h-l)).length=h-l:=by simp;omega
 cases hr with
 |nil =>
  simp only[VK]at hh
  obtain rfl:h=0:=by omega
  obtain rfl:l=0:=by omega
  obtain rfl:m=0:=by omega
  exact .nil
 |sl _ ad _ sz f h1 h2 h3 h4 h5 =>
  by_cases Tg:m=l
  ·rw[if_pos Tg]
   have e0:(aL.drop l).take (h-l)=[]:=VD (by rw[hlen];omega)
   have:=du.sl (O:=O) (w:=w) [] ad (m-l) sz f (by simp) (by simp) (by simp) (by simp) (by simp)
   rw[e0,show h-l=0 by omega]
   exact this
  ·rw[if_neg Tg]
   simp only[Wc]
   have mV:∀(i:Nat) (e:List D),((aL.drop l).take (h-l))[i]?=some e→aL[l+i]?=some e:=by
    intro i e he
    rw[VW]at he
    split at he
    ·rw[Wf]at he;exact he
    ·cases he
   have Rw:∀e∈(aL.drop l).take (h-l),e.length=sz:=fun e he=>h3 e (List.mem_of_mem_drop (Wo he))
   have hmul:∀(i j:Nat) (x:D),(((aL.drop l).take (h-l))[i]?.bind (·[j]?))=some x→(aL[l+i]?.bind (·[j]?))=some x∧ad.add (l*z)=⟨ad.block,ad.off+l*sz,none⟩:=by
    intro i j x hx
    cases he:((aL.drop l).take (h-l))[i]? with
    |none=>rw[he]at hx;cases hx
    |some e =>
     rw[he]at hx
     have vj:=mV i e he
     refine⟨by rw[vj];exact hx,?_⟩
     have gf:aL≠[]:=by intro h';subst h';simp at vj
     rw[fC (h2 gf)]
     rcases hz with rfl|hz
     ·simp
     ·have:=hz e (Vy vj)
      have:=h3 e (Vy vj)
      rw[show z=sz by omega]
   have:=du.sl (O:=O) (w:=w) ((aL.drop l).take (h-l)) (ad.add (l*z)) (m-l) sz (fun i j=>f (l+i) j) (by rw[hlen];omega)
    (fun gf=>by
     have SH:aL≠[]:=by intro h';subst h';simp at gf
     rw[fC (h2 SH)]) Rw
    (fun i j x hx=>by
     obtain⟨g1,g2⟩:=hmul i j x hx
     have:=h4 (l+i) j x g1
     rw[g2]
     simpa [Wa,Wk]using this)
    (fun i j x hx=>h5 (l+i) j x (hmul i j x hx).1)
   rw[hlen]at this
   exact this
theorem sG {σ:Gh}{s:List Obj}{w:World}{x:Option V}{u:Option Value}{Lk n:Int} (hr:∀v,x=some v→∃c,u=some c∧aJ σ s w v c) (hn:x=none→u=none) (h:vQ x Lk=some n) :
  (u=none∧n=Lk)∨∃k,u=some (.int k n):=by
 cases x with
 |none=>simp only[vQ,Option.some.injEq]at h;exact .inl ⟨hn rfl,h.symm⟩
 |some v =>
  obtain⟨c,rfl,hc⟩:=hr v rfl
  obtain⟨k,rfl⟩:=zt hc h
  exact .inr ⟨k,rfl⟩
theorem uL {P:Program}{t e:TypeId}{ti:TypeInfo} (hu:P.underlying t=some (.slice e)) (hi:P.info? e=some ti) {a:Option Addr}{n cap:Nat}{lo hi' mx:Option Value}{l h m:Nat}
  (hlo:(lo=none∧l=0)∨∃k,lo=some (.int k l)) (UR:(hi'=none∧h=n)∨∃k,hi'=some (.int k h)) (QY:(mx=none∧m=cap)∨(hi'≠none∧∃k,mx=some (.int k m)))
  (hlh:l≤h) (T3:h≤m) (Ud:m≤cap) (w:World) :
  (Instr.sliceAt t (.slice a n cap) lo hi' mx).run P w=.ok (.slice (if m=l then a else a.map (·.add (l*ti.size))) (h-l) (m-l)) w:=by
 have b:∀(k:IntKind) (i y:Nat) (c:BoundsCode),i≤y→(Instr.sliceBound (.int k i) y c).run P w=.ok i w:=by
  intro k i y c hh
  simp [Instr.sliceBound,asIntOf,hh]
 rcases hlo with ⟨rfl,rfl⟩|⟨kl,rfl⟩ <;> rcases UR with ⟨rfl,rfl⟩|⟨kh,rfl⟩ <;> rcases QY with ⟨rfl,rfl⟩|⟨gf,km,rfl⟩ <;>
  first
   |(exact absurd rfl gf)
   |simp [Instr.sliceAt,Instr.slice,run_underlying hu,Instr.sliceBounds,b,hlh,T3,Ud,sizeOf,typeInfo,hi]
theorem du.chunk {O:Nat→Prop}{w:World}{cs:List D}{a:Addr}{len z l n:Nat} (hr:du O w (.el cs) (.pointer (some a))) (hlen:cs.length=len*z) (hn:l+n≤len) :
  du O w (.sl (pw cs z l n)) (.slice (some (if len=l then a else a.add (l*z))) n (len-l)):=by
 cases hr with
 |el _ _ f h1 h2 h3 =>
  have hl:(pw cs z l n).length=n:=by simp [pw]
  by_cases ma:n=0
  ·subst ma
   exact du.sl [] _ (len-l) 0 (fun _ _=>undef) (by simp) (by simp) (by simp) (by simp) (by simp)
  ·rw[if_neg (by omega),fC h1]
   have mV:∀(i j:Nat) (x:D),((pw cs z l n)[i]?.bind (·[j]?))=some x→cs[(l+i)*z+j]?=some x:=by
    intro i j x hx
    unfold pw at hx
    rw[VB]at hx
    cases hi:(List.range n)[i]? with
    |none=>rw[hi]at hx;cases hx
    |some k =>
     have hk:k=i:=by
      have:=List.getElem?_eq_some_iff.1 hi
      obtain⟨h1,h2⟩:=this
      simpa using h2.symm
     subst hk
     rw[hi]at hx
     simp only[Wc,Wd]at hx
     rw[VW]at hx
     split at hx
     ·rwa [Wf]at hx
     ·cases hx
   have:=du.sl (O:=O) (w:=w) (pw cs z l n) ⟨a.block,a.off+l*z,none⟩ (len-l) z (fun i j=>f ((l+i)*z+j)) (by omega) (fun _=>rfl)
    (fun e he=>by
     unfold pw at he
     obtain⟨i,hi,rfl⟩:=List.mem_map.1 he
     have hi:=List.mem_range.1 hi
     have:=V0 z (show l+i+1≤len by omega)
     rw[Wa,Nat.one_mul]at this
     rw[V3,List.length_drop]
     omega)
    (fun i j x hx=>by
     have:=h2 _ x (mV i j x hx)
     have e:a.off+((l+i)*z+j)=a.off+l*z+i*z+j:=by rw[Wa];omega
     rw[e]at this
     exact this)
    (fun i j x hx=>h3 _ x (mV i j x hx))
   rw[hl]at this
   exact this
theorem yY {P:Program}{t:TypeId}{x:V}{ux:Value}{lo hi mx:Option V}{ul uh um:Option Value}{σ:Gh}{s:List Obj}{w:World}{K:V→Prop} (hx:aJ σ s w x ux)
  (hl:∀v,lo=some v→∃c,ul=some c∧aJ σ s w v c) (Q7:lo=none→ul=none) (hh:∀v,hi=some v→∃c,uh=some c∧aJ σ s w v c) (Q1:hi=none→uh=none)
  (hmn:mx=none→um=none) (h:jO P t x lo hi mx K) :
  ∃v c,(Instr.sliceAt t ux ul uh um).run P w=.ok c w∧aJ σ s w v c∧K v:=by
 unfold jO at h
 split at h
 ·exact h.elim
 rename_i len z hz
 obtain⟨e,ti,e1,e2,e3⟩:=xR hz
 split at h
 case h_2=>exact h.elim
 rename_i cs l h' dg RH
 obtain⟨⟨⟨b1,b2,b3⟩,hlen⟩,hK⟩:=h
 obtain⟨L,rfl⟩:=Wl b1
 obtain⟨H,rfl⟩:=Wl (show 0≤h' by omega)
 have wq:=sG hl Q7 dg
 have OF:=sG hh Q1 RH
 have ly:=hmn rfl
 subst ly
 cases hx with|d hx=>?_
 have PR:=hx
 cases hx with|el _ a f h1 h2 h3=>?_
 have hr:=du.chunk (l:=L) (n:=H-L) PR hlen (by omega)
 rw[← e3]at hr
 refine⟨_,_,?_,.d hr,by rw[show ((H:Int)-L).toNat=H-L by omega,VR,← e3]at hK;exact hK⟩
 have b:∀(k:IntKind) (i y:Nat) (c:BoundsCode),i≤y→(Instr.sliceBound (.int k i) y c).run P w=.ok i w:=by
  intro k i y c hh
  simp [Instr.sliceBound,asIntOf,hh]
 have hL:L≤H:=by omega
 have hH:H≤len:=by omega
 rcases wq with ⟨rfl,wq⟩|⟨kl,rfl⟩ <;> rcases OF with ⟨rfl,OF⟩|⟨kh,rfl⟩
 ·obtain rfl:L=0:=by omega
  obtain rfl:H=len:=by omega
  simp [Instr.sliceAt,run_underlying e1,Instr.sureAddr,Instr.sliceBounds,sizeOf,typeInfo,e2]
 ·obtain rfl:L=0:=by omega
  simp [Instr.sliceAt,run_underlying e1,Instr.sureAddr,Instr.sliceBounds,b,hH,sizeOf,typeInfo,e2]
 ·obtain rfl:H=len:=by omega
  simp [Instr.sliceAt,run_underlying e1,Instr.sureAddr,Instr.sliceBounds,b,hL,sizeOf,typeInfo,e2]
 ·simp [Instr.sliceAt,run_underlying e1,Instr.sureAddr,Instr.sliceBounds,b,hL,hH,sizeOf,typeInfo,e2]
theorem C2 {P:Program}{t:TypeId}{x:V}{ux:Value}{lo hi mx:Option V}{ul uh um:Option Value}{σ:Gh}{s:List Obj}{w:World}{K:V→Prop} (hx:aJ σ s w x ux)
  (hl:∀v,lo=some v→∃c,ul=some c∧aJ σ s w v c) (Q7:lo=none→ul=none) (hh:∀v,hi=some v→∃c,uh=some c∧aJ σ s w v c) (Q1:hi=none→uh=none)
  (hm:∀v,mx=some v→∃c,um=some c∧aJ σ s w v c) (hmn:mx=none→um=none) (h:jq P t x lo hi mx s K) :
  ∃v c,(Instr.sliceAt t ux ul uh um).run P w=.ok c w∧aJ σ s w v c∧K v:=by
 unfold jq at h
 split at h
 ·exact yY hx hl Q7 hh Q1 hmn h
 rename_i z hz
 obtain⟨e,ti,e1,e2,e3⟩:=C8 hz
 split at h
 ·exact h.elim
 rename_i es AA
 split at h
 case h_2=>exact h.elim
 rename_i l h' dg RH
 obtain⟨⟨b1,b2,b3⟩,h⟩:=h
 obtain⟨L,rfl⟩:=Wl b1
 obtain⟨H,rfl⟩:=Wl (show 0≤h' by omega)
 have wq:=sG hl Q7 dg
 have OF:=sG hh Q1 RH
 have OR:(ul=none∧L=0)∨∃k,ul=some (.int k (L:Int)):=wq.imp (fun h=>⟨h.1,by omega⟩) id
 have e4:((H:Int)-L).toNat=H-L:=by omega
 simp only[VR,e4]at h
 have data:∀(aL:List (List D)),du (Own σ s) w (.sl aL) ux→es.length=aL.length→(L=0∨∀e∈aL,e.length=z)→∀(M:Nat),H≤M→(∀a n cap,ux=.slice a n cap→M≤cap∧((um=none∧M=cap)∨(uh≠none∧∃k,um=some (.int k (M:Int))))) →
   ∃c a cap,ux=.slice a aL.length cap∧(Instr.sliceAt t ux ul uh um).run P w=.ok c w∧du (Own σ s) w (.sl ((aL.drop L).take (H-L))) c∧c=.slice (if M=L then a else a.map (·.add (L*z))) (H-L) (M-L):=by
  intro aL hd hlen SK M hM wN
  have hu:∃a n cap,ux=.slice a n cap:=by cases hd <;> exact⟨_,_,_,rfl⟩
  obtain⟨a,n,cap,rfl⟩:=hu
  have hn:n=aL.length∧aL.length≤cap:=by cases hd <;> simp_all
  obtain⟨rfl,gD⟩:=hn
  obtain⟨c1,c2⟩:=wN a _ cap rfl
  have cY:=uL (P:=P) e1 e2 (a:=a) (n:=aL.length) (cap:=cap) (lo:=ul) (hi':=uh) (mx:=um) (l:=L) (h:=H) (m:=M) OR (OF.imp (fun h=>⟨h.1,by omega⟩) id) c2 (by omega) hM c1 w
  rw[e3]at cY
  exact⟨_,a,cap,rfl,cY,du.sub hd (by omega) (by omega) hM c1 SK,rfl⟩
 split at h
 ·
  rename_i aL
  have hd:du (Own σ s) w (.sl aL) ux:=lK hx rfl
  have hlen:es.length=aL.length:=by simp only[gG,Option.some.injEq]at AA;rw[← AA];simp
  have hu:∃a n cap,ux=.slice a n cap:=by cases hd <;> exact⟨_,_,_,rfl⟩
  obtain⟨a,n,cap,rfl⟩:=hu
  have hn:n=aL.length∧aL.length≤cap:=by cases hd <;> simp_all
  obtain⟨c,_,_,_,r1,r2,_⟩:=data aL hd hlen (h.1.imp (by omega) id) cap (by omega) (fun a' n' lJ he=>by cases he;exact⟨VA _,.inl ⟨hmn rfl,rfl⟩⟩)
  exact⟨_,c,r1,.d r2,h.2⟩
 ·rename_i aL
  have hd:du (Own σ s) w (.sl aL) ux:=lK hx rfl
  have hlen:es.length=aL.length:=by simp only[gG,Option.some.injEq]at AA;rw[← AA];simp
  have hu:∃a n cap,ux=.slice a n cap:=by cases hd <;> exact⟨_,_,_,rfl⟩
  obtain⟨a,n,cap,rfl⟩:=hu
  have hn:n=aL.length∧aL.length≤cap:=by cases hd <;> simp_all
  have cI:cap=aL.length:=by
   cases hx with|fu _=>rfl
  obtain⟨c,a',lJ,hq,r1,r2,r3⟩:=data aL hd hlen (h.1.imp (by omega) id) cap (by omega) (fun a' n' lJ he=>by cases he;exact⟨VA _,.inl ⟨hmn rfl,rfl⟩⟩)
  cases aL with
  |nil =>
   have hL:L=0:=by simp only[VK]at hlen;omega
   have hH:H=0:=by simp only[VK]at hlen;omega
   subst hL;subst hH;subst cI
   refine⟨_,c,r1,?_,h.2⟩
   rw[r3]at r2 ⊢
   exact .fu (aL:=[]) r2
  |cons x xs=>exact⟨_,c,r1,.d r2,h.2⟩
 ·rename_i aL m
  obtain⟨h1,h2,h3,h⟩:=h
  have hd:du (Own σ s) w (.sl aL) ux:=lK hx rfl
  have hlen:es.length=aL.length:=by simp only[gG,Option.some.injEq]at AA;rw[← AA];simp
  obtain⟨cm,TO,N1⟩:=hm m rfl
  obtain⟨km,rfl⟩:=zt N1 h2
  have RA:uh≠none:=by
   cases hi with
   |none=>simp at h1
   |some v=>obtain⟨c,rfl,_⟩:=hh v rfl;simp
  have hu:∃a n cap,ux=.slice a n cap:=by cases hd <;> exact⟨_,_,_,rfl⟩
  obtain⟨a,n,cap,rfl⟩:=hu
  have hn:n=aL.length∧aL.length≤cap:=by cases hd <;> simp_all
  obtain⟨c,a',lJ,_,r1,r2,r3⟩:=data aL hd hlen (h3.imp (by omega) id) H (VA _) (fun a' n' lJ he=>by cases he;exact⟨by omega,.inr ⟨RA,km,TO⟩⟩)
  refine⟨_,c,r1,?_,h⟩
  have Bk:((aL.drop L).take (H-L)).length=H-L:=by simp;omega
  rw[r3]at r2 ⊢
  have:aJ σ s w (.fu ((aL.drop L).take (H-L))) (.slice (if H=L then a' else a'.map (·.add (L*z))) ((aL.drop L).take (H-L)).length ((aL.drop L).take (H-L)).length):=.fu (by rw[Bk];exact r2)
  rw[Bk]at this
  exact this
 ·rename_i Vn g Ns n
  obtain⟨o,ho,hg,Qz,hK⟩:=dT h
  clear h
  cases hx with|so o' jj xg Jc hk=>?_
  rw[ho]at jj;cases jj
  have hn:es.length=n:=by
   simp only[gG,ho,hg]at AA
   split at AA
   ·simp only[Option.some.injEq]at AA;rw[← AA];simp;omega
   ·cases AA
  rcases hk hg with ⟨eB,⟨aa,rfl⟩,rfl,rfl⟩|⟨b,bs,cp,E,arr,ga,Ty,rfl,sa,hfit⟩
  ·obtain rfl:L=0:=by omega
   obtain rfl:H=0:=by omega
   have cY:=uL (P:=P) e1 e2 (a:=aa) (n:=0) (cap:=0) (lo:=ul) (hi':=uh) (mx:=um) (l:=0) (h:=0) (m:=0) OR (OF.imp (fun h=>⟨h.1,rfl⟩) id) (.inl ⟨hmn rfl,rfl⟩) (by omega) (by omega) (by omega) w
   rw[if_pos (.inl rfl)]at hK
   refine⟨_,_,cY,?_,hK⟩
   exact .so o ho xg (by simp [Value.oneCell']) (fun _=>.inl ⟨eB,⟨aa,by simp⟩,rfl,rfl⟩)
  ·have cY:=uL (P:=P) e1 e2 (a:=some ⟨b,bs+Ns*o.sz,none⟩) (n:=n) (cap:=cp) (lo:=ul) (hi':=uh) (mx:=um) (l:=L) (h:=H) (m:=cp) OR (OF.imp (fun h=>⟨h.1,by omega⟩) id) (.inl ⟨hmn rfl,rfl⟩) (by omega) (by omega) (by omega) w
   by_cases aT:(L:Int)=0∨(L:Int)<(H:Int)
   case neg =>
    rw[if_neg aT]at hK
    obtain rfl:H=L:=by omega
    refine⟨_,_,cY,.d ?_,hK⟩
    have Jh:∃a',(if cp=H then some (⟨b,bs+Ns*o.sz,none⟩:Addr) else (some (⟨b,bs+Ns*o.sz,none⟩:Addr)).map (·.add (H*ti.size)))=some a':=by split <;> exact⟨_,rfl⟩
    obtain⟨a',LS⟩:=Jh
    rw[LS,Wv]
    exact du.sl [] a' _ 0 (fun _ _=>undef) (by simp) (by simp) (by simp) (by simp) (by simp)
   rw[if_pos aT]at hK
   refine⟨_,_,cY,?_,hK⟩
   refine .so o ho xg (by simp [Value.oneCell']) (fun _=>.inr ⟨b,bs,cp-L,E,arr,ga,Ty,?_,by omega,?_⟩)
   ·rcases aT with h0|h0
    ·obtain rfl:L=0:=by omega
     simp [Addr.add]
    ·rw[if_neg (by omega)]
     simp only[Wc]
     rw[fC rfl,e3,Qz,Wa]
     simp [Wk]
   ·rw[show Ns+L+(cp-L)=Ns+cp by omega];exact hfit
 ·exact h.elim
def DE (P:Program) (t:TypeId) (x:V) (K:V→Prop):Prop :=
 match P.underlying t with
 |some (.slice _)=>match x with
  |.fu aL=>K (.d (.sc (.int .i64 aL.length)))
  |_=>False
 |_=>False
theorem H0 {P:Program}{t ty:TypeId}{x:V}{ux:Value}{σ:Gh}{s:List Obj}{w:World}{K:V→Prop} (hx:aJ σ s w x ux) (h:DE P t x K) :
  ∃v c,(Builtin.cap_ #[t] ty #[ux]).run P w=.ok c w∧aJ σ s w v c∧K v:=by
 unfold DE at h
 split at h
 ·rename_i e hu
  split at h
  ·rename_i aL
   cases hx with|fu _=>?_
   exact⟨_,.int .i64 aL.length,by simp [Builtin.cap_,run_underlying hu,goInt],.d (.sc _ rfl),h⟩
  ·exact h.elim
 ·exact h.elim
def jB (P:Program) (t:TypeId) (x:V) (s:List Obj) (K:V→Prop):Prop :=
 match P.underlying t with
 |some (.slice _)=>match x with
  |.d (.sl aL)=>K (.d (.sc (.int .i64 aL.length)))
  |.fu aL=>K (.d (.sc (.int .i64 aL.length)))
  |.so id g _ n=>pB s id g fun _=>K (.d (.sc (.int .i64 n)))
  |_=>False
 |some .string=>match x with
  |.d (.sc (.string b))=>K (.d (.sc (.int .i64 b.size)))
  |_=>False
 |_=>False
theorem G5 {P:Program}{t ty:TypeId}{x:V}{ux:Value}{σ:Gh}{s:List Obj}{w:World}{K:V→Prop} (hx:aJ σ s w x ux) (h:jB P t x s K) :
  ∃v c,(Builtin.len_ #[t] ty #[ux]).run P w=.ok c w∧aJ σ s w v c∧K v:=by
 unfold jB at h
 split at h
 ·rename_i e hu
  have fin:∀(a:Option Addr) (n cap:Nat),ux=.slice a n cap→K (.d (.sc (.int .i64 n)))→∃v c,(Builtin.len_ #[t] ty #[ux]).run P w=.ok c w∧aJ σ s w v c∧K v:=by
   rintro a n cap rfl hk
   exact⟨_,.int .i64 n,by simp [Builtin.len_,run_underlying hu,goInt],.d (.sc _ rfl),hk⟩
  split at h
  ·have hd:=lK hx rfl
   cases hd <;> exact fin _ _ _ rfl h
  ·have hd:=lK hx rfl
   cases hd <;> exact fin _ _ _ rfl h
  ·obtain⟨o,ho,hg,h⟩:=dT h
   cases hx with|so o' jj xg Jc hk=>?_
   rw[ho]at jj;cases jj
   rcases hk hg with ⟨eB,⟨aa,rfl⟩,rfl,rfl⟩|⟨b,bs,cp,E,arr,ga,Ty,rfl,sa,hfit⟩
   ·exact fin _ _ _ rfl h
   ·exact fin _ _ _ rfl h
  ·exact h.elim
 ·rename_i hu
  split at h
  ·cases hx with|d hx=>?_
   cases hx with|sc _ _=>?_
   exact⟨_,_,by simp [Builtin.len_,run_underlying hu,goInt],.d (.sc _ rfl),h⟩
  ·exact h.elim
 ·exact h.elim
open Go.ChangeMaps (setBlock)
def D2 (k:IntKind):List (List V)→Option (List (Int×Bool))
 |[]=>some []
 |[.d (.sc (.int k' n)),.d (.sc (.bool b))]::rest=>if k'=k then (D2 k rest).map ((n,b)::·) else none
 |_::_=>none
theorem I1 {k:IntKind}{a v:Value}{rest:List (List V)}{l:List (Int×Bool)} (h:D2 k ([V.d (.sc a),V.d (.sc v)]::rest)=some l):∃n b l',a=.int k n∧v=.bool b∧l=(n,b)::l'∧D2 k rest=some l':=by
 unfold D2 at h
 split at h
 ·rename_i he;cases he
 ·rename_i k' n b PA he
  simp only[List.cons.injEq,V.d.injEq,D.sc.injEq,and_true]at he
  obtain⟨⟨rfl,rfl⟩,rfl⟩:=he
  split at h
  ·rename_i hk
   subst hk
   obtain⟨l',h1,h2⟩:=Option.map_eq_some_iff.1 h
   exact⟨n,b,l',rfl,rfl,h2.symm,h1⟩
  ·cases h
 ·cases h
def AR (l:List (Int×Bool)) (n:Int):Option Bool:=(l.find? fun p=>n == p.1).map (·.2)
def Cg (P:Program) (t:TypeId):Option IntKind :=
 match P.underlying t with
 |some (.map key elem)=>match P.underlying key,(P.info? elem).bind (·.zero) with
  |some (.int k),some (.bool false)=>some k
  |_,_=>none
 |_=>none
theorem xl {P:Program}{t:TypeId}{k:IntKind} (h:Cg P t=some k):∃key elem ti,P.underlying t=some (.map key elem)∧P.underlying key=some (.int k)∧P.info? elem=some ti∧ti.zero=some (.bool false):=by
 unfold Cg at h
 split at h
 ·rename_i key elem hu
  split at h
  ·rename_i k' h1 h2
   cases h
   obtain⟨ti,h3,h4⟩:=Option.bind_eq_some_iff.1 h2
   exact⟨key,elem,ti,hu,h1,h3,h4⟩
  ·cases h
 ·cases h
theorem pI {k k0:IntKind}{n:Int}:∀(es:List MapEntry) (l:List (Int×Bool)) (i:Nat),D2 k (es.map fun e=>[V.d (.sc e.key),V.d (.sc e.val)])=some l →
  (AR l n=none∧Instr.findNow (.int k0) (.int k n) es i=some none)∨∃b j,AR l n=some b∧Instr.findNow (.int k0) (.int k n) es i=some (some (j,.bool b))
 |[],l,i,h=>by
  simp only[VO,D2,Option.some.injEq]at h
  subst h
  exact .inl ⟨rfl,rfl⟩
 |e::es,l,i,h=>by
  rw[VP]at h
  obtain⟨m,b,l',h1,h2,rfl,h4⟩:=I1 h
  unfold Instr.findNow
  rw[h1]
  simp only[Instr.sameNow,if_true]
  by_cases No:n=m
  ·subst No
   refine .inr ⟨b,i,by simp [AR],?_⟩
   simp [h2]
  ·have hb:(n == m)=false:=by simpa using No
   rw[hb]
   simp only
   have hg:AR ((m,b)::l') n=AR l' n:=by simp [AR,hb]
   rw[hg]
   exact pI es l' (i+1) h4
theorem run_checkKey {P:Program}{t:TypeId}{k:IntKind} (hu:P.underlying t=some (.int k)) (b:Bool) (n:Int) (w:World):(Instr.checkKey b 10000 t (.int k n)).run P w=.ok () w:=by
 have h:∀d:Nat,(Instr.checkKey b (d+1) t (.int k n)).run P w=.ok () w:=fun d=>by simp [Instr.checkKey,run_underlying hu]
 exact h 9999
theorem wh {σ:Gh}{s:List Obj}{w:World} (hI:Inv σ s w) {id g:Nat}{u:Value}{o:Obj} (hm:aJ σ s w (.mp id g) u) (ho:s[id]?=some o) (hg:o.g=g) :
  ∃b es c,σ id=some (b,0)∧w.heap[b]?=some (.map es c)∧o.aL=iP es∧u=.map (some b):=by
 cases hm with
 |mp o' jj xg hu hk =>
  rw[ho]at jj;cases jj
  obtain⟨b,h1,hM,h2⟩:=hk hg
  rcases hI.content _ o ho with (⟨h3,_⟩|⟨b',es,c,h3,h4,h5⟩)|⟨b',base,arr,E,h3,h4,_⟩
  ·rw[h1]at h3;cases h3
  ·rw[h1]at h3;cases h3
   exact⟨b,es,c,h1,h4,h5,h2⟩
  ·rw[h1]at h3;cases h3
   exact(D4.notM ⟨arr,E,h4⟩ hM).elim
def vk (k:IntKind):List (List V)→Option (List (Int×Fn))
 |[]=>some []
 |[.d (.sc (.int k' n)),.d (.sc (.func fn ⟨[]⟩ ⟨[]⟩))]::rest=>if k'=k then (vk k rest).map ((n,fn)::·) else none
 |_::_=>none
theorem G8 {k:IntKind}{a v:Value}{rest:List (List V)}{l:List (Int×Fn)} (h:vk k ([V.d (.sc a),V.d (.sc v)]::rest)=some l):∃n fn l',a=.int k n∧v=.func fn #[] #[]∧l=(n,fn)::l'∧vk k rest=some l':=by
 unfold vk at h
 split at h
 ·rename_i he;cases he
 ·rename_i k' n b PA he
  simp only[List.cons.injEq,V.d.injEq,D.sc.injEq,and_true]at he
  obtain⟨⟨rfl,rfl⟩,rfl⟩:=he
  split at h
  ·rename_i hk
   subst hk
   obtain⟨l',h1,h2⟩:=Option.map_eq_some_iff.1 h
   exact⟨n,b,l',rfl,rfl,h2.symm,h1⟩
  ·cases h
 ·cases h
def u7 (l:List (Int×Fn)) (n:Int):Option Fn:=(l.find? fun p=>n == p.1).map (·.2)
def xj (P:Program) (t:TypeId):Option IntKind :=
 match P.underlying t with
 |some (.map key elem)=>match P.underlying key,(P.info? elem).bind (·.zero) with
  |some (.int k),some .nilFunc=>some k
  |_,_=>none
 |_=>none
theorem u9 {P:Program}{t:TypeId}{k:IntKind} (h:xj P t=some k):∃key elem,P.underlying t=some (.map key elem)∧P.underlying key=some (.int k):=by
 unfold xj at h
 split at h
 ·rename_i key elem hu
  split at h
  ·rename_i k' h1 h2
   cases h
   exact⟨key,elem,hu,h1⟩
  ·cases h
 ·cases h
theorem nX {k k0:IntKind}{n:Int}:∀(es:List MapEntry) (l:List (Int×Fn)) (i:Nat),vk k (es.map fun e=>[V.d (.sc e.key),V.d (.sc e.val)])=some l →
  (u7 l n=none∧Instr.findNow (.int k0) (.int k n) es i=some none)∨∃b j,u7 l n=some b∧Instr.findNow (.int k0) (.int k n) es i=some (some (j,.func b #[] #[]))
 |[],l,i,h=>by
  simp only[VO,vk,Option.some.injEq]at h
  subst h
  exact .inl ⟨rfl,rfl⟩
 |e::es,l,i,h=>by
  rw[VP]at h
  obtain⟨m,b,l',h1,h2,rfl,h4⟩:=G8 h
  unfold Instr.findNow
  rw[h1]
  simp only[Instr.sameNow,if_true]
  by_cases No:n=m
  ·subst No
   refine .inr ⟨b,i,by simp [u7],?_⟩
   simp [h2]
  ·have hb:(n == m)=false:=by simpa using No
   rw[hb]
   simp only
   have hg:u7 ((m,b)::l') n=u7 l' n:=by simp [u7,hb]
   rw[hg]
   exact nX es l' (i+1) h4
def mI (P:Program) (t:TypeId) (s:List Obj) (m k:V) (K:V→Prop):Prop :=
 match xj P t with
 |none=>False
 |some ik=>match m with
  |.mp id g=>match k with
   |.d (.sc (.int k' n))=>pB s id g fun o=>k'=ik∧match (vk ik o.aL).bind fun l=>u7 l n with
    |none=>False
    |some fn=>K (.cl fn [] [])
   |_=>False
  |_=>False
theorem DY {P:Program}{t:TypeId}{σ:Gh}{s:List Obj}{w:World}{m k:V}{um uk:Value}{K:V→Prop} (hI:Inv σ s w) (hm:aJ σ s w m um) (hk:aJ σ s w k uk) (h:mI P t s m k K) :
  ∃v c,(Instr.lookup t um uk false).run P w=.ok c w∧aJ σ s w v c∧K v:=by
 unfold mI at h
 split at h
 ·exact h.elim
 rename_i ik JE
 obtain⟨key,elem,t1,t2⟩:=u9 JE
 split at h
 case h_2=>exact h.elim
 rename_i id g
 split at h
 case h_2=>exact h.elim
 rename_i k' n
 obtain⟨o,ho,hg,rfl,h⟩:=dT h
 split at h
 ·exact h.elim
 rename_i fn QE
 obtain⟨l,hl,QH⟩:=Option.bind_eq_some_iff.1 QE
 obtain⟨b,es,c,h1,h2,h3,rfl⟩:=wh hI hm ho hg
 cases hk with|d hk=>?_
 cases hk with|sc _ _=>?_
 rw[h3]at hl
 refine⟨_,.func fn #[] #[],?_,.cl rfl (fun i x hx=>by simp at hx) rfl (fun i x hx=>by simp at hx),h⟩
 rcases nX (k0:=k') (n:=n) es.toList l 0 hl with ⟨g1,g2⟩|⟨b',j,g1,g2⟩
 ·rw[QH]at g1;cases g1
 ·rw[QH]at g1;cases g1
  simp [Instr.lookup,run_underlying t1,run_underlying t2,MapKept.run_getObj_map h2,run_checkKey t2,Instr.findKey,g2]
def w6 (P:Program) (t:TypeId) (s:List Obj) (m k x:V) (K:List Obj→Prop):Prop :=
 match xj P t with
 |none=>False
 |some ik=>match m with
  |.mp id g=>match k with
   |.d (.sc (.int k' n))=>match x with
    |.cl fn [] []=>pB s id g fun o=>(o.live=true∧k'=ik)∧match vk ik o.aL with
     |none=>False
     |some l=>u7 l n=none∧K (s.set id { o with aL:=o.aL++[[.d (.sc (.int k' n)),.d (.sc (.func fn ⟨[]⟩ ⟨[]⟩))]] })
    |_=>False
   |_=>False
  |_=>False
theorem EL {P:Program}{t:TypeId}{σ:Gh}{s:List Obj}{w:World}{m k x:V}{um uk ux:Value}{K:List Obj→Prop} (hI:Inv σ s w) (hm:aJ σ s w m um) (hk:aJ σ s w k uk) (hx:aJ σ s w x ux) (h:w6 P t s m k x K) :
  ∃s' w',(Instr.mapUpdate t um uk ux).run P w=.ok () w'∧bc σ s w σ s' w'∧Inv σ s' w'∧K s':=by
 unfold w6 at h
 split at h
 ·exact h.elim
 rename_i ik JE
 obtain⟨key,elem,t1,t2⟩:=u9 JE
 split at h
 case h_2=>exact h.elim
 rename_i id g
 split at h
 case h_2=>exact h.elim
 rename_i k' n
 split at h
 case h_2=>exact h.elim
 rename_i fn
 obtain⟨o,ho,hg,⟨pC,rfl⟩,h⟩:=dT h
 split at h
 ·exact h.elim
 rename_i l hl
 obtain⟨hn,h⟩:=h
 obtain⟨b,es,c,h1,h2,h3,rfl⟩:=wh hI hm ho hg
 cases hk with|d hk=>?_
 cases hk with|sc _ _=>?_
 cases hx with|@cl _ _ _ f' c' q1 _ q2 _=>?_
 obtain rfl:f'=#[]:=Array.eq_empty_of_size_eq_zero (by simpa using q1)
 obtain rfl:c'=#[]:=Array.eq_empty_of_size_eq_zero (by simpa using q2)
 rw[h3]at hl
 have QE:Instr.findNow (.int k') (.int k' n) es.toList 0=some none:=by
  rcases nX (k0:=k') (n:=n) es.toList l 0 hl with ⟨g1,g2⟩|⟨b',j,g1,g2⟩
  ·exact g2
  ·rw[hn]at g1;cases g1
 have cC:(setObj b (.map (es.push { key:=.int k' n,val:=.func fn #[] #[],born:=c }) (c+1))).run P w=.ok () (setBlock w b (.map (es.push { key:=.int k' n,val:=.func fn #[] #[],born:=c }) (c+1))):=by
  simp [setObj,Sem.run,h2,setBlock]
 have cY:(Instr.mapUpdate t (.map (some b)) (.int k' n) (.func fn #[] #[])).run P w=.ok () (setBlock w b (.map (es.push { key:=.int k' n,val:=.func fn #[] #[],born:=c }) (c+1))):=by
  simp [Instr.mapUpdate,run_underlying t1,run_underlying t2,MapKept.run_getObj_map h2,run_checkKey t2,Instr.findKey,QE,cC]
 have:=lp (p:=σ id) (w':=setBlock w b (.map (es.push { key:=.int k' n,val:=.func fn #[] #[],born:=c }) (c+1))) (o':={ o with aL:=o.aL++[[.d (.sc (.int k' n)),.d (.sc (.func fn ⟨[]⟩ ⟨[]⟩))]] }) hI ho pC rfl rfl rfl (by simp [setBlock])
  (fun b1 _ gf=>Go.ChangeMaps.heap_setBlock_other h2 _ (fun e=>gf 0 (by rw[h1,e])))
  (fun b1 iI arr E he hh=>by
   rw[h1]at he;cases he
   rw[h2]at hh;cases hh)
  (fun b1 iI he hm=>by
   rw[h1]at he;cases he
   exact⟨_,_,Go.ChangeMaps.heap_setBlock_same h2 _⟩)
  (VA _) (fun _=>⟨rfl,rfl⟩) (fun b1 iI he=>.inl ⟨iI,he⟩)
  (fun hE=>.inl (.inr ⟨b,_,_,h1,Go.ChangeMaps.heap_setBlock_same h2 _,by simp [h3,iP]⟩))
 rw[qC]at this
 exact⟨_,_,cY,this.1,this.2,h⟩
def gZ (P:Program) (t:TypeId) (s:List Obj) (m k:V) (K:V→Prop):Prop :=
 match Cg P t with
 |none=>mI P t s m k K
 |some ik=>match m with
  |.mp id g=>match k with
   |.d (.sc (.int k' n))=>pB s id g fun o=>k'=ik∧match D2 ik o.aL with
    |none=>False
    |some l=>K (.d (.sc (.bool ((AR l n).getD false))))
   |_=>False
  |_=>False
theorem AG {P:Program}{t:TypeId}{σ:Gh}{s:List Obj}{w:World}{m k:V}{um uk:Value}{K:V→Prop} (hI:Inv σ s w) (hm:aJ σ s w m um) (hk:aJ σ s w k uk) (h:gZ P t s m k K) :
  ∃v c,(Instr.lookup t um uk false).run P w=.ok c w∧aJ σ s w v c∧K v:=by
 unfold gZ at h
 split at h
 ·exact DY hI hm hk h
 rename_i ik JE
 obtain⟨key,elem,ti,t1,t2,t3,t4⟩:=xl JE
 split at h
 case h_2=>exact h.elim
 rename_i id g
 split at h
 case h_2=>exact h.elim
 rename_i k' n
 obtain⟨o,ho,hg,rfl,h⟩:=dT h
 split at h
 ·exact h.elim
 rename_i l hl
 obtain⟨b,es,c,h1,h2,h3,rfl⟩:=wh hI hm ho hg
 cases hk with|d hk=>?_
 cases hk with|sc _ _=>?_
 rw[h3]at hl
 refine⟨_,.bool ((AR l n).getD false),?_,.d (.sc _ rfl),h⟩
 rcases pI (k0:=k') (n:=n) es.toList l 0 hl with ⟨g1,g2⟩|⟨b',j,g1,g2⟩
 ·simp [Instr.lookup,run_underlying t1,run_underlying t2,MapKept.run_getObj_map h2,run_checkKey t2,Instr.findKey,g1,g2,zeroValue,typeInfo,t3,t4]
 ·simp [Instr.lookup,run_underlying t1,run_underlying t2,MapKept.run_getObj_map h2,run_checkKey t2,Instr.findKey,g1,g2]
def rB (P:Program) (t:TypeId) (s:List Obj) (m k x:V) (K:List Obj→Prop):Prop :=
 match Cg P t with
 |none=>w6 P t s m k x K
 |some ik=>match m with
  |.mp id g=>match k with
   |.d (.sc (.int k' n))=>match x with
    |.d (.sc (.bool b))=>pB s id g fun o=>(o.live=true∧k'=ik)∧match D2 ik o.aL with
     |none=>False
     |some l=>AR l n=none∧K (s.set id { o with aL:=o.aL++[[.d (.sc (.int k' n)),.d (.sc (.bool b))]] })
    |_=>False
   |_=>False
  |_=>False
theorem zp {P:Program}{t:TypeId}{σ:Gh}{s:List Obj}{w:World}{m k x:V}{um uk ux:Value}{K:List Obj→Prop} (hI:Inv σ s w) (hm:aJ σ s w m um) (hk:aJ σ s w k uk) (hx:aJ σ s w x ux) (h:rB P t s m k x K) :
  ∃s' w',(Instr.mapUpdate t um uk ux).run P w=.ok () w'∧bc σ s w σ s' w'∧Inv σ s' w'∧K s':=by
 unfold rB at h
 split at h
 ·exact EL hI hm hk hx h
 rename_i ik JE
 obtain⟨key,elem,ti,t1,t2,t3,t4⟩:=xl JE
 split at h
 case h_2=>exact h.elim
 rename_i id g
 split at h
 case h_2=>exact h.elim
 rename_i k' n
 split at h
 case h_2=>exact h.elim
 rename_i bv
 obtain⟨o,ho,hg,⟨pC,rfl⟩,h⟩:=dT h
 split at h
 ·exact h.elim
 rename_i l hl
 obtain⟨hn,h⟩:=h
 obtain⟨b,es,c,h1,h2,h3,rfl⟩:=wh hI hm ho hg
 cases hk with|d hk=>?_
 cases hk with|sc _ _=>?_
 cases hx with|d hx=>?_
 cases hx with|sc _ _=>?_
 rw[h3]at hl
 have QE:Instr.findNow (.int k') (.int k' n) es.toList 0=some none:=by
  rcases pI (k0:=k') (n:=n) es.toList l 0 hl with ⟨g1,g2⟩|⟨b',j,g1,g2⟩
  ·exact g2
  ·rw[hn]at g1;cases g1
 have cC:(setObj b (.map (es.push { key:=.int k' n,val:=.bool bv,born:=c }) (c+1))).run P w=.ok () (setBlock w b (.map (es.push { key:=.int k' n,val:=.bool bv,born:=c }) (c+1))):=by
  simp [setObj,Sem.run,h2,setBlock]
 have cY:(Instr.mapUpdate t (.map (some b)) (.int k' n) (.bool bv)).run P w=.ok () (setBlock w b (.map (es.push { key:=.int k' n,val:=.bool bv,born:=c }) (c+1))):=by
  simp [Instr.mapUpdate,run_underlying t1,run_underlying t2,MapKept.run_getObj_map h2,run_checkKey t2,Instr.findKey,QE,cC]
 have:=lp (p:=σ id) (w':=setBlock w b (.map (es.push { key:=.int k' n,val:=.bool bv,born:=c }) (c+1))) (o':={ o with aL:=o.aL++[[.d (.sc (.int k' n)),.d (.sc (.bool bv))]] }) hI ho pC rfl rfl rfl (by simp [setBlock])
  (fun b1 _ gf=>Go.ChangeMaps.heap_setBlock_other h2 _ (fun e=>gf 0 (by rw[h1,e])))
  (fun b1 iI arr E he hh=>by
   rw[h1]at he;cases he
   rw[h2]at hh;cases hh)
  (fun b1 iI he hm=>by
   rw[h1]at he;cases he
   exact⟨_,_,Go.ChangeMaps.heap_setBlock_same h2 _⟩)
  (VA _) (fun _=>⟨rfl,rfl⟩) (fun b1 iI he=>.inl ⟨iI,he⟩)
  (fun hE=>.inl (.inr ⟨b,_,_,h1,Go.ChangeMaps.heap_setBlock_same h2 _,by simp [h3,iP]⟩))
 rw[qC]at this
 exact⟨_,_,cY,this.1,this.2,h⟩
def lz (P:Program) (t:TypeId) (r:Option Operand) (s:List Obj) (K:V→List Obj→Prop):Prop :=
 r=none∧K (.mp s.length 0) (s++[⟨0,true,2,[]⟩])
theorem yp {P:Program}{t:TypeId}{σ:Gh}{s:List Obj}{w:World}{r:Option Operand}{K:V→List Obj→Prop} (hI:Inv σ s w) (h:lz P t r s K) :
  ∃v c σ' s' w',(Instr.makeMap t none).run P w=.ok c w'∧bc σ s w σ' s' w'∧Inv σ' s' w'∧aJ σ' s' w' v c∧K v s':=by
 have:=lR (p:=some (w.heap.size,0)) (o':=⟨0,true,2,[]⟩) (w':=w.alloc (.map #[] 0)) hI rfl rfl rfl (by simp) (fun b hb=>Go.RowKit.Below.heap_alloc w _ b hb) (fun b base h=>by cases h;exact VA _)
  (fun hE=>.inl (.inr ⟨w.heap.size,#[],0,rfl,heap_alloc_new w _,rfl⟩))
 refine⟨_,.map (some w.heap.size),_,_,_,?_,this.1,this.2,.mp ⟨0,true,2,[]⟩ (by simp) (VA _) rfl (fun _=>⟨w.heap.size,b9 _ _ _,⟨_,_,heap_alloc_new w _⟩,rfl⟩),h.2⟩
 simp [Instr.makeMap]
def gq (es:List (List V)) (lo:Nat) (ns:List (List V)):List (List V):=es.take lo++ns++es.drop (lo+ns.length)
theorem vS (es:List (List V)) (lo:Nat) (ns:List (List V)) (h:lo+ns.length≤es.length) (j:Nat) :
  (gq es lo ns)[j]?=if lo≤j∧j<lo+ns.length then ns[j-lo]? else es[j]?:=by
 have hl:(es.take lo).length=lo:=by simp;omega
 unfold gq
 by_cases h1:j<lo
 ·rw[if_neg (by omega),VY,VH (by omega),VW,if_pos h1]
 ·by_cases h2:j<lo+ns.length
  ·rw[if_pos (by omega),VY,VF (by omega),hl,VH (by omega)]
  ·rw[if_neg (by omega),VF (by simp;omega),Wf]
   congr 1
   simp
   omega
theorem yJ (es:List (List V)) (lo:Nat) (ns:List (List V)) (h:lo+ns.length≤es.length):(gq es lo ns).length=es.length:=by
 simp [gq];omega
theorem y5 {σ:Gh}{s:List Obj}{w:World} (hI:Inv σ s w) {id:Nat}{o:Obj} (ho:s[id]?=some o) (hl:o.live=true) {lo:Nat}{ns:List (List V)} (hfit:lo+ns.length≤o.aL.length) (hz:∀e∈ns,e.length=o.sz)
  {b base:Nat} (hs:σ id=some (b,base)) (hC:D4 w b) {us:List Value} (QO:us.length=ns.length*o.sz)
  (hrep:∀(i j:Nat) (y:V),(ns[i]?.bind (·[j]?))=some y→∃c,us[i*o.sz+j]?=some c∧c.oneCell'=true∧aJ σ s w y c) (NB:∀u∈us,u.oneCell'=true) (P:Program) :
  ∃w',(storeCells ⟨b,base+lo*o.sz,none⟩ us).run P w=.ok () w'∧bc σ s w σ (s.set id { o with aL:=gq o.aL lo ns }) w' ∧
   Inv σ (s.set id { o with aL:=gq o.aL lo ns }) w':=by
 rcases hI.content _ o ho with h1|⟨b',cj,arr,E,h1,h2,h3,h4,h5⟩
 ·exact(h1.yW hs hC).elim
 rw[hs]at h1;cases h1
 have Si:lo*o.sz+ns.length*o.sz≤o.aL.length*o.sz:=by
  rw[← Wa];exact V0 _ hfit
 have cY:=run_storeCells_at P b (base+lo*o.sz) E us 0 arr w h2 (by rw[QO];omega) NB
 simp only[Nat.add_zero]at cY
 generalize mJ:(arr.toList.take (base+lo*o.sz)++us++arr.toList.drop (base+lo*o.sz+us.length)).toArray=cH at cY
 have ia:cH.size=arr.size:=by rw[← mJ];simp;omega
 have mV:∀p,cH[p]?=if base+lo*o.sz≤p∧p<base+lo*o.sz+us.length then us[p-(base+lo*o.sz)]? else arr[p]?:=by
  intro p
  have hl:(arr.toList.take (base+lo*o.sz)).length=base+lo*o.sz:=by simp;omega
  rw[← mJ,List.getElem?_toArray]
  by_cases g1:p<base+lo*o.sz
  ·rw[if_neg (by omega),VY,VH (by omega),VW,if_pos g1,V4]
  ·by_cases g2:p<base+lo*o.sz+us.length
   ·rw[if_pos (by omega),VY,VF (by omega),hl,VH (by omega)]
   ·rw[if_neg (by omega),VF (by simp;omega),Wf,V4]
    congr 1
    simp
    omega
 refine⟨_,cY,?_⟩
 have:=lp (p:=σ id) (w':=w.setRow b cH) (o':={ o with aL:=gq o.aL lo ns }) hI ho hl rfl rfl rfl (by simp)
  (fun b1 _ gf=>setRow_other w b b1 cH (fun e=>gf base (by rw[hs,e])))
  (fun b1 iI Nr E1 he hh=>by
   rw[hs]at he;cases he
   rw[h2]at hh;cases hh
   exact⟨cH,setRow_heap w b arr cH E (0,0) h2,ia⟩)
  (fun b1 iI he hm=>by
   rw[hs]at he;cases he
   exact(hC.notM hm).elim)
  (VA _) (fun _=>⟨rfl,rfl⟩) (fun b1 iI he=>.inl ⟨iI,he⟩)
  (fun hE=>.inr ⟨b,base,cH,E,hs,setRow_heap w b arr cH E (0,0) h2,(by
   intro e he
   simp only at he
   unfold gq at he
   rcases List.mem_append.1 he with he|he
   ·rcases List.mem_append.1 he with he|he
    ·exact h3 e (Wo he)
    ·exact hz e he
   ·exact h3 e (List.mem_of_mem_drop he)),(by simp only[yJ _ _ _ hfit];omega),(by
   intro i j x hx
   simp only at hx ⊢
   rw[qC]at hE ⊢
   rw[vS _ _ _ hfit]at hx
   split at hx
   ·rename_i yh
    obtain⟨c,k1,k2,k3⟩:=hrep _ j x hx
    refine⟨c,?_,k2,k3.bM hE⟩
    have aT:=(List.getElem?_eq_some_iff.1 k1).1
    have hmul:i*o.sz=lo*o.sz+(i-lo)*o.sz:=by rw[← Wa];congr 1;omega
    rw[mV,if_pos (by omega),← k1]
    congr 1
    omega
   ·rename_i yh
    obtain⟨c,k1,k2,k3⟩:=h5 i j x hx
    refine⟨c,?_,k2,k3.bM hE⟩
    rw[mV,if_neg ?_]
    ·exact k1
    ·have La:j<o.sz:=by
      cases he:o.aL[i]? with
      |none=>rw[he]at hx;cases hx
      |some e =>
       rw[he]at hx
       have:=(List.getElem?_eq_some_iff.1 hx).1
       rw[h3 e (Vy he)]at this
       exact this
     rw[QO]
     rcases VX i lo with aT|iR
     ·have:=V0 o.sz (show i+1≤lo from aT)
      rw[Wa,Nat.one_mul]at this
      omega
     ·have:=V0 o.sz (show lo+ns.length≤i by omega)
      rw[Wa]at this
      omega)⟩)
 rw[qC]at this
 exact this
def oW (P:Program) (t:TypeId) (a x:V) (s:List Obj) (K:V→List Obj→Prop):Prop :=
 match iE P t with
 |none=>False
 |some (_,i)=>match gG s x with
  |none=>False
  |some ns=>(∀e∈ns,e.length=i.sz)∧match a with
   |.so id g lo n=>pB s id g fun o=>(o.live=true∧o.sz=i.sz∧lo+n≤o.aL.length∧ns.length≤n)∧K (.d (.sc (.int .i64 ns.length))) (s.set id { o with aL:=gq o.aL lo ns })
   |_=>False
theorem Nj {P:Program}{t e:TypeId}{σ:Gh}{s:List Obj}{w:World}{x:V}{ux:Value}{ns:List (List V)}{z:Nat} (hu:P.underlying t=some (.slice e)) (hI:Inv σ s w) (hx:aJ σ s w x ux) (tJ:gG s x=some ns) (hz:∀e∈ns,e.length=z) :
  ∃news,Src P z t ux ns.length news w∧∀(i j:Nat) (y:V),(ns[i]?.bind (·[j]?))=some y→∃c,news[i*z+j]?=some c∧c.oneCell'=true∧aJ σ s w y c:=by
 obtain⟨ax,rG,rfl,x0,NZ,news,n1,n2,n3,n4⟩:=il hI hx tJ hz
 refine⟨news,?_,n4⟩
 cases ax with
 |none =>
  have:ns=[]:=x0 rfl
  subst this
  have hn:news=[]:=VD (by simpa using n1)
  subst hn
  exact Src.ofNil w hu rG
 |some ad=>exact Src.ofSlice w hu ad ns.length rG news n1 (n3 ad rfl) n2
theorem xK (es:List (List V)) (lo:Nat):gq es lo []=es:=by simp [gq]
theorem EJ {P:Program}{t ty:TypeId}{a x:V}{ua ux:Value}{σ:Gh}{s:List Obj}{w:World}{K:V→List Obj→Prop} (hI:Inv σ s w) (ha:aJ σ s w a ua) (hx:aJ σ s w x ux)
  (h:oW P t a x s K):∃v r s' w',(Builtin.copy_ #[t,t] ty #[ua,ux]).run P w=.ok r w'∧bc σ s w σ s' w'∧Inv σ s' w'∧aJ σ s' w' v r∧K v s':=by
 unfold oW at h
 split at h
 ·exact h.elim
 rename_i e i hti
 obtain⟨hu,hi⟩:=jd hti
 split at h
 ·exact h.elim
 rename_i ns tJ
 obtain⟨hz,h⟩:=h
 obtain⟨ti,d,z,k1,k2,k3,k4,k5,k6,k7,k8,k9⟩:=fW hi
 obtain⟨news,rp,n4⟩:=Nj hu hI hx tJ hz
 split at h
 case h_2=>exact h.elim
 rename_i id g lo n
 obtain⟨o,ho,hg,⟨hl,gH,hfit,hle⟩,hK⟩:=dT h
 have m6:Nat.min ns.length n=ns.length:=Nat.min_eq_left hle
 have kG:=rp.cells
 cases ha with|so o' jj xg Jc hk=>?_
 rw[ho]at jj;cases jj
 rcases hk hg with ⟨hs,⟨ad,rfl⟩,rfl,rfl⟩|⟨b,base,cap,E,arr,hs,hh,rfl,gD,TB⟩
 ·have hn:ns=[]:=VD (by omega)
  subst hn
  have Qr:news=[]:=VD (by simpa using rp.newsLen)
  subst Qr
  have cC:s.set id { o with aL:=gq o.aL 0 [] }=s:=by
   rw[xK]
   apply List.ext_getElem?
   intro k
   by_cases hk:k=id
   ·subst hk
    rw[V8 (List.getElem?_eq_some_iff.1 ho).1,ho]
   ·rw[Wg (Ne.symm hk)]
  rw[cC]at hK
  refine⟨_,.int .i64 0,s,w,?_,bc.refl _ _ _,hI,.d (.sc _ rfl),hK⟩
  have hlen:=rp.len w
  simp only[VK]at hlen kG
  cases ad <;> simp [Builtin.copy_,run_underlying hu,sizeOf,typeInfo,k1,k4,hlen,kG,goInt,storeCells]
 ·obtain⟨w',r1,r2,r3⟩:=y5 hI ho hl (lo:=lo) (ns:=ns) (by omega) (by rw[gH];exact hz) hs ⟨arr,E,hh⟩ (us:=news) (by rw[gH];exact rp.newsLen) (by rw[gH];exact n4) rp.one P
  refine⟨_,.int .i64 ns.length,_,w',?_,r2,r3,.d (.sc _ rfl),hK⟩
  have hlen:=rp.len w
  simp [Builtin.copy_,run_underlying hu,sizeOf,typeInfo,k1,k4,hlen,m6,kG,goInt,r1]
def kW (P:Program) (t:TypeId) (x:V) (s:List Obj) (K:V→List Obj→Prop):Prop :=
 match iE P t with
 |none=>False
 |some (_,i)=>match x with
  |.so id g lo n=>pB s id g fun o=>(o.live=true∧o.sz=i.sz∧lo+n≤o.aL.length)∧K (.tu []) (s.set id { o with aL:=gq o.aL lo (List.replicate n (i.zero.map cv)) })
  |.d (.sl [])=>K (.tu []) s
  |_=>False
theorem KI {s:List Obj}{id:Nat}{o:Obj} (ho:s[id]?=some o):s.set id o=s:=by
 apply List.ext_getElem?
 intro k
 by_cases hk:k=id
 ·subst hk
  rw[V8 (List.getElem?_eq_some_iff.1 ho).1,ho]
 ·rw[Wg (Ne.symm hk)]
theorem Da {P:Program}{t ty:TypeId}{x:V}{ux:Value}{σ:Gh}{s:List Obj}{w:World}{K:V→List Obj→Prop} (hI:Inv σ s w) (hx:aJ σ s w x ux)
  (h:kW P t x s K):∃v r s' w',(Builtin.clear_ #[t] ty #[ux]).run P w=.ok r w'∧bc σ s w σ s' w'∧Inv σ s' w'∧aJ σ s' w' v r∧K v s':=by
 unfold kW at h
 split at h
 ·exact h.elim
 rename_i e i hti
 obtain⟨hu,hi⟩:=jd hti
 split at h
 case h_3=>exact h.elim
 case h_2 =>
  refine⟨_,.tuple #[],s,w,?_,bc.refl _ _ _,hI,.tu rfl (fun i x hx=>by simp at hx),h⟩
  cases hx with|d hd=>?_
  cases hd with
  |nil=>simp [Builtin.clear_,run_underlying hu]
  |sl _ ad _ sz f h1 h2 h3 h4 h5=>simp [Builtin.clear_,run_underlying hu]
 rename_i id g lo n
 obtain⟨o,ho,hg,⟨hl,gH,hfit⟩,hK⟩:=dT h
 obtain⟨ti,d,z,k1,k2,k3,k4,k5,k6,k7,k8,k9⟩:=fW hi
 have hz:∀w,(zeroValue e).run P w=.ok z w:=fun w=>by simp [zeroValue,typeInfo,k1,k3]
 have Tz:∀(s':List Obj) (w':World),aJ σ s' w' (.tu []) (.tuple #[]):=fun s' w'=>.tu rfl (fun i x hx=>by simp at hx)
 have zero:n=0→∃v r s' w',(Result.ok (Value.tuple #[]) w:Result Value)=.ok r w'∧bc σ s w σ s' w'∧Inv σ s' w'∧aJ σ s' w' v r∧K v s':=by
  rintro rfl
  refine⟨_,_,s,w,rfl,bc.refl _ _ _,hI,Tz _ _,?_⟩
  rw[List.replicate_zero,xK,KI ho]at hK
  exact hK
 cases hx with|so o' jj xg Jc hk=>?_
 rw[ho]at jj;cases jj
 rcases hk hg with ⟨hs,⟨ad,rfl⟩,rfl,rfl⟩|⟨b,base,cap,E,arr,hs,hh,rfl,gD,TB⟩
 ·obtain⟨v,r,s',w',e1,e2⟩:=zero rfl
  refine⟨v,r,s',w',?_,e2⟩
  rw[← e1]
  cases ad <;> simp [Builtin.clear_,run_underlying hu]
 ·rcases Nat.eq_zero_or_pos n with h0|h0
  ·obtain⟨v,r,s',w',e1,e2⟩:=zero h0
   refine⟨v,r,s',w',?_,e2⟩
   rw[← e1]
   subst h0
   simp [Builtin.clear_,run_underlying hu]
  ·have Oa:z.cells.size=i.sz:=by rw[← Ww,k6,k7]
   have Rd:Builtin.zeroCells z.cells n=(Array.range (n*i.sz)).map (z.cells[· % z.cells.size]!):=by unfold Builtin.zeroCells;rw[← Oa]
   have So:=wz hi σ s w n z k6
   obtain⟨r1,r2,r3⟩:=So
   obtain⟨w',q1,q2,q3⟩:=y5 hI ho hl (lo:=lo) (ns:=List.replicate n (i.zero.map cv)) (by rw[V7];omega) (fun e he=>by rw[Wm he,Vv,gH,k7]) hs ⟨arr,E,hh⟩ (us:=(Builtin.zeroCells z.cells n).toList)
    (by rw[V7,gH,Ww,size_zeroCells,Oa])
    (fun a j y hy=>by
     rw[gH]
     obtain⟨c,c1,c2,c3⟩:=r3 a j y hy
     refine⟨c,?_,c2,c3⟩
     rw[V4,Rd]
     exact c1)
    (fun u hu=>by
     rw[Rd,Array.toList_map,VS]at hu
     obtain⟨k,hk,rfl⟩:=hu
     have rb:k<n*i.sz:=by simpa using hk
     have hp:0<z.cells.size:=by
      rw[Oa]
      rcases Nat.eq_zero_or_pos i.sz with h'|h'
      ·rw[h']at rb;simp at rb
      ·exact h'
     have hm:=Nat.mod_lt k hp
     have mV:z.cells[k % z.cells.size]! = z.cells[k % z.cells.size]:=by simp [hm]
     rw[mV]
     exact k8 _ (by rw[← k6];exact Array.getElem_mem_toList hm)) P
   refine⟨_,_,_,w',?_,q2,q3,Tz _ _,hK⟩
   obtain⟨m,rfl⟩:∃m,n=m+1:=⟨n-1,by omega⟩
   simp [Builtin.clear_,run_underlying hu,hz,q1]
def gE (op:BinOp) (k:IntKind) (a b:Int):Int :=
 k.wrap (match op with
  |.and=>(BitVec.ofInt k.bits a &&& BitVec.ofInt k.bits b).toNat
  |.or=>(BitVec.ofInt k.bits a ||| BitVec.ofInt k.bits b).toNat
  |.xor=>(BitVec.ofInt k.bits a ^^^ BitVec.ofInt k.bits b).toNat
  |_=>(BitVec.ofInt k.bits a &&& ~~~BitVec.ofInt k.bits b).toNat)
def eP (op:BinOp) (k:IntKind) (a b:Int) (K:V→Prop):Prop :=
 match op with
 |.add=>K (.d (.sc (.int k (k.wrap (a+b)))))
 |.sub=>K (.d (.sc (.int k (k.wrap (a-b)))))
 |.mul=>K (.d (.sc (.int k (k.wrap (a*b)))))
 |.quo=>b≠0∧K (.d (.sc (.int k (k.wrap (a.tdiv b)))))
 |.rem=>b≠0∧K (.d (.sc (.int k (a.tmod b))))
 |.and=>K (.d (.sc (.int k (gE .and k a b))))
 |.or=>K (.d (.sc (.int k (gE .or k a b))))
 |.xor=>K (.d (.sc (.int k (gE .xor k a b))))
 |.eql=>K (.d (.sc (.bool (decide (a=b)))))
 |.neq=>K (.d (.sc (.bool (!decide (a=b)))))
 |.lss=>K (.d (.sc (.bool (decide (a<b)))))
 |.leq=>K (.d (.sc (.bool (decide (a≤b)))))
 |.gtr=>K (.d (.sc (.bool (decide (b<a)))))
 |.geq=>K (.d (.sc (.bool (decide (b≤a)))))
 |_=>False
def ml (s:List Obj):V→Prop
 |.d (.el _)=>True
 |.rf id g _ _=>pB s id g fun _=>True
 |.pp id g _ _ _ _=>pB s id g fun _=>True
 |_=>False
def KS (P:Program) (t:TypeId):Option (Nat×IntKind) :=
 match P.underlying t with
 |some (.array n e)=>match P.underlying e with
  |some (.int k)=>if (P.info? e).isSome=true∧P.cellsOf e=1∧P.eqGuardType P.depth t=false then some (n,k) else none
  |_=>none
 |_=>none
def LX (P:Program) (t:TypeId):Option IntKind :=
 match P.underlying t with
 |some (.struct fields)=>match fields.toList with
  |[a,b,c]=>match P.underlying a.type,P.underlying b.type,P.underlying c.type with
   | some (.int k), some (.int k'), some (.int Ua) => if (k' = k ∧ Ua = k ∧ a.offset = 0 ∧ b.offset = 1 ∧ c.offset = 2) ∧ (a.name ≠ "_" ∧ b.name ≠ "_" ∧ c.name ≠ "_") ∧ P.stoodInHeld t = false ∧ P.eqGuardType P.depth t = false then some k else none
   |_,_,_=>none
  |_=>none
 |_=>none
def ij (P:Program) (op:BinOp) (t:TypeId) (xs ys:List V) (K:V→Prop):Prop :=
 match xs,ys with
 |[.d (.sc (.int k1 a)),.d (.sc (.int k2 b))],[.d (.sc (.int k3 c)),.d (.sc (.int k4 d))]=>(KS P t=some (2,k1)∧k2=k1∧k3=k1∧k4=k1)∧match op with
  |.eql=>K (.d (.sc (.bool (a == c&&b == d))))
  |.neq=>K (.d (.sc (.bool (!(a == c&&b == d)))))
  |_=>False
 |[.d (.sc (.int k1 a)),.d (.sc (.int k2 b)),.d (.sc (.int k3 c))],[.d (.sc (.int k4 a')),.d (.sc (.int k5 b')),.d (.sc (.int k6 c'))]=>(LX P t=some k1∧k2=k1∧k3=k1∧k4=k1∧k5=k1∧k6=k1)∧match op with
  |.eql=>K (.d (.sc (.bool (a == a'&&(b == b'&&c == c')))))
  |_=>False
 |_,_=>False
def dC (P:Program) (op:BinOp) (t:TypeId) (s:List Obj) (x y:V) (K:V→Prop):Prop :=
 match x,y with
 |.d (.sc (.int k a)),.d (.sc (.int k' b))=>k=k'∧eP op k a b K
 |.d (.sc (.bool a)),.d (.sc (.bool b))=>P.underlying t=some .bool∧match op with
  |.eql=>K (.d (.sc (.bool (a == b))))
  |.neq=>K (.d (.sc (.bool (!(a == b)))))
  |_=>False
 |.d (.sc (.pointer none)),.d (.sc (.pointer none))=>(∃e,P.underlying t=some (.pointer e))∧match op with
  |.eql=>K (.d (.sc (.bool true)))
  |.neq=>K (.d (.sc (.bool false)))
  |_=>False
 |.ag xs,.ag ys=>ij P op t xs ys K
 |p,.d (.sc (.pointer none))=>ml s p∧(∃e,P.underlying t=some (.pointer e))∧match op with
  |.eql=>K (.d (.sc (.bool false)))
  |.neq=>K (.d (.sc (.bool true)))
  |_=>False
 |_,_=>False
def IV:Operand→Bool
 |.const (.slice none 0 0)=>true
 |_=>false
def ef (P:Program) (op:BinOp) (t:TypeId) (s:List Obj) (x:V) (K:V→Prop):Prop :=
 (∃e,P.underlying t=some (.slice e))∧op=.eql∧match x with
  |.d (.sl [])=>K (.d .ub)
  |.d (.sl (_::_))=>K (.d (.sc (.bool false)))
  |.fu []=>K (.d .ub)
  |.fu (_::_)=>K (.d (.sc (.bool false)))
  |.so id g _ 0=>pB s id g fun _=>K (.d .ub)
  |.so id g _ (_+1)=>pB s id g fun _=>K (.d (.sc (.bool false)))
  |_=>False
theorem E0 {σ:Gh}{s:List Obj}{w:World}{p:V}{u:Value} (hp:aJ σ s w p u) (h:ml s p):∃a,u=.pointer (some a):=by
 unfold ml at h
 split at h
 ·cases hp with|d hx=>?_
  cases hx with|el _ a _ _ _ _=>exact⟨a,rfl⟩
 ·obtain⟨o,ho,hg,_⟩:=dT h
  obtain⟨b,base,_,_,rfl⟩:=Fq hp ho hg
  exact⟨_,rfl⟩
 ·exact⟨_,hp.wV⟩
 ·exact h.elim
theorem run_equal_bool {P:Program}{t:TypeId} (hu:P.underlying t=some .bool) (a b:Bool) (w:World):(Op.equal t (.bool a) (.bool b)).run P w=.ok (a == b) w:=by
 have h:∀d:Nat,(Op.equalIn (d+1) t (.bool a) (.bool b)).run P w=.ok (a == b) w:=fun d=>by simp [Op.equalIn,run_underlying hu]
 exact h 9999
theorem yO {P:Program}{t e:TypeId} (hu:P.underlying t=some (.pointer e)) (w:World):(Op.equal t (.pointer none) (.pointer none)).run P w=.ok true w:=by
 have h:∀d:Nat,(Op.equalIn (d+1) t (.pointer none) (.pointer none)).run P w=.ok true w:=fun d=>by simp [Op.equalIn,run_underlying hu]
 exact h 9999
theorem yy {P:Program}{t e:TypeId} (hu:P.underlying t=some (.pointer e)) (a:Addr) (w:World):(Op.equal t (.pointer (some a)) (.pointer none)).run P w=.ok false w:=by
 have h:∀d:Nat,(Op.equalIn (d+1) t (.pointer (some a)) (.pointer none)).run P w=.ok false w:=fun d=>by simp [Op.equalIn,run_underlying hu]
 exact h 9999
theorem sh {P:Program}{t:TypeId} (hu:P.underlying t=some .bool) (a b:Bool) (w:World) (xo yo:Operand) :
  (do eqGuard .eql t xo yo (.bool a) (.bool b);binOp .eql t (.bool a) (.bool b):Sem Value).run P w=.ok (.bool (a == b)) w ∧
  (do eqGuard .neq t xo yo (.bool a) (.bool b);binOp .neq t (.bool a) (.bool b):Sem Value).run P w=.ok (.bool (!(a == b))) w:=by
 have h:=run_equal_bool hu a b w
 constructor <;> simp only[eqGuard,binOp,Sem.run_bind,Sem.run_pure,h,Result.andThen_ok,Vs,Vw,if_false]
theorem vd {P:Program}{t e:TypeId} (hu:P.underlying t=some (.pointer e)) (w:World) (xo yo:Operand) :
  (do eqGuard .eql t xo yo (.pointer none) (.pointer none);binOp .eql t (.pointer none) (.pointer none):Sem Value).run P w=.ok (.bool true) w ∧
  (do eqGuard .neq t xo yo (.pointer none) (.pointer none);binOp .neq t (.pointer none) (.pointer none):Sem Value).run P w=.ok (.bool false) w:=by
 have h:=yO hu w
 constructor <;> simp only[eqGuard,binOp,Sem.run_bind,Sem.run_pure,h,Result.andThen_ok,Vs,Vw,if_false]
theorem uY {P:Program}{t e:TypeId} (hu:P.underlying t=some (.pointer e)) (a:Addr) (w:World) (xo yo:Operand) :
  (do eqGuard .eql t xo yo (.pointer (some a)) (.pointer none);binOp .eql t (.pointer (some a)) (.pointer none):Sem Value).run P w=.ok (.bool false) w ∧
  (do eqGuard .neq t xo yo (.pointer (some a)) (.pointer none);binOp .neq t (.pointer (some a)) (.pointer none):Sem Value).run P w=.ok (.bool true) w:=by
 have h:=yy hu a w
 constructor <;> simp only[eqGuard,binOp,Sem.run_bind,Sem.run_pure,h,Result.andThen_ok,Vs,Vw,if_false,Vt]
theorem vD {P:Program}{t e:TypeId} (hu:P.underlying t=some (.slice e)) (a:Option Addr) (n c:Nat) (w:World):(Op.equal t (.slice a n c) (.slice none 0 0)).run P w=.ok a.isNone w:=by
 have h:∀d:Nat,(Op.equalIn (d+1) t (.slice a n c) (.slice none 0 0)).run P w=.ok a.isNone w:=fun d=>by cases a <;> simp [Op.equalIn,run_underlying hu]
 exact h 9999
theorem e7 {P:Program}{t e:TypeId} (hu:P.underlying t=some (.slice e)) (a:Option Addr) (n c:Nat) (w:World) (xo yo:Operand) :
  (do eqGuard .eql t xo yo (.slice a n c) (.slice none 0 0);binOp .eql t (.slice a n c) (.slice none 0 0):Sem Value).run P w=.ok (.bool a.isNone) w:=by
 have h:=vD hu a n c w
 simp only[eqGuard,binOp,Sem.run_bind,Sem.run_pure,h,Result.andThen_ok,Vs,Vw,if_false]
theorem DD {P:Program}{op:BinOp}{t:TypeId}{xo yo:Operand}{x:V}{ux:Value}{σ:Gh}{s:List Obj}{w:World}{K:V→Prop} (hx:aJ σ s w x ux) (h:ef P op t s x K) :
  ∃v c,(do eqGuard op t xo yo ux (.slice none 0 0);binOp op t ux (.slice none 0 0):Sem Value).run P w=.ok c w∧aJ σ s w v c∧K v:=by
 obtain⟨⟨e,hu⟩,rfl,h⟩:=h
 split at h
 ·cases hx with|d hx=>?_
  cases hx with
  |nil=>exact⟨_,_,e7 hu _ _ _ w xo yo,.d (.ub _),h⟩
  |sl _ a cap sz f h1 h2 h3 h4 h5=>exact⟨_,_,e7 hu _ _ _ w xo yo,.d (.ub _),h⟩
 ·cases hx with|d hx=>?_
  cases hx with
  |sl _ a cap sz f h1 h2 h3 h4 h5=>exact⟨_,_,e7 hu _ _ _ w xo yo,.d (.sc _ rfl),h⟩
 ·cases hx with|fu hx=>?_
  exact⟨_,_,e7 hu _ _ _ w xo yo,.d (.ub _),h⟩
 ·cases hx with|fu hx=>?_
  cases hx with
  |sl _ a cap sz f h1 h2 h3 h4 h5=>exact⟨_,_,e7 hu _ _ _ w xo yo,.d (.sc _ rfl),h⟩
 ·obtain⟨o,ho,hg,hK⟩:=dT h
  cases hx with|so o' jj xg Jc hk=>?_
  rw[ho]at jj;cases jj
  rcases hk hg with ⟨_,⟨a,rfl⟩,_,_⟩|⟨b,bs,cp,E,arr,_,_,rfl,_⟩
  ·exact⟨_,_,e7 hu _ _ _ w xo yo,.d (.ub _),hK⟩
  ·exact⟨_,_,e7 hu _ _ _ w xo yo,.d (.ub _),hK⟩
 ·obtain⟨o,ho,hg,hK⟩:=dT h
  cases hx with|so o' jj xg Jc hk=>?_
  rw[ho]at jj;cases jj
  rcases hk hg with ⟨_,_,_,h0⟩|⟨b,bs,cp,E,arr,_,_,rfl,_⟩
  ·omega
  ·exact⟨_,_,e7 hu _ _ _ w xo yo,.d (.sc _ rfl),hK⟩
 ·exact h.elim
theorem zg {P:Program}{t:TypeId}{n:Nat}{k:IntKind} (h:KS P t=some (n,k)):∃e i,P.underlying t=some (.array n e)∧P.underlying e=some (.int k)∧P.info? e=some i∧P.cellsOf e=1∧P.eqGuardType P.depth t=false:=by
 unfold KS at h
 split at h
 ·rename_i n' e hu
  split at h
  ·rename_i k' hk
   split at h
   ·rename_i hc
    cases h
    obtain⟨i,hi⟩:=Option.isSome_iff_exists.1 hc.1
    exact⟨e,i,hu,hk,hi,hc.2.1,hc.2.2⟩
   ·cases h
  ·cases h
 ·cases h
theorem yC {P:Program}{t:TypeId}{k:IntKind} (ha:KS P t=some (2,k)) (a b c d:Int) (w:World) :
  (Op.equal t (.agg #[.int k a,.int k b]) (.agg #[.int k c,.int k d])).run P w=.ok (a == c&&b == d) w:=by
 obtain⟨e,i,h1,h2,h3,h4,_⟩:=zg ha
 have h:∀n:Nat,(Op.equalIn (n+2) t (.agg #[.int k a,.int k b]) (.agg #[.int k c,.int k d])).run P w=.ok (a == c&&b == d) w:=by
  intro n
  rw[run_equalIn_array w (n+1) _ _ h1 h3,h4]
  have hi:∀(x y:Int),(Op.equalIn (n+1) e (.int k x) (.int k y)).run P w=.ok (x == y) w:=fun x y=>by simp [Op.equalIn,run_underlying h2]
  have hp:∀(xs:Array Value) (j:Nat) (v:Value),xs[j]?=some v→(part e xs j).run P w=.ok v w:=fun xs j v hv=>by simp [part,isAgg,run_underlying h2,hv]
  have r2:List.range 2=[0,1]:=rfl
  rw[r2]
  have p0:=hp #[.int k a,.int k b] 0 (.int k a) rfl
  have p1:=hp #[.int k a,.int k b] 1 (.int k b) rfl
  have q0:=hp #[.int k c,.int k d] 0 (.int k c) rfl
  have q1:=hp #[.int k c,.int k d] 1 (.int k d) rfl
  simp only[Op.eqItems,Sem.run_bind,Nat.zero_mul,Nat.one_mul,p0,q0,hi,Result.andThen_ok]
  cases Vm:(a == c)
  ·simp
  ·simp only[Vs,Vw,if_false,Sem.run_bind,p1,q1,hi,Result.andThen_ok]
   cases TB:(b == d) <;> simp
 exact h 9998
theorem Ah {P:Program}{t:TypeId}{k:IntKind} (h:LX P t=some k):∃fields a b c,P.underlying t=some (.struct fields)∧fields.toList=[a,b,c]∧P.underlying a.type=some (.int k)∧P.underlying b.type=some (.int k)∧P.underlying c.type=some (.int k) ∧
  (a.offset = 0 ∧ b.offset = 1 ∧ c.offset = 2) ∧ (a.name ≠ "_" ∧ b.name ≠ "_" ∧ c.name ≠ "_") ∧ P.stoodInHeld t = false ∧ P.eqGuardType P.depth t = false := by
 unfold LX at h
 split at h
 ·rename_i fields hu
  split at h
  ·rename_i a b c hl
   split at h
   ·rename_i k1 k2 k3 ha hb hc
    split at h
    ·rename_i hh
     cases h
     obtain⟨⟨rfl,rfl,o⟩,n,s1,s2⟩:=hh
     exact⟨fields,a,b,c,hu,hl,ha,hb,hc,o,n,s1,s2⟩
    ·cases h
   ·cases h
  ·cases h
 ·cases h
theorem yH {P:Program}{t:TypeId}{k:IntKind} (ht:LX P t=some k) (a b c a' b' c':Int) (w:World) :
  (Op.equal t (.agg #[.int k a,.int k b,.int k c]) (.agg #[.int k a',.int k b',.int k c'])).run P w=.ok (a == a'&&(b == b'&&c == c')) w:=by
 obtain⟨fields,fa,fb,fc,h1,h2,h3,h4,h5,⟨o1,o2,o3⟩,⟨n1,n2,n3⟩,s1,_⟩:=Ah ht
 have hf:fields=#[fa,fb,fc]:=by rw[← h2]
 have h:∀n:Nat,(Op.equalIn (n+2) t (.agg #[.int k a,.int k b,.int k c]) (.agg #[.int k a',.int k b',.int k c'])).run P w=.ok (a == a'&&(b == b'&&c == c')) w:=by
  intro n
  have hi:∀(e:TypeId) (x y:Int),P.underlying e=some (.int k)→(Op.equalIn (n+1) e (.int k x) (.int k y)).run P w=.ok (x == y) w:=fun e x y he=>by simp [Op.equalIn,run_underlying he]
  have hp:∀(e:TypeId) (xs:Array Value) (j:Nat) (v:Value),P.underlying e=some (.int k)→xs[j]?=some v→(part e xs j).run P w=.ok v w:=fun e xs j v he hv=>by simp [part,isAgg,run_underlying he,hv]
  have p0:=hp fa.type #[.int k a,.int k b,.int k c] 0 (.int k a) h3 rfl
  have p1:=hp fb.type #[.int k a,.int k b,.int k c] 1 (.int k b) h4 rfl
  have p2:=hp fc.type #[.int k a,.int k b,.int k c] 2 (.int k c) h5 rfl
  have q0:=hp fa.type #[.int k a',.int k b',.int k c'] 0 (.int k a') h3 rfl
  have q1:=hp fb.type #[.int k a',.int k b',.int k c'] 1 (.int k b') h4 rfl
  have q2:=hp fc.type #[.int k a',.int k b',.int k c'] 2 (.int k c') h5 rfl
  have e0:=hi fa.type a a' h3
  have e1:=hi fb.type b b' h4
  have e2:=hi fc.type c c' h5
  rw[show n+2=(n+1)+1 from rfl,Op.equalIn]
  subst hf
  generalize (a == a')=r0 at e0 ⊢
  generalize (b == b')=r1 at e1 ⊢
  generalize (c == c')=r2 at e2 ⊢
  simp [run_underlying h1,Sem.run_bind,s1,n1,n2,n3,o1,o2,o3,p0,p1,p2,q0,q1,q2,e0,e1,e2]
  cases r0 <;> cases r1 <;> cases r2 <;> simp
 exact h 9998
theorem H9 {P:Program}{op:BinOp}{t:TypeId}{xo yo:Operand}{xs ys:List V}{ux uy:Value}{σ:Gh}{s:List Obj}{w:World}{K:V→Prop} (hx:aJ σ s w (.ag xs) ux) (hy:aJ σ s w (.ag ys) uy) (h:ij P op t xs ys K) :
  ∃v c,(do eqGuard op t xo yo ux uy;binOp op t ux uy:Sem Value).run P w=.ok c w∧aJ σ s w v c∧K v:=by
 unfold ij at h
 split at h
 ·rename_i k1 a k2 b k3 c k4 d
  obtain⟨⟨ha,rfl,rfl,rfl⟩,h⟩:=h
  have two:∀{k:IntKind}{a b:Int}{u:Value},aJ σ s w (.ag [.d (.sc (.int k a)),.d (.sc (.int k b))]) u→u=.agg #[.int k a,.int k b]:=by
   intro k a b u hu
   cases hu with|ag h1 h2 h3=>?_
   rename_i arr
   have e0:=h3 0 _ rfl
   have e1:=h3 1 _ rfl
   generalize OO:arr.getD 0 undef=v0 at e0
   generalize R4:arr.getD 1 undef=v1 at e1
   cases e0 with|d e0=>?_
   cases e0 with|sc _ _=>?_
   cases e1 with|d e1=>?_
   cases e1 with|sc _ _=>?_
   congr 1
   have gH:arr.size=2:=h1
   apply Array.ext
   ·rw[gH];rfl
   ·intro i eK Qo
    have hi:i=0∨i=1:=by omega
    rcases hi with rfl|rfl
    ·have:arr[0]=arr.getD 0 undef:=by simp [Array.getD,gH]
     rw[this,OO];rfl
    ·have:arr[1]=arr.getD 1 undef:=by simp [Array.getD,gH]
     rw[this,R4];rfl
  rw[two hx,two hy]
  obtain⟨e,i,h1,h2,h3,h4,h5⟩:=zg ha
  have hr:=yC ha a b c d w
  split at h
  ·refine⟨_,_,?_,.d (.sc _ rfl),h⟩
   simp [eqGuard,binOp,Sem.run_bind,hr,Result.andThen_ok,h5]
  ·refine⟨_,_,?_,.d (.sc _ rfl),h⟩
   simp [eqGuard,binOp,Sem.run_bind,hr,Result.andThen_ok,h5]
  ·exact h.elim
 ·rename_i k1 a k2 b k3 c k4 a' k5 b' k6 c'
  obtain⟨⟨ht,rfl,rfl,rfl,rfl,rfl⟩,h⟩:=h
  have three:∀{k:IntKind}{a b c:Int}{u:Value},aJ σ s w (.ag [.d (.sc (.int k a)),.d (.sc (.int k b)),.d (.sc (.int k c))]) u→u=.agg #[.int k a,.int k b,.int k c]:=by
   intro k a b c u hu
   cases hu with|ag h1 h2 h3=>?_
   rename_i arr
   have e0:=h3 0 _ rfl
   have e1:=h3 1 _ rfl
   have e2:=h3 2 _ rfl
   generalize OO:arr.getD 0 undef=v0 at e0
   generalize R4:arr.getD 1 undef=v1 at e1
   generalize Uu:arr.getD 2 undef=v2 at e2
   cases e0 with|d e0=>?_
   cases e0 with|sc _ _=>?_
   cases e1 with|d e1=>?_
   cases e1 with|sc _ _=>?_
   cases e2 with|d e2=>?_
   cases e2 with|sc _ _=>?_
   congr 1
   have gH:arr.size=3:=h1
   apply Array.ext
   ·rw[gH];rfl
   ·intro i eK Qo
    have hi:i=0∨i=1∨i=2:=by omega
    rcases hi with rfl|rfl|rfl
    ·have:arr[0]=arr.getD 0 undef:=by simp [Array.getD,gH]
     rw[this,OO];rfl
    ·have:arr[1]=arr.getD 1 undef:=by simp [Array.getD,gH]
     rw[this,R4];rfl
    ·have:arr[2]=arr.getD 2 undef:=by simp [Array.getD,gH]
     rw[this,Uu];rfl
  rw[three hx,three hy]
  obtain⟨_,_,_,_,_,_,_,_,_,_,_,_,h5⟩:=Ah ht
  have hr:=yH ht a b c a' b' c' w
  split at h
  ·refine⟨_,_,?_,.d (.sc _ rfl),h⟩
   simp [eqGuard,binOp,Sem.run_bind,hr,Result.andThen_ok,h5]
  ·exact h.elim
 ·exact h.elim
theorem EH {P:Program}{op:BinOp}{t:TypeId}{xo yo:Operand}{x y:V}{ux uy:Value}{σ:Gh}{s:List Obj}{w:World}{K:V→Prop} (hx:aJ σ s w x ux) (hy:aJ σ s w y uy) (h:dC P op t s x y K) :
  ∃v c,(do eqGuard op t xo yo ux uy;binOp op t ux uy:Sem Value).run P w=.ok c w∧aJ σ s w v c∧K v:=by
 have bl:∀(b:Bool),K (.d (.sc (.bool b)))→(do eqGuard op t xo yo ux uy;binOp op t ux uy:Sem Value).run P w=.ok (.bool b) w →
   ∃v c,(do eqGuard op t xo yo ux uy;binOp op t ux uy:Sem Value).run P w=.ok c w∧aJ σ s w v c∧K v:=fun b hk hr=>⟨_,_,hr,.d (.sc _ rfl),hk⟩
 unfold dC at h
 split at h
 ·rename_i k a k' b
  obtain⟨rfl,h⟩:=h
  cases hx with|d hx=>?_
  cases hx with|sc _ _=>?_
  cases hy with|d hy=>?_
  cases hy with|sc _ _=>?_
  have it:∀(n:Int),K (.d (.sc (.int k n)))→(do eqGuard op t xo yo (.int k a) (.int k b);binOp op t (.int k a) (.int k b):Sem Value).run P w=.ok (.int k n) w →
   ∃v c,(do eqGuard op t xo yo (.int k a) (.int k b);binOp op t (.int k a) (.int k b):Sem Value).run P w=.ok c w∧aJ σ s w v c∧K v:=fun n hk hr=>⟨_,_,hr,.d (.sc _ rfl),hk⟩
  cases op <;> simp only[eP]at h
  case add=>exact it _ h (by simp [eqGuard,binOp,Op.intArith])
  case sub=>exact it _ h (by simp [eqGuard,binOp,Op.intArith])
  case mul=>exact it _ h (by simp [eqGuard,binOp,Op.intArith])
  case quo=>exact it _ h.2 (by simp [eqGuard,binOp,Op.intDiv,h.1])
  case rem=>exact it _ h.2 (by simp [eqGuard,binOp,Op.intDiv,h.1])
  case and=>exact it _ h (by simp [eqGuard,binOp,Op.intBits,gE])
  case or=>exact it _ h (by simp [eqGuard,binOp,Op.intBits,gE])
  case xor=>exact it _ h (by simp [eqGuard,binOp,Op.intBits,gE])
  case eql=>exact bl _ h (by simp [eqGuard,binOp,Op.intCmp];rfl)
  case neq=>exact bl _ h (by simp [eqGuard,binOp,Op.intCmp];rfl)
  case lss=>exact bl _ h (by simp [eqGuard,binOp,Op.intCmp])
  case leq=>exact bl _ h (by simp [eqGuard,binOp,Op.intCmp])
  case gtr=>exact bl _ h (by simp [eqGuard,binOp,Op.intCmp])
  case geq=>exact bl _ h (by simp [eqGuard,binOp,Op.intCmp])
 ·rename_i a b
  obtain⟨hu,h⟩:=h
  cases hx with|d hx=>?_
  cases hx with|sc _ _=>?_
  cases hy with|d hy=>?_
  cases hy with|sc _ _=>?_
  split at h
  ·exact bl _ h (sh hu a b w xo yo).1
  ·exact bl _ h (sh hu a b w xo yo).2
  ·exact h.elim
 ·obtain⟨⟨e,hu⟩,h⟩:=h
  cases hx with|d hx=>?_
  cases hx with|sc _ _=>?_
  cases hy with|d hy=>?_
  cases hy with|sc _ _=>?_
  split at h
  ·exact bl _ h (vd hu w xo yo).1
  ·exact bl _ h (vd hu w xo yo).2
  ·exact h.elim
 ·exact H9 hx hy h
 ·obtain⟨hp,⟨e,hu⟩,h⟩:=h
  obtain⟨ad,rfl⟩:=E0 hx hp
  cases hy with|d hy=>?_
  cases hy with|sc _ _=>?_
  split at h
  ·exact bl _ h (uY hu ad w xo yo).1
  ·exact bl _ h (uY hu ad w xo yo).2
  ·exact h.elim
 ·exact h.elim
def mf:BinOp→Bool
 |.shl=>true
 |.shr=>true
 |_=>false
def Sx (op:BinOp) (k:IntKind) (a b:Int):Int :=
 match op with
 |.shl=>k.wrap (a*2 ^ min b.toNat k.bits)
 |_=>a.fdiv (2 ^ min b.toNat k.bits)
def ov (op:BinOp) (x y:V) (K:V→Prop):Prop :=
 match x,y with
 |.d (.sc (.int k a)),.d (.sc (.int _ b))=>0≤b∧K (.d (.sc (.int k (Sx op k a b))))
 |_,_=>False
def mP (P:Program) (op:BinOp) (t:TypeId) (s:List Obj) (x y:V) (K:V→Prop):Prop :=
 match mf op with
 |true=>ov op x y K
 |false=>dC P op t s x y K
theorem Ij {P:Program}{op:BinOp}{t:TypeId}{xo yo:Operand}{x y:V}{ux uy:Value}{σ:Gh}{s:List Obj}{w:World}{K:V→Prop} (hx:aJ σ s w x ux) (hy:aJ σ s w y uy) (h:mP P op t s x y K) :
  ∃v c,(do eqGuard op t xo yo ux uy;binOp op t ux uy:Sem Value).run P w=.ok c w∧aJ σ s w v c∧K v:=by
 unfold mP at h
 split at h
 ·rename_i hs
  unfold ov at h
  split at h
  ·rename_i k a k' b
   obtain⟨hb,h⟩:=h
   cases hx with|d hx=>?_
   cases hx with|sc _ _=>?_
   cases hy with|d hy=>?_
   cases hy with|sc _ _=>?_
   have Ld:¬b<0:=by omega
   cases op <;> simp only[mf,Vw]at hs
   ·exact⟨_,_,by simp [eqGuard,binOp,Op.shift,Ld,Sx],.d (.sc _ rfl),h⟩
   ·exact⟨_,_,by simp [eqGuard,binOp,Op.shift,Ld,Sx],.d (.sc _ rfl),h⟩
  ·exact h.elim
 ·exact EH hx hy h
def vJ (op:UnOp) (x:V) (K:V→Prop):Prop :=
 match op,x with
 |.neg,.d (.sc (.int k n))=>K (.d (.sc (.int k (k.wrap (0-n)))))
 |.not,.d (.sc (.bool b))=>K (.d (.sc (.bool !b)))
 |_,_=>False
theorem JM {P:Program}{op:UnOp}{x:V}{ux:Value}{σ:Gh}{s:List Obj}{w:World}{K:V→Prop} (hx:aJ σ s w x ux) (h:vJ op x K) :
  ∃v c,(Op.unary op ux).run P w=.ok c w∧aJ σ s w v c∧K v:=by
 unfold vJ at h
 split at h
 ·cases hx with|d hx=>?_
  cases hx with|sc _ _=>?_
  exact⟨_,_,by simp [Op.unary,Op.intArith],.d (.sc _ rfl),h⟩
 ·cases hx with|d hx=>?_
  cases hx with|sc _ _=>?_
  exact⟨_,_,by simp [Op.unary],.d (.sc _ rfl),h⟩
 ·exact h.elim
def mU (P:Program) (src dst:TypeId) (x:V) (K:V→Prop):Prop :=
 match x with
 |.d (.sc (.int _ n))=>match P.underlying src,P.underlying dst with
  |some (.int _),some (.int k)=>K (.d (.sc (.int k (k.wrap n))))
  |_,_=>False
 |_=>False
theorem EO {P:Program}{src dst:TypeId}{x:V}{ux:Value}{σ:Gh}{s:List Obj}{w:World}{K:V→Prop} (hx:aJ σ s w x ux) (h:mU P src dst x K) :
  ∃v c,(convert src dst ux).run P w=.ok c w∧aJ σ s w v c∧K v:=by
 unfold mU at h
 split at h
 case h_2=>exact h.elim
 cases hx with|d hx=>?_
 cases hx with|sc _ _=>?_
 split at h
 case h_2=>exact h.elim
 rename_i h1 h2
 exact⟨_,_,by simp [convert,run_underlying h1,run_underlying h2,Conv.intToInt],.d (.sc _ rfl),h⟩
def eU (mn:Bool) (acc:V):List V→(V→Prop)→Prop
 |[],K=>K acc
 |y::rest,K=>match acc,y with
  |.d (.sc (.int k a)),.d (.sc (.int _ b))=>eU mn (.d (.sc (.int k (if mn then min a b else max a b)))) rest K
  |_,_=>False
theorem oe {P:Program}{mn:Bool}{σ:Gh}{s:List Obj}{w:World}:∀(ys:List V) (us:List Value) (acc:V) (c:Value) (K:V→Prop),aJ σ s w acc c→us.length=ys.length →
  (∀(i:Nat) (y:V),ys[i]?=some y→∃u,us[i]?=some u∧aJ σ s w y u)→eU mn acc ys K →
  ∃v r,(us.foldlM (if mn then Builtin.min2 else Builtin.max2) c).run P w=.ok r w∧aJ σ s w v r∧K v
 |[],[],acc,c,K,hr,_,_,h=>⟨acc,c,by simp,hr,h⟩
 |[],_::_,_,_,_,_,hl,_,_=>by simp at hl
 |_::_,[],_,_,_,_,hl,_,_=>by simp at hl
 |y::ys,u::us,acc,c,K,hr,hl,hy,h=>by
  obtain⟨u',hu,KT⟩:=hy 0 y rfl
  simp only[VQ,Option.some.injEq]at hu
  subst hu
  unfold eU at h
  split at h
  ·cases hr with|d hr=>?_
   cases hr with|sc _ _=>?_
   cases KT with|d KT=>?_
   cases KT with|sc _ _=>?_
   rename_i k a k' b _ _
   obtain⟨v,r,h1,h2,h3⟩:=oe (P:=P) (mn:=mn) ys us _ (.int k (if mn then min a b else max a b)) K (.d (.sc _ rfl)) (by simpa using hl) (fun i z hz=>hy (i+1) z (by simpa using hz)) h
   refine⟨v,r,?_,h2,h3⟩
   rw[List.foldlM_cons]
   cases mn
   ·have:(if b>a then b else a)=max a b:=by omega
    simp only[Vw,if_false]at h1 ⊢
    simp [Builtin.max2,this,h1]
   ·have:(if b<a then b else a)=min a b:=by omega
    simp only[if_true]at h1 ⊢
    simp [Builtin.min2,this,h1]
  ·exact h.elim
def Dq (e0:V) (b a:Nat):V :=
 match e0 with
 |.pp id g i off b' a'=>if b'=b∧a'=a then .pp id g i off b' a' else .d (.sc (.pointer (some ⟨b,a,none⟩)))
 |_=>.d (.sc (.pointer (some ⟨b,a,none⟩)))
def dO (e0:V):D→V
 |.sc (.pointer (some ⟨b,a,none⟩))=>Dq e0 b a
 |.el [x]=>.bx (dO e0 x)
 |.cl fn first ai=>.cl fn (go first) (go ai)
 |x=>.d x
where go:List D→List V
 |[]=>[]
 |x::l=>dO e0 x::go l
theorem CN (e0:V):∀l:List D,dO.go e0 l=l.map (dO e0)
 |[]=>rfl
 |x::l=>by simp [dO.go,CN e0 l]
theorem Er {σ:Gh}{s:List Obj}{w:World}{e0:V}{u0:Value} (h0:aJ σ s w e0 u0) {x:D}{u:Value} (hr:du (Own σ s) w x u):aJ σ s w (dO e0 x) u:=by
 have g:∀(l:List D) (i:Nat) (y:V),(l.map (dO e0))[i]?=some y→∃x,l[i]?=some x∧dO e0 x=y:=fun l i y hy=>by
  rw[VB]at hy
  exact Option.map_eq_some_iff.1 hy
 induction hr with
 |sc v hv =>
  have hd:aJ σ s w (.d (.sc v)) v:=.d (.sc v hv)
  unfold dO
  split
  ·rename_i b a hx
   cases hx
   unfold Dq
   split
   ·split
    ·rename_i hc
     obtain⟨rfl,rfl⟩:=hc
     have:=h0.wV
     subst this
     exact h0
    ·exact hd
   ·exact hd
  ·rename_i hx;cases hx
  ·rename_i hx;cases hx
  ·exact hd
 |nil=>exact .d .nil
 |sl aL a cap sz f h1 h2 h3 h4 h5 _=>exact .d (.sl aL a cap sz f h1 h2 h3 h4 h5)
 |el cs a f h1 h2 h3 ih =>
  match cs,h2,h3,ih with
  |[],h2,h3,_=>exact .d (.el [] a f h1 h2 h3)
  |[x],h2,h3,ih =>
   simp only[dO]
   exact .bx h1 (h2 0 x rfl).1 (h2 0 x rfl).2 (h3 0 x rfl).one (ih 0 x rfl)
  |x::y::l,h2,h3,_=>exact .d (.el (x::y::l) a f h1 h2 h3)
 |cl h1 _ h3 _ yj gz =>
  simp only[dO,CN]
  refine .cl (by simpa using h1) (fun i y hy=>?_) (by simpa using h3) (fun i y hy=>?_)
  ·obtain⟨x,hx,rfl⟩:=g _ i y hy;exact yj i x hx
  ·obtain⟨x,hx,rfl⟩:=g _ i y hy;exact gz i x hx
 |ub b=>exact .d (.ub b)
def yK (e0 x:V):V :=
 match x with
 |.d (.cl fn first ai)=>dO e0 (.cl fn first ai)
 |.d (.sc (.func fn ⟨[]⟩ ⟨[]⟩))=>.cl fn [] []
 |x=>x
theorem G0 {σ:Gh}{s:List Obj}{w:World}{e0 x:V}{u0 u:Value} (h0:aJ σ s w e0 u0) (hx:aJ σ s w x u):aJ σ s w (yK e0 x) u:=by
 unfold yK
 split
 ·cases hx with|d hx=>exact Er h0 hx
 ·cases hx with
  |d hx =>
   cases hx with
   |sc _ _=>exact .cl rfl (fun i x hx=>by simp at hx) rfl (fun i x hx=>by simp at hx)
 ·exact hx
def Ii (P:Program) (f:FuncId):Bool :=
 match P.funcs[f]? with
 | some fn => fn.name != "runtime.NumGoroutine" && fn.body.isSome
 |none=>false
def az (P:Program) (f:FuncId) (args:List V) (s:List Obj) (K:V→List Obj→Prop):Prop :=
 Ii P f=true∧∀(σ:Gh) (w:World) (vals:Array Value),Inv σ s w→vals.size=args.length→(∀(i:Nat) (x:V),args[i]?=some x→aJ σ s w x (vals.getD i undef)) →
  Calls P f vals w fun e w'=>∃u v σ' s',e=.returned u∧bc σ s w σ' s' w'∧Inv σ' s' w'∧aJ σ' s' w' v u∧K v s'
theorem Au {P:Program}{f:FuncId} (h:Ii P f=true) (args:Array Value) (w:World):(callFunc f args).run P w=.ok (.enter f args) w:=by
 unfold Ii at h
 split at h
 ·rename_i fn hf
  simp only[VE,bne_iff_ne,ne_eq]at h
  obtain⟨h1,h2⟩:=h
  cases hb:fn.body with
  |none=>rw[hb]at h2;cases h2
  |some c=>simp [callFunc,hf,h1,hb]
 ·cases h
def fS (P:Program) (c:Call) (e:Nat→V) (s:List Obj) (K:V→List Obj→Prop):Prop :=
 match c.callee with
 |.value (.func f)=>az P f (c.args.toList.map (ev e)) s K
 |.value f=>match yK (e 0) (ev e f) with
  |.cl (.func g) first ai=>az P g (first++c.args.toList.map (ev e)++ai) s K
  |_=>False
 |.builtin b=>match b,c.args.toList,c.argTypes.toList with
  |.len,[x],[t]=>jB P t (ev e x) s fun v=>K v s
  |.append,[a,x],[t,t']=>if t=t' then dD P t (ev e a) (ev e x) s K else jg P t t' (ev e a) (ev e x) s K
  |.copy,[a,x],[t,t']=>t=t'∧oW P t (ev e a) (ev e x) s K
  |.clear,[x],[t]=>kW P t (ev e x) s K
  |.min,x::rest,_=>eU true (ev e x) (rest.map (ev e)) fun v=>K v s
  |.max,x::rest,_=>eU false (ev e x) (rest.map (ev e)) fun v=>K v s
  |.cap,[x],[t]=>DE P t (ev e x) fun v=>K v s
  |_,_,_=>False
 |_=>False
def ir (s:List Obj) (x:V) (K:V→Prop):Prop :=
 match x with
 |.d (.el cs)=>K (.d (.el cs))
 |.rf id g i off=>pB s id g fun _=>K (.rf id g i off)
 |.pp id g i off b a=>pB s id g fun _=>K (.pp id g i off b a)
 |.d (.sc (.pointer (some ad)))=>K (.d (.sc (.pointer (some ad))))
 |.cl (.func f) first ai=>K (.cl (.func f) first ai)
 |_=>False
def xt (e0:V) (b a:Nat):V :=
 match e0 with
 |.pp id g i off b' a'=>if b'=b∧a'≤a then .rf id g i (off+(a-a')) else .d (.sc (.pointer (some ⟨b,a,none⟩)))
 |_=>.d (.sc (.pointer (some ⟨b,a,none⟩)))
def sL (e0 p:V):V :=
 match p with
 |.d (.sc (.pointer (some ⟨b,a,none⟩)))=>xt e0 b a
 |p=>p
theorem Ft {σ:Gh}{s:List Obj}{w:World}{e0 p:V}{u0 u:Value} (h0:aJ σ s w e0 u0) (hp:aJ σ s w p u):aJ σ s w (sL e0 p) u:=by
 unfold sL
 split
 ·rename_i b a
  unfold xt
  split
  ·split
   ·rename_i id g i off b' a' hc
    obtain⟨rfl,hle⟩:=hc
    cases hp with|d hp=>?_
    cases hp with|sc _ _=>?_
    cases h0 with
    |pp o ho hg hk =>
     refine .rf o ho hg rfl fun he=>?_
     obtain⟨base,k1,k2,k3⟩:=hk he
     exact⟨b',base,k1,k2,by congr 3;omega⟩
   ·exact hp
  ·exact hp
 ·exact hp
def fV (x:V) (A B:Prop):Prop :=
 match x with
 |.d (.sc (.bool b))=>(b=true→A)∧(b=false→B)
 |_=>False
def s7 (x:V) (i:Nat) (K:V→Prop):Prop :=
 match x with
 |.tu vs=>match vs[i]? with
  |some v=>K v
  |none=>False
 |_=>False
def db (P:Program) (o:Oper) (e:Nat→V) (s:List Obj) (K:V→List Obj→Prop):Prop :=
 match o.op with
 |.move x=>K (ev e x) s
 |.assign x=>K (ev e x) s
 |.pick c a b=>fV (ev e c) (K (ev e a) s) (K (ev e b) s)
 |.alloc t=>mK P t s K
 |.box _ x=>vp s (ev e x) K
 |.build t parts=>mL P t (parts.toList.map fun p=>(p.1,ev e p.2)) fun v=>K v s
 |.buildSlice t n parts=>eC P t n (parts.toList.map fun p=>(p.1,ev e p.2)) s K
 |.load t a=>jH P t s (sL (e 0) (ev e a)) fun v=>K v s
 |.store t a x=>gm P t s (ev e a) (ev e x) fun s'=>K .un s'
 |.nilCheck x=>ir s (ev e x) fun v=>K v s
 |.binOp op t x y _=>bif IV y then ef P op t s (ev e x) (fun v=>K v s) else mP P op t s (ev e x) (ev e y) fun v=>K v s
 |.unOp op _ x=>vJ op (ev e x) fun v=>K v s
 |.convert src dst x=>mU P src dst (ev e x) fun v=>K v s
 |.makeFunc fn first ai=>K (.cl fn (first.toList.map (ev e)) (ai.toList.map (ev e))) s
 |.makeSlice t l c=>fx P t (ev e l) (ev e c) s K
 |.slice t x lo hi mx=>jq P t (ev e x) (lo.map (ev e)) (hi.map (ev e)) (mx.map (ev e)) s fun v=>K v s
 |.fieldAddr t x f=>eG P t s (ev e x) f fun v=>K v s
 |.field t x f=>ke P t (ev e x) f fun v=>K v s
 |.indexAddr t x i=>dP P t s (ev e x) (ev e i) fun v=>K v s
 |.index t x i=>iO P t (ev e x) (ev e i) fun v=>K v s
 |.extract x i=>s7 (ev e x) i fun v=>K v s
 |.call c=>fS P c e s K
 |.makeMap t r=>lz P t r s K
 |.lookup t x i ok=>bif ok then False else gZ P t s (ev e x) (ev e i) fun v=>K v s
 |.mapUpdate t m k x=>rB P t s (ev e m) (ev e k) (ev e x) fun s'=>K .un s'
 |.insert t m k x=>rB P t s (ev e m) (ev e k) (ev e x) fun s'=>K .un s'
 |_=>False
def fK (σ:Gh) (s:List Obj) (w:World) (N:Nat) (e:Nat→V) (a:Act):Prop :=
 a.defers=[]∧a.tmps.size=N∧∀t,aJ σ s w (e t) (a.tmps.getD t undef)
theorem fK.ev {σ s w N e a} (h:fK σ s w N e a) (x:Operand):aJ σ s w (ev e x) (a.eval x):=by
 cases x with
 |tmp t=>exact h.2.2 t
 |const v=>exact L9 v
 |global g=>exact .any
 |func f=>exact .cl rfl (fun i x hx=>by simp at hx) rfl (fun i x hx=>by simp at hx)
def rz (P:Program) (o:Oper) (σ:Gh) (s:List Obj) (w:World) (a:Act) (K:V→List Obj→Prop):Prop :=
 o.wp P a w (fun a' w'=>∃u v σ' s',a'=a.put o.dst u∧bc σ s w σ' s' w'∧Inv σ' s' w'∧aJ σ' s' w' v u∧K v s') (fun _ _ _=>False)
theorem eN {P:Program}{o:Oper}{σ:Gh}{s:List Obj}{w:World}{a:Act}{K:V→List Obj→Prop}{u:Value}{v:V}{σ':Gh}{s':List Obj}{w':World} (hr:(execOp a.eval o).run P w=.ok (.value u) w')
  (hE:bc σ s w σ' s' w') (hI:Inv σ' s' w') (hv:aJ σ' s' w' v u) (hK:K v s'):rz P o σ s w a K:=by
 unfold rz Oper.wp
 rw[hr,Oper.upon_value]
 exact⟨u,v,σ',s',rfl,hE,hI,hv,hK⟩
theorem vT {σ:Gh}{s:List Obj}{w:World}{N:Nat}{e:Nat→V}{a:Act} (h:fK σ s w N e a) (l:List Operand):∀(i:Nat) (x:V),(l.map (ev e))[i]?=some x→∃u,(l.map a.eval)[i]?=some u∧aJ σ s w x u:=by
 intro i x hx
 rw[VB]at hx ⊢
 obtain⟨y,hy,rfl⟩:=Option.map_eq_some_iff.1 hx
 rw[hy]
 exact⟨_,rfl,h.ev y⟩
theorem z8 {σ:Gh}{s:List Obj}{w:World}{N:Nat}{e:Nat→V}{a:Act} (h:fK σ s w N e a) (l:List (Nat×Operand)) :
  ∀(j:Nat) i x,(l.map fun p=>(p.1,ev e p.2))[j]?=some (i,x)→∃u,(l.map fun p=>(p.1,a.eval p.2))[j]?=some (i,u)∧aJ σ s w x u:=by
 intro j i x hx
 rw[VB]at hx ⊢
 obtain⟨y,hy,h'⟩:=Option.map_eq_some_iff.1 hx
 simp only[Prod.mk.injEq]at h'
 obtain⟨rfl,rfl⟩:=h'
 rw[hy]
 exact⟨_,rfl,h.ev y.2⟩
theorem B5 {P:Program}{o:Oper}{σ:Gh}{s:List Obj}{w:World}{a:Act}{K:V→List Obj→Prop}{f:FuncId}{vals:Array Value}{args:List V} (hr:(execOp a.eval o).run P w=(callFunc f vals).run P w)
  (hI:Inv σ s w) (hl:vals.size=args.length) (hv:∀(i:Nat) (x:V),args[i]?=some x→aJ σ s w x (vals.getD i undef)) (h:az P f args s K):rz P o σ s w a K:=by
 unfold rz Oper.wp
 rw[hr,Au h.1,Oper.upon_enter]
 refine(h.2 σ w vals hI hl hv).mono fun e w' ⟨u,v,σ',s',he,hE,jF,hR,hK⟩=>?_
 subst he
 exact⟨u,v,σ',s',rfl,hE,jF,hR,hK⟩
theorem n6 {l:List Value}{i:Nat}{u:Value} (h:l[i]?=some u) (d:Value):l.toArray.getD i d=u:=by
 have aT:=(List.getElem?_eq_some_iff.1 h).1
 have:=(List.getElem?_eq_some_iff.1 h).2
 simp [Array.getD,aT,this]
theorem xY {P:Program}{N:Nat}{o:Oper}{σ:Gh}{s:List Obj}{w:World}{e:Nat→V}{a:Act}{K:V→List Obj→Prop} (hI:Inv σ s w) (hR:fK σ s w N e a) (h:db P o e s K):rz P o σ s w a K:=by
 obtain⟨dst,op,ty,pos,after,guard⟩:=o
 have ro:∀{v:V}{c:Value}{s1:Sem Value},s1.run P w=.ok c w→(do pure (Next.value (← s1)):Sem Next).run P w=.ok (.value c) w:=fun h=>by simp [h]
 have r1:∀{c:Value}{w':World}{s1:Sem Value},s1.run P w=.ok c w'→(do pure (Next.value (← s1)):Sem Next).run P w=.ok (.value c) w':=fun h=>by simp [h]
 have same:∀{v:V}{c:Value},(execOp a.eval ⟨dst,op,ty,pos,after,guard⟩).run P w=.ok (.value c) w→aJ σ s w v c→K v s→rz P ⟨dst,op,ty,pos,after,guard⟩ σ s w a K :=
  fun hr hv hk=>eN hr (bc.refl _ _ _) hI hv hk
 cases op <;> simp only[db]at h
 case move x=>exact same (by simp [execOp]) (hR.ev x) h
 case assign x=>exact same (by simp [execOp]) (hR.ev x) h
 case pick c x y =>
  unfold fV at h
  split at h
  ·rename_i b hb
   have hc:=hR.ev c
   rw[hb]at hc
   generalize sf:a.eval c=NC at hc
   cases hc with|d hc=>?_
   cases hc with|sc _ _=>?_
   cases b
   ·exact same (c:=a.eval y) (by simp [execOp,sf,asBool]) (hR.ev y) (h.2 rfl)
   ·exact same (c:=a.eval x) (by simp [execOp,sf,asBool]) (hR.ev x) (h.1 rfl)
  ·exact h.elim
 case alloc t =>
  obtain⟨v,c,σ',s',w',k1,k2,k3,k4,k5⟩:=Dj hI h
  exact eN (by simp only[execOp];exact r1 k1) k2 k3 k4 k5
 case box t x =>
  obtain⟨v,c,σ',s',w',k1,k2,k3,k4,k5⟩:=HA (P:=P) (t:=t) hI (hR.ev x) h
  exact eN (by simp only[execOp];exact r1 k1) k2 k3 k4 k5
 case build t parts =>
  obtain⟨v,c,k1,k2,k3⟩:=Cj (by simp) (z8 hR parts.toList) h
  refine same (c:=c) ?_ k2 k3
  simp only[execOp]
  refine r1 ?_
  rw[← List.map_toArray]at k1
  simpa using k1
 case buildSlice t n parts =>
  obtain⟨v,c,σ',s',w',k1,k2,k3,k4,k5⟩:=uE hI (by simp) (z8 hR parts.toList) h
  refine eN ?_ k2 k3 k4 k5
  simp only[execOp]
  refine r1 ?_
  rw[← List.map_toArray]at k1
  simpa using k1
 case load t x =>
  obtain⟨v,c,k1,k2,k3⟩:=xX hI (Ft (hR.2.2 0) (hR.ev x)) h
  exact same (by simp only[execOp];exact r1 k1) k2 k3
 case store t x y =>
  obtain⟨s',w',k1,k2,k3,k4⟩:=BG hI (hR.ev x) (hR.ev y) h
  unfold rz Oper.wp
  simp only[execOp,Sem.run_bind,k1,Result.andThen_ok,Sem.run_pure,Oper.upon_skip]
  exact⟨undef,.un,σ,s',rfl,k2,k3,.un,k4⟩
 case nilCheck x =>
  unfold ir at h
  have hx:=hR.ev x
  split at h
  ·rename_i mb
   rw[mb]at hx
   generalize sf:a.eval x=NC at hx
   cases hx with|d hx=>?_
   cases hx with|el _ ad f h1 h2 h3=>?_
   exact same (c:=.pointer (some ad)) (by simp [execOp,sf]) (.d (.el _ ad f h1 h2 h3)) h
  ·rename_i mb
   obtain⟨o,ho,hg,h⟩:=dT h
   rw[mb]at hx
   obtain⟨b,base,_,_,hp⟩:=Fq hx ho hg
   exact same (c:=a.eval x) (by simp [execOp,hp]) hx h
  ·rename_i mb
   obtain⟨o,ho,hg,h⟩:=dT h
   rw[mb]at hx
   have hp:=hx.wV
   exact same (c:=a.eval x) (by simp [execOp,hp]) hx h
  ·rename_i mb
   rw[mb]at hx
   generalize sf:a.eval x=NC at hx
   cases hx with|d hx=>?_
   cases hx with|sc _ hv=>?_
   exact same (by simp [execOp,sf]) (.d (.sc _ hv)) h
  ·rename_i mb
   rw[mb]at hx
   generalize sf:a.eval x=NC at hx
   cases hx with|cl h1 h2 h3 h4=>?_
   exact same (c:=.func _ _ _) (by simp [execOp,sf]) (.cl h1 h2 h3 h4) h
  ·exact h.elim
 case binOp op t x y yt =>
  cases hn:IV y with
  |true =>
   simp only[hn,cond_true]at h
   have hy:y=.const (.slice none 0 0):=by
    unfold IV at hn
    split at hn
    ·rfl
    ·cases hn
   subst hy
   obtain⟨v,c,k1,k2,k3⟩:=DD (xo:=x) (yo:=.const (.slice none 0 0)) (hR.ev x) h
   exact same (by simp only[execOp];exact r1 k1) k2 k3
  |false =>
   simp only[hn,cond_false]at h
   obtain⟨v,c,k1,k2,k3⟩:=Ij (xo:=x) (yo:=y) (hR.ev x) (hR.ev y) h
   exact same (by simp only[execOp];exact r1 k1) k2 k3
 case unOp op t x =>
  obtain⟨v,c,k1,k2,k3⟩:=JM (P:=P) (hR.ev x) h
  exact same (by simp only[execOp];exact r1 k1) k2 k3
 case convert src d x =>
  obtain⟨v,c,k1,k2,k3⟩:=EO (hR.ev x) h
  exact same (by simp only[execOp];exact r1 k1) k2 k3
 case makeFunc fn first ai =>
  have key:∀(l:Array Operand) (i:Nat) (x:V),(l.toList.map (ev e))[i]?=some x→aJ σ s w x ((l.map a.eval).getD i undef):=by
   intro l i x hx
   obtain⟨u,h1,h2⟩:=vT hR l.toList i x hx
   have:=n6 h1 undef
   rw[← List.map_toArray]at this
   simp only[Array.toArray_toList]at this
   rw[this];exact h2
  refine same (c:=.func fn (first.map a.eval) (ai.map a.eval)) (by simp [execOp,Instr.makeFunc]) (.cl (by simp) (key first) (by simp) (key ai)) h
 case makeSlice t l c =>
  obtain⟨v,r,σ',s',w',k1,k2,k3,k4,k5⟩:=vE hI (hR.ev l) (hR.ev c) h
  exact eN (by simp only[execOp];exact r1 k1) k2 k3 k4 k5
 case slice t x lo hi mx =>
  have opt:∀(y:Option Operand) (v:V),y.map (ev e)=some v→∃c,y.map a.eval=some c∧aJ σ s w v c:=by
   intro y v hv
   cases y with
   |none=>cases hv
   |some y=>simp only[Wc,Option.some.injEq]at hv;subst hv;exact⟨_,rfl,hR.ev y⟩
  have Nz:∀(y:Option Operand),y.map (ev e)=none→y.map a.eval=none:=by
   intro y hv
   cases y with
   |none=>rfl
   |some y=>cases hv
  obtain⟨v,c,k1,k2,k3⟩:=C2 (hR.ev x) (opt lo) (Nz lo) (opt hi) (Nz hi) (opt mx) (Nz mx) h
  exact same (by simp only[execOp];exact r1 k1) k2 k3
 case fieldAddr t x f =>
  obtain⟨v,c,k1,k2,k3⟩:=vR (hR.ev x) h
  exact same (by simp only[execOp];exact r1 k1) k2 k3
 case field t x f =>
  obtain⟨v,c,k1,k2,k3⟩:=Ch (hR.ev x) h
  exact same (by simp only[execOp];exact r1 k1) k2 k3
 case indexAddr t x i =>
  obtain⟨v,c,k1,k2,k3⟩:=vz (hR.ev x) (hR.ev i) h
  exact same (by simp only[execOp];exact r1 k1) k2 k3
 case index t x i =>
  obtain⟨v,c,k1,k2,k3⟩:=BR (hR.ev x) (hR.ev i) h
  exact same (by simp only[execOp];exact r1 k1) k2 k3
 case extract x i =>
  unfold s7 at h
  have hx:=hR.ev x
  split at h
  case h_2=>exact h.elim
  rename_i vs mb
  rw[mb]at hx
  split at h
  case h_2=>exact h.elim
  rename_i v hv
  generalize sf:a.eval x=NC at hx
  cases hx with|tu h1 h2=>?_
  rename_i arr
  have aT:=(List.getElem?_eq_some_iff.1 hv).1
  obtain⟨c,hc⟩:∃c,arr[i]?=some c:=⟨arr[i]'(by omega),by rw[Array.getElem?_eq_getElem]⟩
  have hd:arr.getD i undef=c:=by rw[VI,hc];rfl
  exact same (c:=c) (by simp [execOp,sf,Instr.extract,hc]) (by rw[← hd];exact h2 i v hv) h
 case makeMap t r =>
  obtain⟨v,c,σ',s',w',k1,k2,k3,k4,k5⟩:=yp (P:=P) hI h
  have hr:r=none:=h.1
  subst hr
  exact eN (by simp only[execOp,Option.map_none];exact r1 k1) k2 k3 k4 k5
 case lookup t x i ok =>
  cases ok with
  |true=>exact h.elim
  |false =>
   simp only[cond_false]at h
   obtain⟨v,c,k1,k2,k3⟩:=AG hI (hR.ev x) (hR.ev i) h
   exact same (by simp only[execOp];exact r1 k1) k2 k3
 case mapUpdate t x y z =>
  obtain⟨s',w',k1,k2,k3,k4⟩:=zp hI (hR.ev x) (hR.ev y) (hR.ev z) h
  unfold rz Oper.wp
  simp only[execOp,Sem.run_bind,k1,Result.andThen_ok,Sem.run_pure,Oper.upon_skip]
  exact⟨undef,.un,σ,s',rfl,k2,k3,.un,k4⟩
 case insert t x y z =>
  obtain⟨s',w',k1,k2,k3,k4⟩:=zp hI (hR.ev x) (hR.ev y) (hR.ev z) h
  unfold rz Oper.wp
  simp only[execOp,Sem.run_bind,k1,Result.andThen_ok,Sem.run_pure,Oper.upon_skip]
  exact⟨undef,.un,σ,s',rfl,k2,k3,.un,k4⟩
 case call c =>
  obtain⟨callee,args,argTypes⟩:=c
  unfold fS at h
  have Gr:∀(l:List Operand),l=args.toList→∀(i:Nat) (x:V),(l.map (ev e))[i]?=some x→∃u,(args.map a.eval).toList[i]?=some u∧aJ σ s w x u:=by
   rintro l rfl i x hx
   obtain⟨u,h1,h2⟩:=vT hR args.toList i x hx
   exact⟨u,by simpa using h1,h2⟩
  split at h
  ·rename_i f hf
   simp only at hf
   subst hf
   refine B5 (f:=f) (vals:=args.map a.eval) (by
    rw[execOp_call_go,Array.empty_append,Array.append_empty]) hI (by simp) (fun i x hx=>?_) h
   obtain⟨u,h1,h2⟩:=Gr _ rfl i x hx
   have:=n6 h1 undef
   simp only[Array.toArray_toList]at this
   rw[this];exact h2
  ·rename_i f _ hf
   simp only at hf
   subst hf
   split at h
   ·rename_i g first ai cI
    have hx:=G0 (hR.2.2 0) (hR.ev f)
    rw[cI]at hx
    generalize sf:a.eval f=NC at hx
    cases hx with|cl h1 h2 h3 h4=>?_
    rename_i f' c'
    refine B5 (f:=g) (vals:=f'++args.map a.eval++c') (by
     simp [execOp,resolve,sf,Deferred.ofValue,invoke]) hI (by simp [h1,h3]) (fun i x hx=>?_) h
    have gd:∀(arr:Array Value) (j:Nat),j<arr.size→arr[j]?=some (arr.getD j undef):=fun arr j hj=>by simp [Array.getD,hj]
    by_cases eK:i<first.length
    ·rw[VY,VH eK]at hx
     have:(f'++args.map a.eval++c').getD i undef=f'.getD i undef:=by
      rw[VI,Array.append_assoc,Array.getElem?_append_left (by omega),VI]
     rw[this];exact h2 i x hx
    ·rw[VY,VF (by omega)]at hx
     simp only at hx
     by_cases Qo:i-first.length<(args.toList.map (ev e)).length
     ·rw[VH Qo]at hx
      obtain⟨u,k1,k2⟩:=Gr _ rfl _ x hx
      have:(f'++args.map a.eval++c').getD i undef=u:=by
       rw[VI,Array.append_assoc,Array.getElem?_append_right (by omega),Array.getElem?_append_left (by simp at Qo ⊢;omega),h1]
       rw[V4]at k1
       rw[k1];rfl
      rw[this];exact k2
     ·rw[VF (by omega)]at hx
      have:(f'++args.map a.eval++c').getD i undef=c'.getD (i-first.length-(args.toList.map (ev e)).length) undef:=by
       rw[VI,Array.append_assoc,Array.getElem?_append_right (by omega),Array.getElem?_append_right (by simp at Qo ⊢;omega),VI]
       congr 2
       simp [h1]
      rw[this];exact h4 _ x hx
   ·exact h.elim
  ·rename_i b hb
   simp only at hb
   subst hb
   have iJ:∀(l:List Operand),args.toList=l→args=l.toArray:=fun l hl=>by rw[← hl]
   have JO:∀(l:List TypeId),argTypes.toList=l→argTypes=l.toArray:=fun l hl=>by rw[← hl]
   split at h
   ·rename_i x t h1 h2
    have e1:=iJ _ h1
    have e2:=JO _ h2
    subst e1;subst e2
    obtain⟨v,c,k1,k2,k3⟩:=G5 (ty:=ty) (hR.ev x) h
    exact same (by simp [execOp,resolve,invoke,builtin,k1]) k2 k3
   ·rename_i x y t t' h1 h2
    have e1:=iJ _ h1
    have e2:=JO _ h2
    subst e1;subst e2
    split at h
    ·rename_i ht
     subst ht
     obtain⟨v,r,σ',s',w',k1,k2,k3,k4,k5⟩:=A7 (ty:=ty) hI (hR.ev x) (hR.ev y) h
     exact eN (by simp [execOp,resolve,invoke,builtin,k1]) k2 k3 k4 k5
    ·obtain⟨v,r,σ',s',w',k1,k2,k3,k4,k5⟩:=yE (ty:=ty) hI (hR.ev x) (hR.ev y) h
     exact eN (by simp [execOp,resolve,invoke,builtin,k1]) k2 k3 k4 k5
   ·rename_i x y t t' h1 h2
    have e1:=iJ _ h1
    have e2:=JO _ h2
    subst e1;subst e2
    obtain⟨rfl,h⟩:=h
    obtain⟨v,r,s',w',k1,k2,k3,k4,k5⟩:=EJ (ty:=ty) hI (hR.ev x) (hR.ev y) h
    exact eN (by simp [execOp,resolve,invoke,builtin,k1]) k2 k3 k4 k5
   ·rename_i x t h1 h2
    have e1:=iJ _ h1
    have e2:=JO _ h2
    subst e1;subst e2
    obtain⟨v,r,s',w',k1,k2,k3,k4,k5⟩:=Da (ty:=ty) hI (hR.ev x) h
    exact eN (by simp [execOp,resolve,invoke,builtin,k1]) k2 k3 k4 k5
   ·rename_i x rest h1
    have e1:=iJ _ h1
    subst e1
    obtain⟨v,r,k1,k2,k3⟩:=oe (P:=P) (mn:=true) (rest.map (ev e)) (rest.map a.eval) (ev e x) (a.eval x) _ (hR.ev x) (by simp) (vT hR rest) h
    simp only[if_true]at k1
    exact same (by simp [execOp,resolve,invoke,builtin,Builtin.min_,k1]) k2 k3
   ·rename_i x rest h1
    have e1:=iJ _ h1
    subst e1
    obtain⟨v,r,k1,k2,k3⟩:=oe (P:=P) (mn:=false) (rest.map (ev e)) (rest.map a.eval) (ev e x) (a.eval x) _ (hR.ev x) (by simp) (vT hR rest) h
    simp only[Vw,if_false]at k1
    exact same (by simp [execOp,resolve,invoke,builtin,Builtin.max_,k1]) k2 k3
   ·rename_i x t h1 h2
    have e1:=iJ _ h1
    have e2:=JO _ h2
    subst e1;subst e2
    obtain⟨v,c,k1,k2,k3⟩:=H0 (ty:=ty) (hR.ev x) h
    exact same (by simp [execOp,resolve,invoke,builtin,k1]) k2 k3
   ·exact h.elim
  ·exact h.elim
abbrev Env:=Nat→V
def cu (e:Env) (d:Nat) (v:V):Env:=fun t=>if t=d then v else e t
def gQ (e:Env) (d:Option Nat) (v:V):Env :=
 match d with
 |none=>e
 |some d=>cu e d v
def ep (N:Nat) (d:Option Nat):Prop :=
 match d with
 |none=>True
 |some d=>d<N
theorem fK.put {σ s w N e a} (h:fK σ s w N e a) {d:Option Nat} (hd:ep N d) {v:V}{u:Value} (hv:aJ σ s w v u):fK σ s w N (gQ e d v) (a.put d u):=by
 cases d with
 |none=>exact h
 |some d =>
  have M5:d<N:=hd
  refine⟨h.1,by simp [Act.put,h.2.1],fun t=>?_⟩
  simp only[Act.put,gQ,cu]
  by_cases ht:t=d
  ·subst ht
   rw[if_pos rfl,VI,Array.getElem?_setIfInBounds_self_of_lt (by rw[h.2.1];exact M5)]
   exact hv
  ·rw[if_neg ht,VI,Array.getElem?_setIfInBounds_ne (Ne.symm ht),← VI]
   exact h.2.2 t
def mG (M:Nat) (e:Env):Env:=fun t=>if (M >>> t) % 2=1 then e t else .any
theorem bg {M:Nat}{e:Env}{t:Nat}:mG M e t=if (M >>> t) % 2=1 then e t else .any:=(rfl)
theorem lC {M:Nat}{e:Env}{d:Nat}{v:V}:mG M (cu e d v)=if (M >>> d) % 2=1 then cu (mG M e) d v else mG M e:=by
 split <;> rename_i h <;> funext t <;> simp only[mG,cu]
 ·by_cases ht:t=d
  ·subst ht;simp [h]
  ·simp [ht]
 ·by_cases ht:t=d
  ·subst ht;simp [h]
  ·simp [ht]
theorem jR {M:Nat}{e:Env}:mG M (mG M e)=mG M e:=by
 funext t;simp only[mG];split <;> rfl
theorem fK.trim {σ s w N M e a} (h:fK σ s w N e a):fK σ s w N (mG M e) a:=by
 refine⟨h.1,h.2.1,fun t=>?_⟩
 unfold mG
 split
 ·exact h.2.2 t
 ·exact .any
theorem fK.bM {σ s w σ' s' w' N e a} (h:fK σ s w N e a) (hE:bc σ s w σ' s' w'):fK σ' s' w' N e a :=
 ⟨h.1,h.2.1,fun t=>(h.2.2 t).bM hE⟩
def jM (full:List Oper) (g:Nat):Option Nat :=
 match full[g]? with
 |some o=>o.dst
 |none=>none
def jw (d:Option Nat) (e:Env) (want:Bool) (A B:Env→Prop):Prop :=
 match d with
 |none=>False
 |some d=>match e d with
  |.d (.sc (.bool b))=>(b=want→A (cu e d (.d (.sc (.bool want)))))∧(b=(!want)→B (cu e d (.d (.sc (.bool (!want))))))
  |.un=>B e
  |_=>False
theorem fK.same {σ s w N e a} (h:fK σ s w N e a) {d:Nat}{v:V} (hv:e d=v):fK σ s w N (cu e d v) a:=by
 refine⟨h.1,h.2.1,fun t=>?_⟩
 unfold cu
 split
 ·rename_i ht;subst ht;rw[← hv];exact h.2.2 _
 ·exact h.2.2 t
theorem r6 {full:List Oper}{σ s w N e a} (h:fK σ s w N e a) {g:Nat}{want:Bool}{o:Oper} (ho:o.guard=some (g,want)) {A B:Env→Prop} (hg:jw (jM full g) e want A B) :
  ∃e',fK σ s w N e' a∧((Region.wanted o (yielded full.toArray a.tmps)=true∧A e')∨(Region.wanted o (yielded full.toArray a.tmps)=false∧B e')):=by
 unfold jw at hg
 unfold Region.wanted
 rw[ho]
 simp only
 split at hg
 case h_1=>exact hg.elim
 rename_i d hd
 unfold jM at hd
 split at hd
 case h_2=>cases hd
 rename_i og N8
 have hr:=h.2.2 d
 split at hg
 ·rename_i b hb
  rw[hb]at hr
  generalize sf:a.tmps.getD d undef=c at hr
  cases hr with|d hr=>?_
  cases hr with|sc _ _=>?_
  have Jh:a.tmps[d]?=some (.bool b):=by
   rw[VI]at sf
   cases hx:a.tmps[d]? with
   |none=>rw[hx]at sf;cases sf
   |some y=>rw[hx]at sf;simp only[Option.getD_some]at sf;rw[sf]
  have hy:yielded full.toArray a.tmps g=some b:=by simp [yielded,N8,hd,Jh]
  rw[hy]
  by_cases Sz:b=want
  ·subst Sz
   exact⟨_,h.same hb,.inl ⟨by simp,hg.1 rfl⟩⟩
  ·have RD:b=!want:=by cases b <;> cases want <;> simp_all
   subst RD
   exact⟨_,h.same hb,.inr ⟨by simp,hg.2 rfl⟩⟩
 ·rename_i hb
  rw[hb]at hr
  generalize sf:a.tmps.getD d undef=c at hr
  cases hr
  have hy:yielded full.toArray a.tmps g=none:=by
   rw[VI]at sf
   cases hx:a.tmps[d]? with
   |none=>simp [yielded,N8,hd,hx]
   |some y=>rw[hx]at sf;simp only[Option.getD_some]at sf;simp [yielded,N8,hd,hx,sf,undef]
  exact⟨e,h,.inr ⟨by rw[hy];rfl,hg⟩⟩
 ·exact hg.elim
def mr (P:Program) (N:Nat) (full:List Oper):List Oper→Env→List Obj→(Env→List Obj→Prop)→Prop
 |[],e,s,K=>K e s
 |o::rest,e,s,K=>ep N o.dst∧match o.guard with
  |none=>db P o e s fun v s'=>mr P N full rest (gQ e o.dst v) s' K
  |some (g,want)=>jw (jM full g) e want (fun e=>db P o e s fun v s'=>mr P N full rest (gQ e o.dst v) s' K) (fun e=>mr P N full rest (gQ e o.dst .un) s K)
theorem Oper.Gm {P:Program}{o:Oper}{a:Act}{w:World}{K:Act→World→Prop}{Q:Exit→Act→World→Prop} (h:o.wp P a w K (fun _ _ _=>False)):o.wp P a w K Q:=by
 unfold Go.Oper.wp at *
 generalize (execOp a.eval o).run P w=r at *
 cases r with
 |ok n w' =>
  cases n <;> simp only[Oper.upon]at h ⊢ <;>
   first
    |exact h
    |exact Calls.mono h (fun e Ss he=>by
      cases e with
      |returned v=>exact he
      |panicked ch=>exact he.elim
      |outgrown=>obtain⟨_,_,h'⟩:=he;exact h'.elim)
 |halt x w'=>cases x <;> simp only[Oper.upon]at h ⊢
def QX (σ0:Gh) (s0:List Obj) (w0:World) (N:Nat) (Q:Exit→Env→List Obj→Prop):Exit→Act→World→Prop :=
 fun ex a w=>∃e σ s,bc σ0 s0 w0 σ s w∧Inv σ s w∧fK σ s w N e a∧Q ex e s
theorem pr {P:Program}{N:Nat}{full:List Oper}{σ0:Gh}{s0:List Obj}{w0:World}{Q:Exit→Env→List Obj→Prop}:∀(l:List Oper) (e:Env) (s:List Obj) (σ:Gh) (w:World) (a:Act),
  bc σ0 s0 w0 σ s w→Inv σ s w→fK σ s w N e a→mr P N full l e s (fun e s=>Q .normal e s)→wpList P full.toArray (QX σ0 s0 w0 N Q) l a w
 |[],e,s,σ,w,a,hE,hI,hR,h=>⟨e,σ,s,hE,hI,hR,h⟩
 |o::rest,e,s,σ,w,a,hE,hI,hR,h=>by
  obtain⟨hd,h⟩:=h
  have run:∀e,fK σ s w N e a→(db P o e s fun v s'=>mr P N full rest (gQ e o.dst v) s' fun e s=>Q .normal e s)→o.wp P a w (wpList P full.toArray (QX σ0 s0 w0 N Q) rest) (QX σ0 s0 w0 N Q):=by
   intro e hR h
   refine Oper.wp_mono (fun a' w' ⟨u,v,σ',s',ha,uD,jF,oN,hK⟩=>?_) (Oper.Gm (xY hI hR h))
   subst ha
   exact pr rest _ s' σ' w' _ (hE.trans uD) jF ((hR.bM uD).put hd oN) hK
  unfold wpList
  split at h
  ·rename_i hg
   rw[if_pos (by simp [Region.wanted,hg])]
   exact .inl (run e hR h)
  ·rename_i g want hg
   obtain⟨e',oN,⟨h1,h2⟩|⟨h1,h2⟩⟩:=r6 hR hg h
   ·rw[if_pos h1];exact .inl (run e' oN h2)
   ·rw[if_neg (by rw[h1];decide)]
    exact pr rest _ s σ w _ hE hI (oN.put hd .un) h2
def Fy (B:Env→List Obj→Prop) (Q:Exit→Env→List Obj→Prop):Exit→Env→List Obj→Prop
 |.normal,e,s=>B e s
 |x,e,s=>Q x e s
def G6 (id:Nat) (Q:Exit→Env→List Obj→Prop):Exit→Env→List Obj→Prop
 |.exit i,e,s=>if i=id then Q .normal e s else Q (.exit i) e s
 |x,e,s=>Q x e s
def oY (x:V) (A B:Prop):Prop :=
 match x with
 |.d .ub=>A∧B
 |_=>fV x A B
def uJ (P:Program) (N:Nat) (ops:List Oper) (e:Env) (s:List Obj) (K:Env→List Obj→Prop):Prop :=
 ∀(σ0:Gh) (s0:List Obj) (w0:World) (Q:Exit→Env→List Obj→Prop),(∀e s,K e s→Q .normal e s)→∀(σ:Gh) (w:World) (a:Act) (id:Nat),
  bc σ0 s0 w0 σ s w→Inv σ s w→fK σ s w N e a→(Code.region id ops.toArray true).wp P (QX σ0 s0 w0 N Q) a w
def dt (L:Nat) (e:Env) (s:List Obj) (e':Env) (s':List Obj):Prop :=
 ∀(σ0:Gh) (s0:List Obj) (w0:World) (σ:Gh) (w:World) (N:Nat) (a:Act),s0.length≤L→bc σ0 s0 w0 σ s w→Inv σ s w→fK σ s w N e a→∃σ',bc σ0 s0 w0 σ' s' w∧Inv σ' s' w∧fK σ' s' w N e' a
theorem dt.refl {L:Nat}{e:Env}{s:List Obj}:dt L e s e s:=fun _ _ _ σ _ _ _ _ hE hI hR=>⟨σ,hE,hI,hR⟩
theorem dt.trans {L:Nat}{e e' QG:Env}{s s' D5:List Obj} (h:dt L e s e' s') (k:dt L e' s' QG D5):dt L e s QG D5:=fun σ0 s0 w0 σ w N a hL hE hI hR =>
 let ⟨σ',h1,h2,h3⟩:=h σ0 s0 w0 σ w N a hL hE hI hR
 k σ0 s0 w0 σ' w N a hL h1 h2 h3
def Nf (L:Nat) (body:(Exit→Env→List Obj→Prop)→Env→List Obj→Prop) (Q:Exit→Env→List Obj→Prop) (e:Env) (s:List Obj):Prop :=
 ∃I:Nat→Env→List Obj→Prop,(∃n e1 s1,dt L e s e1 s1∧I n e1 s1)∧∀n e s,I n e s→body (Fy (fun e s=>∃m e1 s1,m<n∧dt L e s e1 s1∧I m e1 s1) Q) e s
def J6 (Q:Exit→Env→List Obj→Prop):Exit→Env→List Obj→Prop
 |.goto _,_,_=>False
 |ex,e,s=>Q ex e s
def codeWp (P:Program) (N L M:Nat):Code→(Exit→Env→List Obj→Prop)→Env→List Obj→Prop
 |.skip,Q,e,s=>Q .normal e s
 |.region _ ops draw,Q,e,s=>match draw with
  |false=>mr P N ops.toList ops.toList e s fun e s=>Q .normal e s
  |true=>uJ P N ops.toList e s fun e s=>Q .normal e s
 |.seq a b,Q,e,s=>codeWp P N L M a (Fy (codeWp P N L M b Q) Q) e s
 |.cond c a b,Q,e,s=>oY (ev e c) (codeWp P N L M a Q (mG M e) s) (codeWp P N L M b Q (mG M e) s)
 |.block id c,Q,e,s=>codeWp P N L M c (G6 id Q) e s
 |.loop c,Q,e,s=>Nf L (codeWp P N L M c) Q e s
 |.exit id,Q,e,s=>Q (.exit id) e s
 |.ret,Q,e,s=>Q .ret e s
 |.scope c,Q,e,s=>codeWp P N L M c (J6 Q) e s
 |.label _,Q,e,s=>Q .normal e s
 |_,_,_,_=>False
def Qn (Q:Exit→Env→List Obj→Prop) (e:Env) (s:List Obj):Prop:=Q .normal e s
def cont (P:Program) (N:Nat) (full rest:List Oper) (e:Env) (d:Option Nat) (K:Env→List Obj→Prop) (v:V) (s:List Obj):Prop:=mr P N full rest (gQ e d v) s K
theorem tk {P:Program}{N:Nat}{full rest:List Oper}{e:Env}{d:Option Nat}{K:Env→List Obj→Prop}{v:V}{s:List Obj}:cont P N full rest e d K v s=mr P N full rest (gQ e d v) s K:=(rfl)
theorem AV {Q:Exit→Env→List Obj→Prop}{e:Env}{s:List Obj}:Qn Q e s=Q .normal e s:=(rfl)
theorem qg {P:Program}{N:Nat}{full:List Oper}{e:Env}{s:List Obj}{K:Env→List Obj→Prop}:mr P N full [] e s K=K e s:=(rfl)
theorem my {P:Program}{N L M:Nat}{Q:Exit→Env→List Obj→Prop}{e:Env}{s:List Obj}:codeWp P N L M .skip Q e s=Q .normal e s:=(rfl)
theorem jZ {P:Program}{N L M:Nat}{Q:Exit→Env→List Obj→Prop}{e:Env}{s:List Obj}{id:Nat}{ops:Array Oper}:codeWp P N L M (.region id ops false) Q e s=mr P N ops.toList ops.toList e s (Qn Q):=(rfl)
theorem mu {P:Program}{N L M:Nat}{Q:Exit→Env→List Obj→Prop}{e:Env}{s:List Obj}{id:Nat}{ops:Array Oper}:codeWp P N L M (.region id ops true) Q e s=uJ P N ops.toList e s (Qn Q):=(rfl)
theorem oG {P:Program}{N L M:Nat}{Q:Exit→Env→List Obj→Prop}{e:Env}{s:List Obj}{a b:Code}:codeWp P N L M (.seq a b) Q e s=codeWp P N L M a (Fy (codeWp P N L M b Q) Q) e s:=(rfl)
theorem kR {P:Program}{N L M:Nat}{Q:Exit→Env→List Obj→Prop}{e:Env}{s:List Obj}{id:Nat}{c:Code}:codeWp P N L M (.block id c) Q e s=codeWp P N L M c (G6 id Q) e s:=(rfl)
theorem mz {P:Program}{N L M:Nat}{Q:Exit→Env→List Obj→Prop}{e:Env}{s:List Obj}{id:Nat}:codeWp P N L M (.exit id) Q e s=Q (.exit id) e s:=(rfl)
theorem nU {P:Program}{N L M:Nat}{Q:Exit→Env→List Obj→Prop}{e:Env}{s:List Obj}:codeWp P N L M .ret Q e s=Q .ret e s:=(rfl)
theorem mh {B:Env→List Obj→Prop}{Q:Exit→Env→List Obj→Prop}{e:Env}{s:List Obj}:Fy B Q .normal e s=B e s:=(rfl)
theorem sA {B:Env→List Obj→Prop}{Q:Exit→Env→List Obj→Prop}{e:Env}{s:List Obj}:Fy B Q .ret e s=Q .ret e s:=(rfl)
theorem qF {B:Env→List Obj→Prop}{Q:Exit→Env→List Obj→Prop}{e:Env}{s:List Obj}{i:Nat}:Fy B Q (.exit i) e s=Q (.exit i) e s:=(rfl)
theorem mB {Q:Exit→Env→List Obj→Prop}{e:Env}{s:List Obj}{i:Nat}:G6 i Q .normal e s=Q .normal e s:=(rfl)
theorem tm {Q:Exit→Env→List Obj→Prop}{e:Env}{s:List Obj}{i:Nat}:G6 i Q .ret e s=Q .ret e s:=(rfl)
theorem qy {Q:Exit→Env→List Obj→Prop}{e:Env}{s:List Obj}{i j:Nat}:G6 i Q (.exit j) e s=if j=i then Q .normal e s else Q (.exit j) e s:=(rfl)
def PB (L:Nat) (I:Nat→Env→List Obj→Prop) (n:Nat) (e:Env) (s:List Obj):Prop:=∃m e1 s1,m<n∧dt L e s e1 s1∧I m e1 s1
theorem aY {P:Program}{N L M:Nat}{c:Code}{Q:Exit→Env→List Obj→Prop}{e:Env}{s:List Obj} (I:Nat→Env→List Obj→Prop) (h0:∃n e1 s1,dt L e s e1 s1∧I n e1 s1) (h:∀n e s,I n e s→codeWp P N L M c (Fy (PB L I n) Q) e s) :
  codeWp P N L M (.loop c) Q e s:=⟨I,h0,h⟩
theorem dJ {P:Program}{N L M:Nat}{σ0:Gh}{s0:List Obj}{w0:World} (hL:s0.length≤L):∀(c:Code) (Q:Exit→Env→List Obj→Prop) (e:Env) (s:List Obj) (σ:Gh) (w:World) (a:Act),
  bc σ0 s0 w0 σ s w→Inv σ s w→fK σ s w N e a→codeWp P N L M c Q e s→c.wp P (QX σ0 s0 w0 N Q) a w
 |.skip,Q,e,s,σ,w,a,hE,hI,hR,h=>wp_skip ⟨e,σ,s,hE,hI,hR,h⟩
 |.region id ops false,Q,e,s,σ,w,a,hE,hI,hR,h=>by
  refine wp_region_list ?_
  have:=pr (Q:=Q) ops.toList e s σ w a hE hI hR h
  simpa using this
 |.region id ops true,Q,e,s,σ,w,a,hE,hI,hR,h=>by
  have:=h σ0 s0 w0 Q (fun _ _ h=>h) σ w a id hE hI hR
  simpa using this
 |.seq x y,Q,e,s,σ,w,a,hE,hI,hR,h=>by
  refine wp_seq (wp_mono (dJ hL x _ e s σ w a hE hI hR h) fun ex a' w' ⟨e',σ',s',uD,jF,oN,hq⟩=>?_)
  cases ex with
  |normal=>exact dJ hL y Q e' s' σ' w' a' uD jF oN hq
  |_=>exact⟨e',σ',s',uD,jF,oN,hq⟩
 |.cond c x y,Q,e,s,σ,w,a,hE,hI,hR,h=>by
  simp only[codeWp,oY]at h
  split at h
  ·rename_i hb
   have hc:=hR.ev c
   rw[hb]at hc
   generalize sf:a.eval c=NC at hc
   cases hc with|d hc=>?_
   cases hc with|ub b=>?_
   refine wp_cond_split sf (fun ht=>?_) (fun hf=>?_)
   ·exact dJ hL x Q _ s σ w a hE hI hR.trim h.1
   ·exact dJ hL y Q _ s σ w a hE hI hR.trim h.2
  unfold fV at h
  split at h
  ·rename_i b hb
   have hc:=hR.ev c
   rw[hb]at hc
   generalize sf:a.eval c=NC at hc
   cases hc with|d hc=>?_
   cases hc with|sc _ _=>?_
   refine wp_cond_split sf (fun ht=>?_) (fun hf=>?_)
   ·exact dJ hL x Q _ s σ w a hE hI hR.trim (h.1 ht)
   ·exact dJ hL y Q _ s σ w a hE hI hR.trim (h.2 hf)
  ·exact h.elim
 |.block id c,Q,e,s,σ,w,a,hE,hI,hR,h=>by
  refine wp_block (wp_mono (dJ hL c _ e s σ w a hE hI hR h) fun ex a' w' ⟨e',σ',s',uD,jF,oN,hq⟩=>?_)
  cases ex with
  |exit i =>
   simp only[Exit.inBlock]
   simp only[G6]at hq
   split
   ·rename_i hi;rw[if_pos hi]at hq;exact⟨e',σ',s',uD,jF,oN,hq⟩
   ·rename_i hi;rw[if_neg hi]at hq;exact⟨e',σ',s',uD,jF,oN,hq⟩
  |_=>exact⟨e',σ',s',uD,jF,oN,hq⟩
 |.loop c,Q,e,s,σ,w,a,hE,hI,hR,h=>by
  obtain⟨I,⟨n0,e0,T2,M0,h0⟩,pR⟩:=h
  obtain⟨σ,hE,hI,hR⟩:=M0 σ0 s0 w0 σ w N a hL hE hI hR
  let J:Nat→Act→World→Prop:=fun n a w=>∃e σ s,bc σ0 s0 w0 σ s w∧Inv σ s w∧fK σ s w N e a∧I n e s
  have least:∀a w,(∃n,J n a w)→∃n,J n a w∧∀m,J m a w→n≤m:=by
   intro a w ⟨n,hn⟩
   induction n using Nat.strongRecOn with
   |_ n ih =>
    by_cases hm:∃m,m<n∧J m a w
    ·obtain⟨m,ly,vx⟩:=hm;exact ih m ly vx
    ·exact⟨n,hn,fun m hj=>by
      rcases VX m n with h'|h'
      ·exact absurd ⟨m,h',hj⟩ hm
      ·exact h'⟩
  classical
  let μ:Act→World→Nat:=fun a w=>if h:∃n,J n a w then Classical.choose (least a w h) else 0
  have hμ:∀a w,(∃n,J n a w)→J (μ a w) a w∧∀m,J m a w→μ a w≤m:=by
   intro a w h
   simp only[μ,dif_pos h]
   exact Classical.choose_spec (least a w h)
  refine wp_loop (fun a w=>∃n,J n a w) μ ⟨n0,e0,σ,T2,hE,hI,hR,h0⟩ fun a w hJ=>?_
  obtain⟨⟨e1,σ1,s1,HE,Uz,TS,hi⟩,_⟩:=hμ a w hJ
  refine wp_mono (dJ hL c _ e1 s1 σ1 w a HE Uz TS (pR _ _ _ hi)) fun ex a' w' ⟨e',σ',s',uD,jF,oN,hq⟩=>?_
  cases ex with
  |normal =>
   obtain⟨m,e2,s2,hm,hc,hi'⟩:=hq
   obtain⟨σ',uD,jF,oN⟩:=hc σ0 s0 w0 σ' w' N a' hL uD jF oN
   have hj:J m a' w':=⟨e2,σ',s2,uD,jF,oN,hi'⟩
   exact⟨⟨m,hj⟩,Nat.lt_of_le_of_lt ((hμ a' w' ⟨m,hj⟩).2 m hj) hm⟩
  |_=>exact⟨e',σ',s',uD,jF,oN,hq⟩
 |.exit id,Q,e,s,σ,w,a,hE,hI,hR,h=>wp_exit ⟨e,σ,s,hE,hI,hR,h⟩
 |.ret,Q,e,s,σ,w,a,hE,hI,hR,h=>wp_ret ⟨e,σ,s,hE,hI,hR,h⟩
 |.rangeFunc ..,_,_,_,_,_,_,_,_,_,h=>h.elim
 |.scope c,Q,e,s,σ,w,a,hE,hI,hR,h=>by
  refine wp_scope_straight (wp_mono (dJ hL c (J6 Q) e s σ w a hE hI hR h) fun ex a' w' ⟨e',σ',s',uD,jF,oN,hq⟩=>?_)
  cases ex with
  |goto l=>exact hq
  |_=>exact⟨e',σ',s',uD,jF,oN,hq⟩
 |.label _,Q,e,s,σ,w,a,hE,hI,hR,h=>wp_label ⟨e,σ,s,hE,hI,hR,h⟩
 |.goto _,_,_,_,_,_,_,_,_,_,h=>h.elim
 |.refuse _,_,_,_,_,_,_,_,_,_,h=>h.elim
def bQ:Nat→Nat→List Obj→V→Option D
 |_,_,_,.d x=>some x
 |_,_,_,.fu aL=>some (.sl aL)
 |n+1,cL,s,.so id g lo m=>match s[id]? with
  |some o=>if o.g=g∧lo+m≤o.aL.length∧(cL≤id∨o.live=false) then
    (((o.aL.drop lo).take m).mapM fun (e:List V)=>e.mapM (bQ n cL s)).map .sl else none
  |none=>none
 |n+1,cL,s,.rf id g k off=>match s[id]? with
  |some o=>if o.g=g∧(cL≤id∨o.live=false) then
    (match o.aL[k]? with
    |some e=>((e.drop off).mapM (bQ n cL s)).map .el
    |none=>none) else none
  |none=>none
 |_,_,_,.pp _ _ _ _ b a=>some (.sc (.pointer (some ⟨b,a,none⟩)))
 |n+1,cL,s,.bx v=>(bQ n cL s v).map fun x=>.el [x]
 |n+1,cL,s,.cl fn first ai=>match first.mapM (bQ n cL s),ai.mapM (bQ n cL s) with
  |some f,some c=>some (.cl fn f c)
  |_,_=>none
 |_,_,_,_=>none
theorem qB {σ:Gh}{s:List Obj}{w:World} (hI:Inv σ s w) (cL:Nat):∀(n:Nat) (x:V) (u:Value) (y:D),aJ σ s w x u→bQ n cL s x=some y→du (Own σ (s.take cL)) w y u:=by
 have gK:∀b,Own σ (s.take cL) b→Own σ s b:=by
  rintro b (h|⟨id,o,base,h1,h2,h3⟩)
  ·exact .inl h
  ·rw[VW]at h1
   split at h1
   ·exact .inr ⟨id,o,base,h1,h2,h3⟩
   ·cases h1
 intro n
 induction n with
 |zero =>
  intro x u y hr h
  cases hr <;> simp only[bQ,Option.some.injEq]at h <;> first|(cases h;done)|(subst h;exact du.own gK (by assumption))|(subst h;exact .sc _ rfl)
 |succ n ih =>
  intro x u y hr h
  cases hr with
  |d h'=>simp only[bQ,Option.some.injEq]at h;subst h;exact du.own gK h'
  |fu h'=>simp only[bQ,Option.some.injEq]at h;subst h;exact du.own gK h'
  |pp o ho hg hk=>simp only[bQ,Option.some.injEq]at h;subst h;exact .sc _ rfl
  |bx h1 h2 h3 hu h4 =>
   simp only[bQ]at h
   obtain⟨z,hz,rfl⟩:=Option.map_eq_some_iff.1 h
   rename_i v a u
   refine du.el [z] a (fun _=>u) h1 (fun j x hx=>?_) (fun j x hx=>?_)
   ·cases j with
    |zero=>exact⟨h2,fun h'=>h3 (gK _ h')⟩
    |succ j=>simp at hx
   ·cases j with
    |zero=>simp at hx;subst hx;exact ih _ _ _ h4 hz
    |succ j=>simp at hx
  |cl h1 h2 h3 h4 =>
   simp only[bQ]at h
   split at h
   case h_2=>cases h
   rename_i f c hf hc
   cases h
   obtain⟨f1,f2⟩:=iB hf
   obtain⟨c1,c2⟩:=iB hc
   refine .cl (by omega) (fun i x hx=>?_) (by omega) (fun i x hx=>?_)
   ·obtain⟨z,k1,k2⟩:=f2 i x hx
    exact ih _ _ _ (h2 i z k1) k2
   ·obtain⟨z,k1,k2⟩:=c2 i x hx
    exact ih _ _ _ (h4 i z k1) k2
  |so o ho hg hu hk =>
   rename_i id g lo m
   simp only[bQ,ho]at h
   split at h
   case isFalse=>cases h
   rename_i hc
   obtain⟨rM,hlen,Lh⟩:=hc
   obtain⟨aL,kV,rfl⟩:=Option.map_eq_some_iff.1 h
   obtain⟨m1,m2⟩:=iB kV
   have hl:aL.length=m:=by rw[m1];simp;omega
   rcases hk rM with ⟨eB,⟨a,rfl⟩,rfl,rfl⟩|⟨b,base,cap,E,arr,g1,g2,rfl,g4,g5⟩
   ·have:aL=[]:=VD hl
    subst this
    cases a with
    |none=>exact .nil
    |some a=>exact du.sl [] a 0 0 (fun _ _=>undef) (by simp) (by simp) (by simp) (by simp) (by simp)
   ·rcases hI.content _ o ho with h1|⟨b',cj,cH,E',h1,h2,h3,h4,h5⟩
    ·exact(h1.yW g1 ⟨arr,E,g2⟩).elim
    rw[g1]at h1;cases h1
    rw[g2]at h2;cases h2
    have hO:¬Own σ (s.take cL) b:=by
     rintro (h|⟨jJ,o',cj,k1,k2,k3⟩)
     ·exact hI.apart _ o b base ho g1 h
     ·rw[VW]at k1
      split at k1
      ·rename_i aT
       have:=hI.inj jJ id o' o b cj base k1 ho k2 k3 g1
       subst this
       rcases Lh with h|h
       ·omega
       ·rw[ho]at k1;cases k1;rw[h]at k2;cases k2
      ·cases k1
    rw[← hl]
    refine du.Ej (sz:=o.sz) (by omega) (fun e he=>?_) hO (fun i j x hx=>?_)
    ·obtain⟨i,hi⟩:=List.mem_iff_getElem?.1 he
     obtain⟨e',k1,k2⟩:=m2 i e hi
     rw[(iB k2).1]
     exact h3 e' (List.mem_of_mem_drop (Wo (Vy k1)))
    ·cases hi:aL[i]? with
     |none=>rw[hi]at hx;cases hx
     |some e =>
      rw[hi]at hx
      obtain⟨e',k1,k2⟩:=m2 i e hi
      obtain⟨v,k3,k4⟩:=(iB k2).2 j x hx
      rw[VW]at k1
      split at k1
      case isFalse=>cases k1
      rw[Wf]at k1
      obtain⟨c,c1,c2,c3⟩:=h5 (lo+i) j v (by rw[k1];exact k3)
      refine⟨c,?_,ih v c x c3 k4⟩
      simp only[World.cell?,g2]
      rw[Wa]at c1
      simpa [Wk]using c1
  |rf o ho hg hu hk =>
   rename_i id g k off
   simp only[bQ,ho]at h
   split at h
   case isFalse=>cases h
   rename_i hc
   obtain⟨rM,Lh⟩:=hc
   split at h
   case h_2=>cases h
   rename_i e he
   obtain⟨cs,mW,rfl⟩:=Option.map_eq_some_iff.1 h
   obtain⟨m1,m2⟩:=iB mW
   obtain⟨b,base,g1,gC,rfl⟩:=hk rM
   rcases hI.content _ o ho with h1|⟨b',cj,cH,E',h1,h2,h3,h4,h5⟩
   ·exact(h1.yW g1 gC).elim
   rw[g1]at h1;cases h1
   have hO:¬Own σ (s.take cL) b:=by
    rintro (h|⟨jJ,o',cj,k1,k2,k3⟩)
    ·exact hI.apart _ o b base ho g1 h
    ·rw[VW]at k1
     split at k1
     ·rename_i aT
      have:=hI.inj jJ id o' o b cj base k1 ho k2 k3 g1
      subst this
      rcases Lh with h|h
      ·omega
      ·rw[ho]at k1;cases k1;rw[h]at k2;cases k2
     ·cases k1
   have key:∀j x,cs[j]?=some x→∃c,w.cell? ⟨b,base+k*o.sz+off+j,none⟩=some c∧du (Own σ (s.take cL)) w x c:=by
    intro j x hx
    obtain⟨v,k3,k4⟩:=m2 j x hx
    rw[Wf]at k3
    obtain⟨c,c1,c2,c3⟩:=h5 k (off+j) v (by rw[he];exact k3)
    refine⟨c,?_,ih v c x c3 k4⟩
    simp only[World.cell?,h2]
    simpa [Wk]using c1
   refine .el cs _ (fun j=>(w.cell? ⟨b,base+k*o.sz+off+j,none⟩).getD undef) rfl (fun j x hx=>⟨?_,hO⟩) (fun j x hx=>?_)
   ·obtain⟨c,h1,_⟩:=key j x hx
    simp only[h1,Option.getD_some]
   ·obtain⟨c,h1,Ml⟩:=key j x hx
    simp only[h1,Option.getD_some]
    exact Ml
  |_=>simp [bQ]at h
def ar (cL:Nat):V→Bool
 |.d _|.fu _|.un=>true
 |.so id _ _ _=>decide (id<cL)
 |.rf id _ _ _=>decide (id<cL)
 |.pp id _ _ _ _ _=>decide (id<cL)
 |.mp id _=>decide (id<cL)
 |.ag cs=>go cs
 |.tu cs=>go cs
 |.bx v=>ar cL v
 |.cap _ _ v=>ar cL v
 |.cl _ first ai=>go first&&go ai
 |.any=>true
where go:List V→Bool
 |[]=>true
 |v::vs=>ar cL v&&go vs
theorem dE {cL:Nat}:∀{l:List V},ar.go cL l=true→∀(i:Nat) (x:V),l[i]?=some x→ar cL x=true
 |[],_,i,x,hx=>by simp at hx
 |v::vs,h,i,x,hx=>by
  simp only[ar.go,VE]at h
  cases i with
  |zero=>simp at hx;subst hx;exact h.1
  |succ i=>exact dE h.2 i x (by simpa using hx)
theorem aJ.take {σ:Gh}{s:List Obj}{w:World}{cL:Nat}{x:V}{u:Value} (hr:aJ σ s w x u) (h:ar cL x=true):aJ σ (s.take cL) w x u:=by
 have gK:∀b,Own σ (s.take cL) b→Own σ s b:=by
  rintro b (h|⟨id,o,base,h1,h2,h3⟩)
  ·exact .inl h
  ·rw[VW]at h1
   split at h1
   ·exact .inr ⟨id,o,base,h1,h2,h3⟩
   ·cases h1
 induction hr with
 |d hx=>exact .d (hx.own gK)
 |ag h1 h2 _ ih=>exact .ag h1 h2 fun i x hx=>ih i x hx (dE (by simpa only[ar]using h) i x hx)
 |tu h1 _ ih=>exact .tu h1 fun i x hx=>ih i x hx (dE (by simpa only[ar]using h) i x hx)
 |fu hx=>exact .fu (hx.own gK)
 |so o ho hg hu hk =>
  simp only[ar,decide_eq_true_eq]at h
  exact .so o (by rw[VW,if_pos h];exact ho) hg hu hk
 |rf o ho hg hu hk =>
  simp only[ar,decide_eq_true_eq]at h
  exact .rf o (by rw[VW,if_pos h];exact ho) hg hu hk
 |pp o ho hg hk =>
  simp only[ar,decide_eq_true_eq]at h
  exact .pp o (by rw[VW,if_pos h];exact ho) hg hk
 |mp o ho hg hu hk =>
  simp only[ar,decide_eq_true_eq]at h
  exact .mp o (by rw[VW,if_pos h];exact ho) hg hu hk
 |bx h1 h2 h3 hu _ ih=>exact .bx h1 h2 (fun h'=>h3 (gK _ h')) hu (ih (by simpa only[ar]using h))
 |cap h1 _ ih=>exact .cap h1 (ih (by simpa only[ar]using h))
 |cl h1 _ h3 _ yj gz =>
  simp only[ar,VE]at h
  exact .cl h1 (fun i x hx=>yj i x hx (dE h.1 i x hx)) h3 (fun i x hx=>gz i x hx (dE h.2 i x hx))
 |un=>exact .un
 |any=>exact .any
def aZ (cL:Nat) (s:List Obj):V→Option V
 |.d x=>some (.d x)
 |.fu aL=>some (.d (.sl aL))
 |.so id g lo m=>match bQ 8 cL s (.so id g lo m) with
  |some x=>some (.d x)
  |none=>if id<cL then some (.so id g lo m) else none
 |.rf id g i off=>match bQ 8 cL s (.rf id g i off) with
  |some x=>some (.d x)
  |none=>if id<cL then some (.rf id g i off) else none
 |.pp id g i off b a=>if id<cL then some (.pp id g i off b a) else some (.d (.sc (.pointer (some ⟨b,a,none⟩))))
 |.mp id g=>if id<cL then some (.mp id g) else none
 |.ag cs=>(go cs).map .ag
 |.tu cs=>(go cs).map .tu
 |.bx v=>(bQ 8 cL s (.bx v)).map .d
 |.cap _ _ v=>aZ cL s v
 |.cl fn first ai=>match bQ 8 cL s (.cl fn first ai) with
  |some x=>some (.d x)
  |none=>if ar cL (.cl fn first ai) then some (.cl fn first ai) else none
 |.un=>some .un
 |.any=>some .any
where go:List V→Option (List V)
 |[]=>some []
 |v::vs=>match aZ cL s v,go vs with
  |some v',some Tm=>some (v'::Tm)
  |_,_=>none
theorem nS {cL:Nat}{s:List Obj}:∀{l r:List V},aZ.go cL s l=some r→r.length=l.length∧∀(i:Nat) (y:V),r[i]?=some y→∃x,l[i]?=some x∧aZ cL s x=some y
 |[],r,h=>by simp [aZ.go]at h;subst h;simp
 |v::vs,r,h=>by
  simp only[aZ.go]at h
  split at h
  ·rename_i v' Tm h1 h2
   simp only[Option.some.injEq]at h
   subst h
   obtain⟨k1,k2⟩:=nS h2
   refine⟨by simp [k1],fun i y hy=>?_⟩
   cases i with
   |zero=>simp at hy;subst hy;exact⟨v,rfl,h1⟩
   |succ i=>simpa using k2 i y (by simpa using hy)
  ·cases h
theorem lA {σ:Gh}{s:List Obj}{w:World} (hI:Inv σ s w) {cL:Nat}{x:V}{u:Value} (hr:aJ σ s w x u):∀{y:V},aZ cL s x=some y→aJ σ (s.take cL) w y u:=by
 have gK:∀b,Own σ (s.take cL) b→Own σ s b:=by
  rintro b (h|⟨id,o,base,h1,h2,h3⟩)
  ·exact .inl h
  ·rw[VW]at h1
   split at h1
   ·exact .inr ⟨id,o,base,h1,h2,h3⟩
   ·cases h1
 induction hr with
 |d hx=>intro y h;simp only[aZ,Option.some.injEq]at h;subst h;exact .d (hx.own gK)
 |fu hx=>intro y h;simp only[aZ,Option.some.injEq]at h;subst h;exact .d (hx.own gK)
 |so o ho hg hu hk =>
  intro y h
  simp only[aZ]at h
  split at h
  ·rename_i z hz
   simp only[Option.some.injEq]at h
   subst h
   exact .d (qB hI cL 8 _ _ z (.so o ho hg hu hk) hz)
  ·split at h
   ·simp only[Option.some.injEq]at h
    subst h
    exact aJ.take (.so o ho hg hu hk) (by simpa [ar]using ‹_›)
   ·cases h
 |rf o ho hg hu hk =>
  intro y h
  simp only[aZ]at h
  split at h
  ·rename_i z hz
   simp only[Option.some.injEq]at h
   subst h
   exact .d (qB hI cL 8 _ _ z (.rf o ho hg hu hk) hz)
  ·split at h
   ·simp only[Option.some.injEq]at h
    subst h
    exact aJ.take (.rf o ho hg hu hk) (by simpa [ar]using ‹_›)
   ·cases h
 |pp o ho hg hk =>
  intro y h
  simp only[aZ]at h
  split at h
  ·simp only[Option.some.injEq]at h
   subst h
   exact aJ.take (.pp o ho hg hk) (by simpa [ar]using ‹_›)
  ·simp only[Option.some.injEq]at h
   subst h
   exact .d (.sc _ rfl)
 |mp o ho hg hu hk =>
  intro y h
  simp only[aZ]at h
  split at h
  ·simp only[Option.some.injEq]at h
   subst h
   exact aJ.take (.mp o ho hg hu hk) (by simpa [ar]using ‹_›)
  ·cases h
 |ag h1 h2 _ ih =>
  intro y h
  simp only[aZ]at h
  obtain⟨cs,mW,rfl⟩:=Option.map_eq_some_iff.1 h
  obtain⟨k1,k2⟩:=nS mW
  refine .ag (by omega) (fun i x hx=>?_) (fun i x hx=>?_)
  ·obtain⟨z,hz,_⟩:=k2 i x hx;exact h2 i z hz
  ·obtain⟨z,hz,Qz⟩:=k2 i x hx;exact ih i z hz Qz
 |tu h1 _ ih =>
  intro y h
  simp only[aZ]at h
  obtain⟨cs,mW,rfl⟩:=Option.map_eq_some_iff.1 h
  obtain⟨k1,k2⟩:=nS mW
  refine .tu (by omega) (fun i x hx=>?_)
  obtain⟨z,hz,Qz⟩:=k2 i x hx;exact ih i z hz Qz
 |cap h1 _ ih=>intro y h;exact ih (by simpa only[aZ]using h)
 |bx h1 h2 h3 hu h4 =>
  intro y h
  simp only[aZ]at h
  obtain⟨z,hz,rfl⟩:=Option.map_eq_some_iff.1 h
  exact .d (qB hI cL 8 _ _ z (.bx h1 h2 h3 hu h4) hz)
 |cl h1 h2 h3 h4 =>
  intro y h
  simp only[aZ]at h
  split at h
  ·rename_i z hz
   simp only[Option.some.injEq]at h
   subst h
   exact .d (qB hI cL 8 _ _ z (.cl h1 h2 h3 h4) hz)
  ·split at h
   ·simp only[Option.some.injEq]at h
    subst h
    exact aJ.take (.cl h1 h2 h3 h4) (by assumption)
   ·cases h
 |un=>intro y h;simp only[aZ,Option.some.injEq]at h;subst h;exact .un
 |any=>intro y h;simp only[aZ,Option.some.injEq]at h;subst h;exact .any
def cP (cL:Nat) (o:Obj):Bool:=o.aL.all fun e=>e.all (ar cL)
def Gu (cL:Nat) (s:List Obj) (r:V) (K:V→List Obj→Prop):Prop :=
 (s.take cL).all (cP cL)=true∧match aZ cL s r with
  |some r'=>K r' (s.take cL)
  |none=>False
theorem bc.take {σ s w σ' s' w'} (h:bc σ s w σ' s' w') {cL:Nat} (hl:s.length≤cL):bc σ s w σ' (s'.take cL) w':=by
 refine⟨h.os,h.tape,h.output,h.size,h.cc,h.shape,h.pF,fun b hb=>h.own b ?_,fun id o ho=>?_,h.base,h.gn⟩
 ·rcases hb with hb|⟨id,o,base,h1,h2,h3⟩
  ·exact .inl hb
  ·rw[VW]at h1
   split at h1
   ·exact .inr ⟨id,o,base,h1,h2,h3⟩
   ·cases h1
 ·obtain⟨o',h1,h2⟩:=h.aF id o ho
  have:=(List.getElem?_eq_some_iff.1 ho).1
  exact⟨o',by rw[VW,if_pos (by omega)];exact h1,h2⟩
theorem Inv.take {σ:Gh}{s:List Obj}{w:World} (h:Inv σ s w) {cL:Nat} (ho:(s.take cL).all (cP cL)=true):Inv σ (s.take cL) w:=by
 have get:∀(id:Nat) (o:Obj),(s.take cL)[id]?=some o→s[id]?=some o:=by
  intro id o hh
  rw[VW]at hh
  split at hh
  ·exact hh
  ·cases hh
 refine⟨fun id o hh=>?_,fun id jJ o o' b base cj h1 h2=>h.inj id jJ o o' b base cj (get _ _ h1) (get _ _ h2),h.low,fun id o b base h1=>h.apart id o b base (get _ _ h1)⟩
 rcases h.content id o (get _ _ hh) with h1|⟨b,base,arr,E,h1,h2,h3,h4,h5⟩
 ·exact .inl h1
 ·refine .inr ⟨b,base,arr,E,h1,h2,h3,h4,fun i j x hx=>?_⟩
  obtain⟨u,k1,k2,k3⟩:=h5 i j x hx
  refine⟨u,k1,k2,k3.take ?_⟩
  have hobj:=List.all_eq_true.1 ho o (Vy hh)
  cases xC:o.aL[i]? with
  |none=>rw[xC]at hx;cases hx
  |some e =>
   rw[xC]at hx
   exact List.all_eq_true.1 (List.all_eq_true.1 hobj e (Vy xC)) x (Vy hx)
def Ep (P:Program) (e:Env) (s:List Obj) (r:ResultVar) (K:V→Prop):Prop :=
 match r with
 |.tmp t=>K (e t)
 |.cell a t=>jH P t s (e a) K
def Bc (P:Program) (e:Env) (s:List Obj):List ResultVar→List V→(List V→Prop)→Prop
 |[],acc,K=>K acc
 |r::rs,acc,K=>Ep P e s r fun v=>Bc P e s rs (acc++[v]) K
def xm (P:Program) (rs:List ResultVar) (e:Env) (s:List Obj) (K:V→Prop):Prop :=
 Bc P e s rs [] fun vs=>match vs with
  |[v]=>K v
  |vs=>K (.tu vs)
def Ls (tmps:Array Value):ResultVar→Sem Value
 |.tmp t=>pure (tmps.getD t undef)
 |.cell x t=>do loadVar t (← asAddr (tmps.getD x undef))
theorem EV (fn:Func) (tmps:Array Value):results fn tmps=(do let vs ← fn.results.mapM (Ls tmps);pure (if h:vs.size=1 then vs[0] else .tuple vs)):=by
 unfold results
 congr 1
theorem Fg {P:Program}{N:Nat}{σ:Gh}{s:List Obj}{w:World}{e:Env}{a:Act}{r:ResultVar}{K:V→Prop} (hI:Inv σ s w) (hR:fK σ s w N e a) (h:Ep P e s r K) :
  ∃v c,(Ls a.tmps r).run P w=.ok c w∧aJ σ s w v c∧K v:=by
 cases r with
 |tmp t=>exact⟨e t,_,rfl,hR.2.2 t,h⟩
 |cell x t =>
  simp only[Ep]at h
  have hx:=hR.2.2 x
  generalize sf:a.tmps.getD x undef=c at hx
  obtain⟨v,r,k1,k2,k3⟩:=xX hI hx h
  have hp:∃ad,c=.pointer (some ad):=by
   unfold jH at h
   split at h
   ·exact h.elim
   ·split at h
    ·rename_i hh
     rw[hh]at hx
     cases hx with|d hx=>?_
     cases hx with|el _ ad _ _ _ _=>exact⟨ad,rfl⟩
    ·rename_i hh
     rw[hh]at hx
     cases hx with|bx _ _ _ _ _=>exact⟨_,rfl⟩
    ·rename_i hh
     rw[hh]at hx
     split at h
     ·exact h.elim
     ·rename_i o ho
      obtain⟨b,base,_,_,hp⟩:=Fq hx ho h.1
      exact⟨_,hp⟩
    ·rename_i hh
     rw[hh]at hx
     exact⟨_,hx.wV⟩
    ·exact h.elim
  obtain⟨ad,rfl⟩:=hp
  refine⟨v,r,?_,k2,k3⟩
  simp only[Ls,sf,asAddr,Sem.run_bind,Sem.run_pure,Result.andThen_ok]
  simpa [Instr.loadAt,Instr.sureAddr]using k1
theorem xb {P:Program}{N:Nat}{σ:Gh}{s:List Obj}{w:World}{e:Env}{a:Act} (hI:Inv σ s w) (hR:fK σ s w N e a):∀(rs:List ResultVar) (acc:List V) (K:List V→Prop),Bc P e s rs acc K →
  ∃vs us,(rs.mapM (Ls a.tmps)).run P w=.ok us w∧us.length=vs.length ∧
   (∀(i:Nat) (x:V),vs[i]?=some x→∃u,us[i]?=some u∧aJ σ s w x u)∧K (acc++vs)
 |[],acc,K,h=>⟨[],[],by simp,rfl,by simp,by simpa [Bc]using h⟩
 |r::rs,acc,K,h=>by
  simp only[Bc]at h
  obtain⟨v,c,k1,k2,k3⟩:=Fg hI hR h
  obtain⟨vs,us,m1,m2,m3,m4⟩:=xb hI hR rs _ K k3
  refine⟨v::vs,c::us,?_,by simp [m2],fun i x hx=>?_,by simpa using m4⟩
  ·rw[Wz,Sem.run_bind,k1,Result.andThen_ok,Sem.run_bind,m1,Result.andThen_ok]
   rfl
  ·cases i with
   |zero=>simp at hx;subst hx;exact⟨c,rfl,k2⟩
   |succ i=>simpa using m3 i x (by simpa using hx)
theorem pb {P:Program}{N:Nat}{σ:Gh}{s:List Obj}{w:World}{e:Env}{a:Act}{fn:Func}{K:V→Prop} (hI:Inv σ s w) (hR:fK σ s w N e a) (h:xm P fn.results.toList e s K) :
  ∃v c,(results fn a.tmps).run P w=.ok c w∧aJ σ s w v c∧K v:=by
 obtain⟨vs,us,m1,m2,m3,m4⟩:=xb hI hR _ _ _ h
 have cY:(results fn a.tmps).run P w=.ok (if h:us.toArray.size=1 then us.toArray[0] else .tuple us.toArray) w:=by
  rw[EV]
  rw[← Array.toArray_toList (xs:=fn.results),List.mapM_toArray]
  simp only[Sem.run_bind,Sem.run_map,m1,Result.andThen_ok,Sem.run_pure]
 rw[cY]
 simp only[Vx]at m4
 split at m4
 ·rename_i v
  have hlen:us.length=1:=by simpa using m2
  obtain⟨u,hu,KT⟩:=m3 0 v rfl
  refine⟨v,u,?_,KT,m4⟩
  rw[dif_pos (by simpa using hlen)]
  have:=(List.getElem?_eq_some_iff.1 hu).2
  simp [this]
 ·rename_i gf
  have hlen:us.length≠1:=by
   intro hh
   rw[m2]at hh
   match vs,hh,gf with
   |[v],_,gf=>exact gf v rfl
  refine⟨.tu vs,.tuple us.toArray,by rw[dif_neg (by simpa using hlen)],.tu (by simpa using m2) (fun i x hx=>?_),m4⟩
  obtain⟨u,hu,KT⟩:=m3 i x hx
  rw[n6 hu]
  exact KT
def jt:List V→Env
 |[],_=>.un
 |v::_,0=>v
 |_::l,n+1=>jt l n
theorem qN:∀(l:List V) (t:Nat),jt l t=(l[t]?).getD .un
 |[],t=>by simp [jt]
 |v::l,0=>rfl
 |v::l,t+1=>by simp [jt,qN l t]
def vN:Exit→Prop
 |.normal=>True
 |.ret=>True
 |_=>False
theorem uV {ex:Exit} (h:vN ex):ex=.normal∨ex=.ret:=by
 cases ex <;> simp_all [vN]
def Qm (P:Program) (rs:List ResultVar) (cL:Nat) (K:V→List Obj→Prop) (ex:Exit) (e:Env) (s:List Obj):Prop:=vN ex∧xm P rs e s fun r=>Gu cL s r K
theorem sI {P:Program}{rs:List ResultVar}{cL:Nat}{K:V→List Obj→Prop}{ex:Exit}{e:Env}{s:List Obj}:Qm P rs cL K ex e s=(vN ex∧xm P rs e s fun r=>Gu cL s r K):=rfl
theorem av {P : Program} {f : FuncId} {fn : Func} {c : Code} {args : List V} {exts : List Obj} {K : V → List Obj → Prop} (hf : P.funcs[f]? = some fn) (hb : fn.body = some c) {N : Nat} (hN : fn.ntmps = N) {rs : Array ResultVar} (Ps : fn.results = rs) (hn : (fn.name != "runtime.NumGoroutine") = true)
  (cL M:Nat) (hl:exts.length≤cL) (ha:args.length≤N)
  (h:codeWp P N cL M c (Qm P rs.toList cL K) (jt args) exts):az P f args exts K:=by
 subst hN;subst Ps
 refine⟨by simp only[Ii,hf,hn,hb,Option.isSome_some,Bool.and_self],fun σ w vals hI OY hv=>?_⟩
 refine calls_of_wp hf hb ?_
 have hR:fK σ exts w fn.ntmps (jt args) { tmps:=vals++Array.replicate (fn.ntmps-vals.size) undef,defers:=[] }:=by
  refine⟨rfl,by simp;omega,fun t=>?_⟩
  rw[qN]
  by_cases ht:t<args.length
  ·have h1:=hv t args[t] (by simp [ht])
   have:(vals++Array.replicate (fn.ntmps-vals.size) undef).getD t undef=vals.getD t undef:=by
    rw[VI,Array.getElem?_append_left (by omega),VI]
   rw[this]
   simpa [ht]using h1
  ·have:(vals++Array.replicate (fn.ntmps-vals.size) undef).getD t undef=undef:=by
    rw[VI,Array.getElem?_append_right (by omega),Array.getElem?_replicate]
    split <;> rfl
   rw[this]
   simp [ht]
   exact .un
 refine wp_mono (dJ hl c _ (jt args) exts σ w _ (bc.refl _ _ _) hI hR h) fun ex a' w' ⟨e',σ',s',hE,jF,oN,hex,hq⟩=>?_
 obtain⟨v,u,k1,k2,k3⟩:=pb jF oN hq
 obtain⟨h1,h2⟩:=k3
 have fin:a'.defers=[]∧∃v,(results fn a'.tmps).run P w'=.ok v w'∧∃u MM wJ tj,Ending.returned v=.returned u∧bc σ exts w wJ tj w'∧Inv wJ tj w'∧aJ wJ tj w' MM u∧K MM tj:=by
  refine⟨oN.1,u,k1,?_⟩
  split at h2
  ·rename_i r' Lf
   exact⟨u,r',σ',s'.take cL,rfl,hE.take hl,jF.take h1,lA jF k2 Lf,h2⟩
  ·exact h2.elim
 rcases uV hex with rfl|rfl
 ·exact fin
 ·exact fin
theorem aj {P:Program}{f:FuncId}{args:List V}{s:List Obj}{K K':V→List Obj→Prop} (h:az P f args s K) (hk:∀v s',K v s'→K' v s'):az P f args s K' :=
 ⟨h.1,fun σ w vals hI hl hv=>(h.2 σ w vals hI hl hv).mono fun _ _ ⟨u,v,σ',s',a,b,c,d,e⟩=>⟨u,v,σ',s',a,b,c,d,hk v s' e⟩⟩
theorem aJ.move {σ σ':Gh}{s s':List Obj}{w:World}{x:V}{u:Value} (hr:aJ σ s w x u) (h:ar 0 x=true) (gK:∀b,Own σ' s' b→Own σ s b):aJ σ' s' w x u:=by
 induction hr with
 |d hx=>exact .d (hx.own gK)
 |ag h1 h2 _ ih=>exact .ag h1 h2 fun i x hx=>ih i x hx (dE (by simpa only[ar]using h) i x hx)
 |tu h1 _ ih=>exact .tu h1 fun i x hx=>ih i x hx (dE (by simpa only[ar]using h) i x hx)
 |fu hx=>exact .fu (hx.own gK)
 |so o ho hg hu hk=>simp [ar]at h
 |rf o ho hg hu hk=>simp [ar]at h
 |pp o ho hg hk=>simp [ar]at h
 |mp o ho hg hu hk=>simp [ar]at h
 |bx h1 h2 h3 hu _ ih=>exact .bx h1 h2 (fun h'=>h3 (gK _ h')) hu (ih (by simpa only[ar]using h))
 |cap h1 _ ih=>exact .cap h1 (ih (by simpa only[ar]using h))
 |cl h1 _ h3 _ yj gz =>
  simp only[ar,VE]at h
  exact .cl h1 (fun i x hx=>yj i x hx (dE h.1 i x hx)) h3 (fun i x hx=>gz i x hx (dE h.2 i x hx))
 |un=>exact .un
 |any=>exact .any
theorem Fu (cL:Nat) (l:List D):ar.go cL (l.map .d)=true:=by
 induction l with
 |nil=>rfl
 |cons x l ih=>simp [ar.go,ar,ih]
def bI (P:Program) (f:FuncId) (args:List V) (r:V):Prop:=az P f args [] fun v s'=>v=r∧s'=[]
theorem aE {P:Program}{f:FuncId}{args:List V}{r:V}{s:List Obj}{K:V→List Obj→Prop} (h:bI P f args r) (ha:ar.go 0 args=true) (hr:ar 0 r=true) (hk:K r s):az P f args s K:=by
 refine⟨h.1,fun σ w vals hI hl hv=>?_⟩
 have e1:∀b,Own ⟨fun _=>none,Own σ s⟩ [] b→Own σ s b:=by
  rintro b (h|⟨id,o,base,h1,_⟩)
  ·exact h
  ·simp at h1
 refine(h.2 ⟨fun _=>none,Own σ s⟩ w vals ⟨fun id o ho=>by simp at ho,fun id _ o _ _ _ _ ho=>by simp at ho,fun b hb=>uf hI hb,fun id o _ _ ho=>by simp at ho⟩ hl
  (fun i x hx=>(hv i x hx).move (dE ha i x hx) e1)).mono fun e w' ⟨u,v,σ',s',he,hE,jF,hR,Sv,nq⟩=>?_
 subst Sv;subst nq
 have same:=sX (w':=w') hI hE.os hE.tape hE.output hE.size fun b hb=>by
  by_cases ho:Own σ s b
  ·exact hE.gn b hb ho
  ·exact hE.cc b hb fun h'=>ho (e1 b h')
 refine⟨u,_,σ,s,he,same.1,same.2,hR.move hr fun b hb=>.inl ?_,hk⟩
 rw[hE.base];exact hb
def bu (ρ:List Nat):V→V
 |.so id g lo n=>.so (ρ.getD id 0) g lo n
 |.rf id g i off=>.rf (ρ.getD id 0) g i off
 |.pp id g i off b a=>.pp (ρ.getD id 0) g i off b a
 |.mp id g=>.mp (ρ.getD id 0) g
 |.ag cs=>.ag (go cs)
 |.tu cs=>.tu (go cs)
 |.bx v=>.bx (bu ρ v)
 |.cap lo hi v=>.cap lo hi (bu ρ v)
 |.cl fn first ai=>.cl fn (go first) (go ai)
 |.d x=>.d x
 |.fu aL=>.fu aL
 |.un=>.un
 |.any=>.any
where go:List V→List V
 |[]=>[]
 |v::vs=>bu ρ v::go vs
theorem gM (ρ:List Nat):∀(l:List V),bu.go ρ l=l.map (bu ρ)
 |[]=>rfl
 |v::vs=>by simp [bu.go,gM ρ vs]
def ct (ρ:List Nat) (o:Obj):Obj:={ o with aL:=o.aL.map (bu.go ρ) }
def bm (s:List Obj):List Nat→List Obj→List Obj
 |r::ρ,o::os=>bm (s.set r o) ρ os
 |_,_=>s
theorem lH:∀(ρ:List Nat) (os:List Obj) (s:List Obj),(bm s ρ os).length=s.length
 |[],_,s=>by simp [bm]
 |r::ρ,[],s=>by simp [bm]
 |r::ρ,o::os,s=>by simp [bm,lH ρ os]
theorem fH:∀(ρ:List Nat) (os:List Obj) (s:List Obj) (id:Nat),id ∉ ρ→(bm s ρ os)[id]?=s[id]?
 |[],_,s,id,_=>by simp [bm]
 |r::ρ,[],s,id,_=>by simp [bm]
 |r::ρ,o::os,s,id,h=>by
  simp only[Wu,not_or]at h
  simp only[bm]
  rw[fH ρ os _ id h.2,Wg (Ne.symm h.1)]
theorem se:∀(ρ:List Nat) (os:List Obj) (s:List Obj) (k r:Nat) (o:Obj),ρ.Nodup→ρ[k]?=some r→os[k]?=some o→r<s.length→(bm s ρ os)[r]?=some o
 |[],_,s,k,r,o,_,h,_,_=>by simp at h
 |r'::ρ,[],s,k,r,o,_,_,h,_=>by simp at h
 |r'::ρ,o'::os,s,k,r,o,hn,h1,h2,h3=>by
  simp only[List.nodup_cons]at hn
  simp only[bm]
  cases k with
  |zero =>
   simp only[VQ,Option.some.injEq]at h1 h2
   subst h1;subst h2
   rw[fH ρ os _ r' hn.1,V8 h3]
  |succ k=>exact se ρ os _ k r o hn.2 (by simpa using h1) (by simpa using h2) (by simpa using h3)
section frame
variable {σ:Gh}{s exts:List Obj}{ρ:List Nat}{w:World}
theorem ss {σc:Gh} (tZ:∀b,Own σc exts b→Own σ s b) (hs:∀(k:Nat) (o:Obj),exts[k]?=some o→s[ρ.getD k 0]?=some (ct ρ o)) (hσ:∀k,k<exts.length→σc k=σ (ρ.getD k 0))
  {y:V}{u:Value} (hr:aJ σ s w y u):∀{x:V},bu ρ x=y→ar exts.length x=true→aJ σc exts w x u:=by
 induction hr with
 |d hx=>intro x he hh;cases x <;> simp only[bu,reduceCtorEq,V.d.injEq]at he;subst he;exact .d (hx.own tZ)
 |fu hx=>intro x he hh;cases x <;> simp only[bu,reduceCtorEq,V.fu.injEq]at he;subst he;exact .fu (hx.own tZ)
 |un=>intro x he hh;cases x <;> simp only[bu,reduceCtorEq]at he;exact .un
 |any=>intro x he hh;cases x <;> simp only[bu,reduceCtorEq]at he;exact .any
 |ag h1 h2 _ ih =>
  intro x he hh
  cases x <;> simp only[bu,reduceCtorEq,V.ag.injEq]at he
  rename_i cs
  subst he
  rw[gM]at h1 h2 ih
  have g:∀(i:Nat) (x:V),cs[i]?=some x→(cs.map (bu ρ))[i]?=some (bu ρ x):=fun i x hx=>by rw[VB,hx];rfl
  exact .ag (by simpa using h1) (fun i x hx=>h2 i _ (g i x hx)) (fun i x hx=>ih i _ (g i x hx) rfl (dE (by simpa only[ar]using hh) i x hx))
 |tu h1 _ ih =>
  intro x he hh
  cases x <;> simp only[bu,reduceCtorEq,V.tu.injEq]at he
  rename_i cs
  subst he
  rw[gM]at h1 ih
  have g:∀(i:Nat) (x:V),cs[i]?=some x→(cs.map (bu ρ))[i]?=some (bu ρ x):=fun i x hx=>by rw[VB,hx];rfl
  exact .tu (by simpa using h1) (fun i x hx=>ih i _ (g i x hx) rfl (dE (by simpa only[ar]using hh) i x hx))
 |cap h1 _ ih =>
  intro x he hh
  cases x <;> simp only[bu,reduceCtorEq,V.cap.injEq]at he
  obtain⟨rfl,rfl,he⟩:=he
  exact .cap h1 (ih he (by simpa only[ar]using hh))
 |bx h1 h2 h3 hu _ ih =>
  intro x he hh
  cases x <;> simp only[bu,reduceCtorEq,V.bx.injEq]at he
  exact .bx h1 h2 (fun h'=>h3 (tZ _ h')) hu (ih he (by simpa only[ar]using hh))
 |cl h1 _ h3 _ yj gz =>
  intro x he hh
  cases x <;> simp only[bu,reduceCtorEq,V.cl.injEq]at he
  rename_i fn first ai
  obtain⟨rfl,rfl,rfl⟩:=he
  rw[gM]at h1 yj h3 gz
  simp only[ar,VE]at hh
  have g:∀(cs:List V) (i:Nat) (x:V),cs[i]?=some x→(cs.map (bu ρ))[i]?=some (bu ρ x):=fun cs i x hx=>by rw[VB,hx];rfl
  exact .cl (by simpa using h1) (fun i x hx=>yj i _ (g _ i x hx) rfl (dE hh.1 i x hx)) (by simpa using h3) (fun i x hx=>gz i _ (g _ i x hx) rfl (dE hh.2 i x hx))
 |so o ho hg hu hk =>
  intro x he hh
  cases x <;> simp only[bu,reduceCtorEq,V.so.injEq]at he
  rename_i id g lo n
  obtain⟨rfl,rfl,rfl,rfl⟩:=he
  simp only[ar,decide_eq_true_eq]at hh
  have hx:=hs id exts[id] (by simp [hh])
  rw[ho]at hx
  simp only[Option.some.injEq]at hx
  subst hx
  refine .so exts[id] (by simp [hh]) hg hu fun rM=>?_
  have:=hk rM
  unfold yD at this ⊢
  rw[hσ id hh]
  exact this
 |rf o ho hg hu hk =>
  intro x he hh
  cases x <;> simp only[bu,reduceCtorEq,V.rf.injEq]at he
  rename_i id g lo n
  obtain⟨rfl,rfl,rfl,rfl⟩:=he
  simp only[ar,decide_eq_true_eq]at hh
  have hx:=hs id exts[id] (by simp [hh])
  rw[ho]at hx
  simp only[Option.some.injEq]at hx
  subst hx
  refine .rf exts[id] (by simp [hh]) hg hu fun rM=>?_
  rw[hσ id hh]
  exact hk rM
 |pp o ho hg hk =>
  intro x he hh
  cases x <;> simp only[bu,reduceCtorEq,V.pp.injEq]at he
  rename_i id g lo n b a
  obtain⟨rfl,rfl,rfl,rfl,rfl,rfl⟩:=he
  simp only[ar,decide_eq_true_eq]at hh
  have hx:=hs id exts[id] (by simp [hh])
  rw[ho]at hx
  simp only[Option.some.injEq]at hx
  subst hx
  refine .pp exts[id] (by simp [hh]) hg fun rM=>?_
  rw[hσ id hh]
  exact hk rM
 |mp o ho hg hu hk =>
  intro x he hh
  cases x <;> simp only[bu,reduceCtorEq,V.mp.injEq]at he
  rename_i id g
  obtain⟨rfl,rfl⟩:=he
  simp only[ar,decide_eq_true_eq]at hh
  have hx:=hs id exts[id] (by simp [hh])
  rw[ho]at hx
  simp only[Option.some.injEq]at hx
  subst hx
  refine .mp exts[id] (by simp [hh]) hg hu fun rM=>?_
  rw[hσ id hh]
  exact hk rM
theorem Kb {σ' σn:Gh}{s' sn:List Obj}{w':World} (tZ:∀b,Own σn sn b→Own σ' s' b) (hs:∀(k:Nat) (o:Obj),s'[k]?=some o→sn[ρ.getD k 0]?=some (ct ρ o)) (hσ:∀k,k<s'.length→σn (ρ.getD k 0)=σ' k)
  {x:V}{u:Value} (hr:aJ σ' s' w' x u):aJ σn sn w' (bu ρ x) u:=by
 have g:∀(cs:List V) (i:Nat) (y:V),(cs.map (bu ρ))[i]?=some y→∃x,cs[i]?=some x∧bu ρ x=y:=fun cs i y hy=>by
  rw[VB]at hy
  exact Option.map_eq_some_iff.1 hy
 induction hr with
 |d hx=>exact .d (hx.own tZ)
 |fu hx=>exact .fu (hx.own tZ)
 |un=>exact .un
 |any=>exact .any
 |ag h1 h2 _ ih =>
  simp only[bu,gM]
  refine .ag (by simpa using h1) (fun i y hy=>?_) (fun i y hy=>?_)
  ·obtain⟨x,hx,rfl⟩:=g _ i y hy;exact h2 i x hx
  ·obtain⟨x,hx,rfl⟩:=g _ i y hy;exact ih i x hx
 |tu h1 _ ih =>
  simp only[bu,gM]
  refine .tu (by simpa using h1) (fun i y hy=>?_)
  obtain⟨x,hx,rfl⟩:=g _ i y hy;exact ih i x hx
 |bx h1 h2 h3 hu _ ih=>simp only[bu];exact .bx h1 h2 (fun h'=>h3 (tZ _ h')) hu ih
 |cap h1 _ ih=>simp only[bu];exact .cap h1 ih
 |cl h1 _ h3 _ yj gz =>
  simp only[bu,gM]
  refine .cl (by simpa using h1) (fun i y hy=>?_) (by simpa using h3) (fun i y hy=>?_)
  ·obtain⟨x,hx,rfl⟩:=g _ i y hy;exact yj i x hx
  ·obtain⟨x,hx,rfl⟩:=g _ i y hy;exact gz i x hx
 |so o ho hg hu hk =>
  have aT:=(List.getElem?_eq_some_iff.1 ho).1
  refine .so (ct ρ o) (hs _ o ho) hg hu fun rM=>?_
  have:=hk rM
  unfold yD at this ⊢
  rw[hσ _ aT]
  exact this
 |rf o ho hg hu hk =>
  have aT:=(List.getElem?_eq_some_iff.1 ho).1
  refine .rf (ct ρ o) (hs _ o ho) hg hu fun rM=>?_
  rw[hσ _ aT]
  exact hk rM
 |pp o ho hg hk =>
  have aT:=(List.getElem?_eq_some_iff.1 ho).1
  refine .pp (ct ρ o) (hs _ o ho) hg fun rM=>?_
  rw[hσ _ aT]
  exact hk rM
 |mp o ho hg hu hk =>
  have aT:=(List.getElem?_eq_some_iff.1 ho).1
  refine .mp (ct ρ o) (hs _ o ho) hg hu fun rM=>?_
  rw[hσ _ aT]
  exact hk rM
theorem z4 {ρ:List Nat}{x:V}{y:D} (h:bu ρ x=.d y):x=.d y:=by
 cases x <;> simp_all [bu]
theorem Gb {ρ:List Nat}:∀{aL:List (List V)}{es:List MapEntry},aL.map (bu.go ρ)=(es.map fun e=>[V.d (.sc e.key),V.d (.sc e.val)])→aL=es.map fun e=>[V.d (.sc e.key),V.d (.sc e.val)]
 |[],[],_=>rfl
 |[],_::_,h=>by simp at h
 |_::_,[],h=>by simp at h
 |e::aL,x::es,h=>by
  simp only[VP,List.cons.injEq]at h ⊢
  obtain⟨h1,h2⟩:=h
  refine⟨?_,Gb h2⟩
  rw[gM]at h1
  match e,h1 with
  |[a,b],h1 =>
   simp only[VP,VO,List.cons.injEq,and_true]at h1
   rw[z4 h1.1,z4 h1.2]
  |[],h1=>simp at h1
  |[_],h1=>simp at h1
  |_::_::_::_,h1=>simp at h1
theorem ri.down {ρ:List Nat}{w:World}{p:Option (Nat×Nat)}{o:Obj} (h:ri w p (ct ρ o)):ri w p o:=by
 rcases h with ⟨h1,h2⟩|⟨b,es,c,h1,h2,h3⟩
 ·exact .inl ⟨h1,by simpa [ct]using h2⟩
 ·exact .inr ⟨b,es,c,h1,h2,Gb h3⟩
theorem ri.up {ρ:List Nat}{w:World}{p:Option (Nat×Nat)}{o:Obj} (h:ri w p o):ri w p (ct ρ o):=by
 rcases h with ⟨h1,h2⟩|⟨b,es,c,h1,h2,h3⟩
 ·exact .inl ⟨h1,by simp [ct,h2]⟩
 ·refine .inr ⟨b,es,c,h1,h2,?_⟩
  simp only[ct,h3,iP,List.map_map]
  apply Wn
  intro e _
  rfl
theorem BA {ρ:List Nat}{o:Obj}{i j:Nat}{y:V} (h:((ct ρ o).aL[i]?.bind (·[j]?))=some y):∃x,(o.aL[i]?.bind (·[j]?))=some x∧bu ρ x=y:=by
 simp only[ct,VB]at h
 cases he:o.aL[i]? with
 |none=>rw[he]at h;cases h
 |some e =>
  rw[he]at h
  simp only[Wc,Wd,gM,VB]at h
  exact Option.map_eq_some_iff.1 h
theorem Ab {ρ:List Nat}{o:Obj}{i j:Nat}{x:V} (h:(o.aL[i]?.bind (·[j]?))=some x):((ct ρ o).aL[i]?.bind (·[j]?))=some (bu ρ x):=by
 simp only[ct,VB]
 cases he:o.aL[i]? with
 |none=>rw[he]at h;cases h
 |some e =>
  rw[he]at h
  simp only[Wc,Wd,gM,VB]
  rw[show e[j]?=some x from h]
  rfl
end frame
theorem rN {P:Program}{f:FuncId}{cargs args:List V}{exts s:List Obj}{Kc K:V→List Obj→Prop} (h:az P f cargs exts Kc) (ρ:List Nat) (hρ:ρ.length=exts.length) (CY:ρ.Nodup)
  (hs:∀(k:Nat) (o:Obj),exts[k]?=some o→s[ρ.getD k 0]?=some (ct ρ o)) (iJ:args=cargs.map (bu ρ)) (rn:ar.go exts.length cargs=true) (Mq:exts.all (cP exts.length)=true)
  (hk:∀v s',Kc v s'→s'.length=exts.length∧K (bu ρ v) (bm s ρ (s'.map (ct ρ)))):az P f args s K:=by
 refine⟨h.1,fun σ w vals hI hl hv=>?_⟩
 have Mu:∀k,k<exts.length→ρ[k]?=some (ρ.getD k 0):=fun k hk=>by simp [List.getD,show k<ρ.length by omega]
 have Rn:∀k k',k<exts.length→k'<exts.length→ρ.getD k 0=ρ.getD k' 0→k=k':=by
  intro k k' h1 h2 he
  have e1:=Mu k h1
  have e2:=Mu k' h2
  rw[he]at e1
  obtain⟨l1,g1⟩:=List.getElem?_eq_some_iff.1 e1
  obtain⟨l2,g2⟩:=List.getElem?_eq_some_iff.1 e2
  exact(List.getElem_inj CY).1 (g1.trans g2.symm)
 have Eb:∀k,(hk:k<exts.length)→s[ρ.getD k 0]?=some (ct ρ exts[k]):=fun k hk=>hs k exts[k] (by simp [hk])
 let oU:Nat→Prop:=fun b=>∃k base,k<exts.length∧σ (ρ.getD k 0)=some (b,base)
 let σc:Gh:=⟨fun k=>if k<exts.length then σ (ρ.getD k 0) else none,fun b=>Own σ s b∧¬oU b⟩
 have AX:∀k,k<exts.length→σc k=σ (ρ.getD k 0):=fun k hk=>if_pos hk
 have uv:∀b,Own σc exts b→Own σ s b:=by
  rintro b (hb|⟨k,o,base,h1,h2,h3⟩)
  ·exact hb.1
  ·have aT:=(List.getElem?_eq_some_iff.1 h1).1
   rw[AX k aT]at h3
   exact .inr ⟨ρ.getD k 0,ct ρ o,base,hs k o h1,h2,h3⟩
 have Iw:∀b,Own σ s b→Own σc exts b:=by
  intro b hb
  by_cases he:oU b
  ·obtain⟨k,base,aT,h3⟩:=he
   refine .inr ⟨k,exts[k],base,by simp [aT],?_,by rw[AX k aT];exact h3⟩
   rcases hb with hb|⟨id,o,cj,g1,g2,g3⟩
   ·exact absurd hb (hI.apart _ _ b base (Eb k aT) h3)
   ·have:=hI.inj id _ o _ b cj base g1 (Eb k aT) g2 g3 h3
    subst this
    rw[Eb k aT]at g1
    cases g1
    exact g2
  ·exact .inl ⟨hb,he⟩
 have Rz:Inv σc exts w:=by
  refine⟨fun k o ho=>?_,fun k k' o o' b base cj h1 h2 h3 h4 h5=>?_,fun b hb=>uf hI hb.1,fun k o b base h1 h2 hb=>?_⟩
  ·have aT:=(List.getElem?_eq_some_iff.1 ho).1
   rw[AX k aT]
   rcases hI.content _ _ (hs k o ho) with g1|⟨b,base,arr,E,g1,g2,g3,g4,g5⟩
   ·exact .inl g1.down
   ·refine .inr ⟨b,base,arr,E,g1,g2,fun e he=>?_,by simpa [ct]using g4,fun i j x hx=>?_⟩
    ·have:=g3 (bu.go ρ e) (List.mem_map.2 ⟨e,he,rfl⟩)
     rw[gM]at this
     simpa [ct]using this
    ·obtain⟨u,k1,k2,k3⟩:=g5 i j _ (Ab hx)
     refine⟨u,k1,k2,ss uv hs AX k3 rfl ?_⟩
     have hobj:=List.all_eq_true.1 Mq o (Vy ho)
     cases xC:o.aL[i]? with
     |none=>rw[xC]at hx;cases hx
     |some e =>
      rw[xC]at hx
      exact List.all_eq_true.1 (List.all_eq_true.1 hobj e (Vy xC)) x (Vy hx)
  ·have l1:=(List.getElem?_eq_some_iff.1 h1).1
   have l2:=(List.getElem?_eq_some_iff.1 h2).1
   rw[AX k l1]at h4
   rw[AX k' l2]at h5
   exact Rn k k' l1 l2 (hI.inj _ _ _ _ b base cj (hs k o h1) (hs k' o' h2) h3 h4 h5)
  ·have l1:=(List.getElem?_eq_some_iff.1 h1).1
   rw[AX k l1]at h2
   exact hb.2 ⟨k,base,l1,h2⟩
 refine(h.2 σc w vals Rz (by rw[hl,iJ];simp) (fun i x hx=>ss uv hs AX (hv i _ (by rw[iJ,VB,hx];rfl)) rfl (dE rn i x hx))).mono fun e w' ⟨u,v,σ',s',he,hE,jF,hR,hK⟩=>?_
 obtain⟨hlen,hK⟩:=hk v s' hK
 -- back
 let σn:Gh:=⟨fun id=>match ρ.idxOf? id with|some k=>σ' k|none=>σ id,σ.base⟩
 have NU:∀k,k<exts.length→ρ.idxOf? (ρ.getD k 0)=some k:=by
  intro k hk
  have e1:=Mu k hk
  obtain⟨l1,g1⟩:=List.getElem?_eq_some_iff.1 e1
  rw[List.idxOf?_eq_some_iff]
  refine⟨l1,by simp [g1],fun j hj=>?_⟩
  have SQ:j<ρ.length:=by omega
  intro hb
  have Ld:ρ[j]=ρ.getD k 0:=by simpa using hb
  have:=(List.getElem_inj CY).1 (Ld.trans g1.symm)
  omega
 have AM:∀k,k<exts.length→σn (ρ.getD k 0)=σ' k:=fun k hk=>by
  show (match ρ.idxOf? (ρ.getD k 0) with|some k=>σ' k|none=>σ (ρ.getD k 0))=σ' k
  rw[NU k hk]
 have BK:∀id,id ∉ ρ→σn id=σ id:=fun id dB=>by
  show (match ρ.idxOf? id with|some k=>σ' k|none=>σ id)=σ id
  rw[List.idxOf?_eq_none_iff.2 dB]
 have mR:∀id,id∈ρ→∃k,k<exts.length∧id=ρ.getD k 0:=by
  intro id dB
  obtain⟨k,hk⟩:=List.mem_iff_getElem?.1 dB
  have aT:=(List.getElem?_eq_some_iff.1 hk).1
  exact⟨k,by omega,by simp [List.getD,hk]⟩
 have Ek:∀(k:Nat) (o:Obj),s'[k]?=some o→(bm s ρ (s'.map (ct ρ)))[ρ.getD k 0]?=some (ct ρ o):=by
  intro k o ho
  have aT:k<exts.length:=by rw[← hlen];exact(List.getElem?_eq_some_iff.1 ho).1
  exact se ρ _ s k _ _ CY (Mu k aT) (by rw[VB,ho];rfl) (List.getElem?_eq_some_iff.1 (Eb k aT)).1
 have pN:∀id,id ∉ ρ→(bm s ρ (s'.map (ct ρ)))[id]?=s[id]?:=fun id dB=>fH ρ _ s id dB
 have rK:∀(k:Nat) (o:Obj),k<exts.length→(bm s ρ (s'.map (ct ρ)))[ρ.getD k 0]?=some o→∃o',s'[k]?=some o'∧o=ct ρ o':=by
  intro k o aT ho
  have cn:k<s'.length:=by omega
  have:=Ek k s'[k] (by simp [cn])
  rw[ho]at this
  exact⟨s'[k],by simp [cn],by simpa using this⟩
 have gn:∀b,b<w.heap.size→Own σ s b→¬oU b→w'.heap[b]?=w.heap[b]?:=fun b hb h1 h2=>hE.gn b hb ⟨h1,h2⟩
 have wU:∀b,σ.base b→¬oU b:=by
  rintro b hb ⟨k,base,aT,h3⟩
  exact hI.apart _ _ b base (Eb k aT) h3 hb
 have nR:∀id o b base,id ∉ ρ→s[id]?=some o→σ id=some (b,base)→o.live=true→¬oU b:=by
  rintro id o b base dB ho h1 Bk ⟨k,cj,aT,h3⟩
  have:=hI.inj id _ o _ b base cj ho (Eb k aT) Bk h1 h3
  exact dB (by rw[this];exact Vy (Mu k aT))
 have JL:∀b,Own σn (bm s ρ (s'.map (ct ρ))) b→Own σ' s' b:=by
  rintro b (hb|⟨id,o,base,h1,h2,h3⟩)
  ·left;rw[hE.base];exact⟨.inl hb,wU b hb⟩
  ·by_cases dB:id∈ρ
   ·obtain⟨k,aT,rfl⟩:=mR id dB
    obtain⟨o',g1,rfl⟩:=rK k o aT h1
    rw[AM k aT]at h3
    exact .inr ⟨k,o',base,g1,h2,h3⟩
   ·rw[pN id dB]at h1
    rw[BK id dB]at h3
    left;rw[hE.base]
    exact⟨.inr ⟨id,o,base,h1,h2,h3⟩,nR id o b base dB h1 h3 h2⟩
 have NL:bc σ s w σn (bm s ρ (s'.map (ct ρ))) w':=by
  refine⟨hE.os,hE.tape,hE.output,hE.size,fun b hb ho=>hE.cc b hb fun h'=>ho (uv b h'),fun b arr E ho hh=>hE.shape b arr E (Iw b ho) hh,fun b ho hm=>hE.pF b (Iw b ho) hm,fun b hb=>?_,fun id o ho=>?_,rfl,
   fun b hb hf=>gn b hb (.inl hf) (wU b hf)⟩
  ·rcases hE.own b (JL b hb) with h'|h'
   ·exact .inl (uv b h')
   ·exact .inr h'
  ·by_cases dB:id∈ρ
   ·obtain⟨k,aT,rfl⟩:=mR id dB
    rw[Eb k aT]at ho
    simp only[Option.some.injEq]at ho
    subst ho
    obtain⟨o',g1,g2,g3⟩:=hE.aF k exts[k] (by simp [aT])
    refine⟨ct ρ o',Ek k o' g1,g2,fun he=>?_⟩
    obtain⟨e1,e2⟩:=g3 he
    exact⟨e1,by rw[AM k aT,e2,AX k aT]⟩
   ·exact⟨o,by rw[pN id dB];exact ho,VA _,fun _=>⟨rfl,BK id dB⟩⟩
 have up:∀{x:V}{u:Value},aJ σ' s' w' x u→aJ σn (bm s ρ (s'.map (ct ρ))) w' (bu ρ x) u:=fun hr =>
  Kb JL Ek (fun k hk=>AM k (by omega)) hr
 have hIn:Inv σn (bm s ρ (s'.map (ct ρ))) w':=by
  refine⟨fun id o ho=>?_,fun id jJ o o' b base cj h1 h2 h3 h4 h5=>?_,fun b hb=>Nat.lt_of_lt_of_le (hI.low b hb) hE.size,fun id o b base h1 h2 hb=>?_⟩
  ·by_cases dB:id∈ρ
   ·obtain⟨k,aT,rfl⟩:=mR id dB
    obtain⟨o',g1,rfl⟩:=rK k o aT ho
    rw[AM k aT]
    rcases jF.content k o' g1 with c1|⟨b,base,arr,E,c1,c2,c3,c4,c5⟩
    ·exact .inl c1.up
    ·refine .inr ⟨b,base,arr,E,c1,c2,fun e he=>?_,by simpa [ct]using c4,fun i j y hy=>?_⟩
     ·obtain⟨e',vj,rfl⟩:=List.mem_map.1 he
      rw[gM]
      simpa [ct]using c3 e' vj
     ·obtain⟨x,hx,rfl⟩:=BA hy
      obtain⟨u,k1,k2,k3⟩:=c5 i j x hx
      exact⟨u,k1,k2,up k3⟩
   ·rw[pN id dB]at ho
    rw[BK id dB]
    refine rq.bM (p:=σ id) NL (fun b base hb=>?_) (hI.content id o ho)
    have aT:=hI.lt ho hb
    by_cases hO:Own σ s b
    ·by_cases Bk:o.live=true
     ·exact gn b aT hO (nR id o b base dB ho hb Bk)
     ·exfalso
      rcases hO with hO|⟨jJ,o',cj,g1,g2,g3⟩
      ·exact hI.apart id o b base ho hb hO
      ·have:=hI.inj jJ id o' o b cj base g1 ho g2 g3 hb
       subst this
       rw[ho]at g1;cases g1
       exact Bk g2
    ·exact hE.cc b aT fun h'=>hO (uv b h')
  ·by_cases dB:id∈ρ <;> by_cases r9:jJ∈ρ
   ·obtain⟨k,aT,rfl⟩:=mR id dB
    obtain⟨k',cn,rfl⟩:=mR jJ r9
    obtain⟨p,g1,rfl⟩:=rK k o aT h1
    obtain⟨p',Ny,rfl⟩:=rK k' o' cn h2
    rw[AM k aT]at h4
    rw[AM k' cn]at h5
    rw[jF.inj k k' p p' b base cj g1 Ny h3 h4 h5]
   ·exfalso
    obtain⟨k,aT,rfl⟩:=mR id dB
    obtain⟨p,g1,rfl⟩:=rK k o aT h1
    rw[AM k aT]at h4
    rw[pN jJ r9]at h2
    rw[BK jJ r9]at h5
    have Jo:=hI.lt h2 h5
    have hO:Own σ s b:=by
     rcases hE.own b (.inr ⟨k,p,base,g1,h3,h4⟩) with h'|h'
     ·exact uv b h'
     ·omega
    by_cases Bk:o'.live=true
    ·exact jF.apart k p b base g1 h4 (by rw[hE.base];exact⟨hO,nR jJ o' b cj r9 h2 h5 Bk⟩)
    ·rcases hO with hO|⟨RJ,o2,Ky,q1,q2,q3⟩
     ·exact hI.apart jJ o' b cj h2 h5 hO
     ·have:=hI.inj RJ jJ o2 o' b Ky cj q1 h2 q2 q3 h5
      subst this
      rw[h2]at q1;cases q1
      exact Bk q2
   ·exfalso
    obtain⟨k',cn,rfl⟩:=mR jJ r9
    obtain⟨p',Ny,rfl⟩:=rK k' o' cn h2
    rw[AM k' cn]at h5
    rw[pN id dB]at h1
    rw[BK id dB]at h4
    exact jF.apart k' p' b cj Ny h5 (by rw[hE.base];exact⟨.inr ⟨id,o,base,h1,h3,h4⟩,nR id o b base dB h1 h4 h3⟩)
   ·rw[pN id dB]at h1
    rw[pN jJ r9]at h2
    rw[BK id dB]at h4
    rw[BK jJ r9]at h5
    exact hI.inj id jJ o o' b base cj h1 h2 h3 h4 h5
  ·by_cases dB:id∈ρ
   ·obtain⟨k,aT,rfl⟩:=mR id dB
    obtain⟨p,g1,rfl⟩:=rK k o aT h1
    rw[AM k aT]at h2
    exact jF.apart k p b base g1 h2 (by rw[hE.base];exact⟨.inl hb,wU b hb⟩)
   ·rw[pN id dB]at h1
    rw[BK id dB]at h2
    exact hI.apart id o b base h1 h2 hb
 exact⟨u,bu ρ v,σn,_,he,NL,hIn,up hR,hK⟩
end Go.VL
