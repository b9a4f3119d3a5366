/- A part of the proof (Va Vb Vc Vd Ve Vf Vg Vh Vhm Vgc Vi Vj Vk Vl Vm). -/
import Derived.WalkKit
import Derived.WalkSpells
import Derived.ChangeKeysEq
import Derived.Deep.AppendSrc
import Derived.ChangeMaps5
import Derived.MapKept
set_option linter.unusedSimpArgs false
set_option linter.unusedVariables false
set_option maxRecDepth 100000
set_option maxHeartbeats 80000000
namespace Go.VL
theorem WR:type_of% @List.cons_append.{0}:=@List.cons_append.{0}
theorem WS:type_of% @List.nil_append.{0}:=@List.nil_append.{0}
theorem WT:type_of% @List.getElem?_eq_some_iff.{0}:=@List.getElem?_eq_some_iff.{0}
theorem WU:type_of% @List.map_cons.{0,0}:=@List.map_cons.{0,0}
theorem WV:type_of% @List.map_nil.{0,0}:=@List.map_nil.{0,0}
theorem WW:type_of% @Int.le_refl:=@Int.le_refl
theorem WX:type_of% @Option.some.injEq.{0}:=@Option.some.injEq.{0}
theorem WY:type_of% @Bool.not_true:=@Bool.not_true
theorem WZ:type_of% @List.getElem?_eq_getElem.{0}:=@List.getElem?_eq_getElem.{0}
theorem W0:type_of% @Bool.not_false:=@Bool.not_false
theorem W1:type_of% @List.length_map.{0,0}:=@List.length_map.{0,0}
theorem W2:type_of% @Bool.false_eq_true:=@Bool.false_eq_true
theorem W3:type_of% @List.length_cons.{0}:=@List.length_cons.{0}
theorem W4:type_of% @Nat.le_refl:=@Nat.le_refl
theorem W5:type_of% @List.length_append.{0}:=@List.length_append.{0}
theorem W6:type_of% @List.mem_of_getElem?.{0}:=@List.mem_of_getElem?.{0}
theorem W7:type_of% @Bool.and_eq_true:=@Bool.and_eq_true
theorem W8:type_of% @Int.natCast_zero:=@Int.natCast_zero
theorem W9:type_of% @List.getElem?_cons_zero.{0}:=@List.getElem?_cons_zero.{0}
theorem Xa:type_of% @List.length_nil.{0}:=@List.length_nil.{0}
theorem Xb:type_of% @List.eq_nil_of_length_eq_zero.{0}:=@List.eq_nil_of_length_eq_zero.{0}
theorem Xc:type_of% @Array.getD_eq_getD_getElem?.{0}:=@Array.getD_eq_getD_getElem?.{0}
theorem Xd:type_of% @List.getElem?_map.{0,0}:=@List.getElem?_map.{0,0}
theorem Xe:type_of% @Bool.false_ne_true:=@Bool.false_ne_true
theorem Xf:type_of% @Option.map_eq_some_iff.{0,0}:=@Option.map_eq_some_iff.{0,0}
theorem Xg:type_of% @List.getElem?_append_left.{0}:=@List.getElem?_append_left.{0}
theorem Xh:type_of% @List.set_cons_zero.{0}:=@List.set_cons_zero.{0}
theorem Xi:type_of% @Nat.zero_add:=@Nat.zero_add
theorem Xj:type_of% @Bool.false_or:=@Bool.false_or
theorem Xk:type_of% @List.append_nil.{0}:=@List.append_nil.{0}
theorem Xl:type_of% @List.set_cons_succ.{0}:=@List.set_cons_succ.{0}
theorem Xm:type_of% @List.getElem?_append_right.{0}:=@List.getElem?_append_right.{0}
theorem Xn:type_of% @List.all_eq_true.{0}:=@List.all_eq_true.{0}
theorem Xo:type_of% @Nat.lt_succ_self:=@Nat.lt_succ_self
theorem Xp:type_of% @Int.toNat_natCast:=@Int.toNat_natCast
theorem Xq:type_of% @Bool.true_or:=@Bool.true_or
theorem Xr:type_of% @List.getElem?_take.{0}:=@List.getElem?_take.{0}
theorem Xs:type_of% @Prod.mk.injEq.{0,0}:=@Prod.mk.injEq.{0,0}
theorem Xt:type_of% @List.mem_map.{0,0}:=@List.mem_map.{0,0}
theorem Xu:type_of% @List.length_take.{0}:=@List.length_take.{0}
theorem Xv:type_of% @List.take_of_length_le.{0}:=@List.take_of_length_le.{0}
theorem Xw:type_of% @Nat.lt_or_ge:=@Nat.lt_or_ge
theorem Xx:type_of% @List.append_assoc.{0}:=@List.append_assoc.{0}
theorem Xy:type_of% @List.getElem?_cons_succ.{0}:=@List.getElem?_cons_succ.{0}
theorem Xz:type_of% @Bool.eq_false_iff:=@Bool.eq_false_iff
theorem XA:type_of% @List.take_length.{0}:=@List.take_length.{0}
theorem XB:type_of% @List.mem_singleton.{0}:=@List.mem_singleton.{0}
theorem XC:type_of% @List.map_append.{0,0}:=@List.map_append.{0,0}
theorem XD:type_of% @List.length_replicate.{0}:=@List.length_replicate.{0}
theorem XE:type_of% @Option.map_some.{0,0}:=@Option.map_some.{0,0}
theorem XF:type_of% @Array.getElem?_toList.{0}:=@Array.getElem?_toList.{0}
theorem XG:type_of% @Nat.mul_le_mul_right:=@Nat.mul_le_mul_right
theorem XH:type_of% @Option.bind_some.{0,0}:=@Option.bind_some.{0,0}
theorem XI:type_of% @List.all_append.{0}:=@List.all_append.{0}
theorem XJ:type_of% @Int.add_assoc:=@Int.add_assoc
theorem XK:type_of% @List.getElem?_set_self.{0}:=@List.getElem?_set_self.{0}
theorem XL:type_of% @List.getElem?_drop.{0}:=@List.getElem?_drop.{0}
theorem XM:type_of% @List.map_congr_left.{0,0}:=@List.map_congr_left.{0,0}
theorem XN:type_of% @Option.some.inj.{0}:=@Option.some.inj.{0}
theorem XO:type_of% @Nat.add_mul:=@Nat.add_mul
theorem XP:type_of% @Nat.lt_irrefl:=@Nat.lt_irrefl
theorem XQ:type_of% @List.getElem?_eq_none.{0}:=@List.getElem?_eq_none.{0}
theorem XR:type_of% @List.map_take.{0,0}:=@List.map_take.{0,0}
theorem XS:type_of% @List.map_map.{0,0,0}:=@List.map_map.{0,0,0}
theorem XT:type_of% @Bool.and_true:=@Bool.and_true
theorem XU:type_of% @Int.eq_ofNat_of_zero_le:=@Int.eq_ofNat_of_zero_le
theorem XV:type_of% @List.drop_eq_getElem_cons.{0}:=@List.drop_eq_getElem_cons.{0}
theorem XW:type_of% @Bool.eq_false_or_eq_true:=@Bool.eq_false_or_eq_true
theorem XX:type_of% @Nat.add_assoc:=@Nat.add_assoc
theorem XY:type_of% @Int.natCast_add:=@Int.natCast_add
theorem XZ:type_of% @List.getElem?_set_ne.{0}:=@List.getElem?_set_ne.{0}
theorem X0:type_of% @Bool.true_and:=@Bool.true_and
theorem X1:type_of% @List.drop_zero.{0}:=@List.drop_zero.{0}
theorem X2:type_of% @Nat.le_max_right:=@Nat.le_max_right
theorem X3:type_of% @Nat.sub_self:=@Nat.sub_self
theorem X4:type_of% @List.cons.injEq.{0}:=@List.cons.injEq.{0}
theorem X5:type_of% @List.mapM_cons.{0,0,0}:=@List.mapM_cons.{0,0,0}
theorem X6:type_of% @Nat.le_max_left:=@Nat.le_max_left
theorem X7:type_of% @Bool.or_false:=@Bool.or_false
theorem X8:type_of% @Nat.le_trans:=@Nat.le_trans
inductive D where
 |sc (v:Value)
 |sl (aV:List (List D))
 |el (cs:List D)
 |cl (fn:Fn) (first ak:List D)
 |ub
inductive V where
 |d (x:D)
 |ag (cs:List V)
 |fu (aV:List (List D))
 |so (id g lo n:Nat)
 |rf (id g i off:Nat)
 |pp (id g i off b a:Nat)
 |mp (id g:Nat)
 |bx (v:V)
 |cl (fn:Fn) (first ak:List V)
 |tu (vs:List V)
 |un
 |any
structure Obj where
 g:Nat
 live:Bool
 sz:Nat
 aV:List (List V)
structure Gh where
 map:Nat→Option (Nat×Nat)
 base:Nat→Prop
instance:CoeFun Gh (fun _=>Nat→Option (Nat×Nat)):=⟨Gh.map⟩
def Own (σ:Gh) (s:List Obj) (b:Nat):Prop:=σ.base b∨∃id o base,s[id]?=some o∧o.live=true∧σ id=some (b,base)
inductive dj (O:Nat→Prop) (w:World):D→Value→Prop
 |sc (v:Value):v.oneCell'=true→dj O w (.sc v) v
 |nil:dj O w (.sl []) (.slice none 0 0)
 |sl (aV:List (List D)) (a:Addr) (cap sz:Nat) (f:Nat→Nat→Value):aV.length≤cap→(aV≠[]→a.spot=none)→(∀e∈aV,e.length=sz) →
   (∀i j x,(aV[i]?.bind (·[j]?))=some x→w.cell? ⟨a.block,a.off+i*sz+j,none⟩=some (f i j)∧¬O a.block) →
   (∀i j x,(aV[i]?.bind (·[j]?))=some x→dj O w x (f i j))→dj O w (.sl aV) (.slice (some a) aV.length cap)
 |el (cs:List D) (a:Addr) (f:Nat→Value):a.spot=none →
   (∀j x,cs[j]?=some x→w.cell? ⟨a.block,a.off+j,none⟩=some (f j)∧¬O a.block) →
   (∀j x,cs[j]?=some x→dj O w x (f j))→dj O w (.el cs) (.pointer (some a))
 |cl {fn:Fn}{first ak:List D}{f' c':Array Value}:f'.size=first.length→(∀i x,first[i]?=some x→dj O w x (f'.getD i undef)) →
   c'.size=ak.length→(∀i x,ak[i]?=some x→dj O w x (c'.getD i undef))→dj O w (.cl fn first ak) (.func fn f' c')
 |ub (b:Bool):dj O w .ub (.bool b)
def y6 (σ:Gh) (w:World) (id:Nat) (o:Obj) (lo n:Nat) (u:Value):Prop :=
 (σ id=none∧(∃a,u=.slice a 0 0)∧lo=0∧n=0) ∨
 ∃b base cap E arr,σ id=some (b,base)∧w.heap[b]?=some (.cells arr E (0,0))∧u=.slice (some ⟨b,base+lo*o.sz,none⟩) n cap∧n≤cap∧base+(lo+cap)*o.sz≤arr.size
def Fg (w:World) (b:Nat):Prop:=∃arr E,w.heap[b]?=some (.cells arr E (0,0))
def L8 (w:World) (b:Nat):Prop:=∃es c,w.heap[b]?=some (.map es c)
inductive aI (σ:Gh) (s:List Obj) (w:World):V→Value→Prop
 |d {x:D}{u:Value}:dj (Own σ s) w x u→aI σ s w (.d x) u
 |ag {cs:List V}{arr:Array Value}:arr.size=cs.length→(∀i x,cs[i]?=some x→(arr.getD i undef).oneCell'=true) →
   (∀i x,cs[i]?=some x→aI σ s w x (arr.getD i undef))→aI σ s w (.ag cs) (.agg arr)
 |tu {cs:List V}{arr:Array Value}:arr.size=cs.length→(∀i x,cs[i]?=some x→aI σ s w x (arr.getD i undef))→aI σ s w (.tu cs) (.tuple arr)
 |fu {aV:List (List D)}{a:Option Addr}:dj (Own σ s) w (.sl aV) (.slice a aV.length aV.length)→aI σ s w (.fu aV) (.slice a aV.length aV.length)
 |so {id g lo n:Nat}{u:Value} (o:Obj):s[id]?=some o→g≤o.g→u.oneCell'=true→(o.g=g→y6 σ w id o lo n u)→aI σ s w (.so id g lo n) u
 |rf {id g i off:Nat}{u:Value} (o:Obj):s[id]?=some o→g≤o.g→u.oneCell'=true→(o.g=g→∃b base,σ id=some (b,base)∧Fg w b∧u=.pointer (some ⟨b,base+i*o.sz+off,none⟩)) →
   aI σ s w (.rf id g i off) u
 |pp {id g i off b a:Nat} (o:Obj):s[id]?=some o→g≤o.g→(o.g=g→∃base,σ id=some (b,base)∧Fg w b∧a=base+i*o.sz+off)→aI σ s w (.pp id g i off b a) (.pointer (some ⟨b,a,none⟩))
 |mp {id g:Nat}{u:Value} (o:Obj):s[id]?=some o→g≤o.g→u.oneCell'=true→(o.g=g→∃b,σ id=some (b,0)∧L8 w b∧u=.map (some b))→aI σ s w (.mp id g) u
 |bx {v:V}{a:Addr}{u:Value}:a.spot=none→w.cell? ⟨a.block,a.off,none⟩=some u→¬Own σ s a.block→u.oneCell'=true→aI σ s w v u→aI σ s w (.bx v) (.pointer (some a))
 |cl {fn:Fn}{first ak:List V}{f' c':Array Value}:f'.size=first.length→(∀i x,first[i]?=some x→aI σ s w x (f'.getD i undef)) →
   c'.size=ak.length→(∀i x,ak[i]?=some x→aI σ s w x (c'.getD i undef))→aI σ s w (.cl fn first ak) (.func fn f' c')
 |un:aI σ s w .un undef
 |any {u:Value}:aI σ s w .any u
structure aY (σ:Gh) (s:List Obj) (w:World) (σ':Gh) (s':List Obj) (w':World):Prop where
 os:w'.os=w.os
 tape:w'.tape=w.tape
 output:w'.output=w.output
 size:w.heap.size≤w'.heap.size
 cb:∀b,b<w.heap.size→¬Own σ s b→w'.heap[b]?=w.heap[b]?
 shape:∀b arr E,Own σ s b→w.heap[b]?=some (.cells arr E (0,0))→∃cZ,w'.heap[b]?=some (.cells cZ E (0,0))∧cZ.size=arr.size
 pD:∀b,Own σ s b→L8 w b→L8 w' b
 own:∀b,Own σ' s' b→Own σ s b∨w.heap.size≤b
 au:∀id o,s[id]?=some o→∃o',s'[id]?=some o'∧o.g≤o'.g∧(o'.g=o.g→o'.sz=o.sz∧σ' id=σ id)
 base:σ'.base=σ.base
 ga:∀b,b<w.heap.size→σ.base b→w'.heap[b]?=w.heap[b]?
theorem aY.refl (σ:Gh) (s:List Obj) (w:World):aY σ s w σ s w :=
 ⟨rfl,rfl,rfl,W4 _,fun _ _ _=>rfl,fun _ arr _ _ h=>⟨arr,h,rfl⟩,fun _ _ h=>h,fun _ h=>.inl h,fun _ o h=>⟨o,h,W4 _,fun _=>⟨rfl,rfl⟩⟩,rfl,fun _ _ _=>rfl⟩
theorem fv {w:World}{b:Nat}{o:Go.Obj} (h:w.heap[b]?=some o):b<w.heap.size:=by
 rcases Xw b w.heap.size with h'|h'
 ·exact h'
 ·simp [Array.getElem?_eq_none h']at h
theorem aY.trans {σ s w σ' s' w' UK Ar Tr} (h:aY σ s w σ' s' w') (k:aY σ' s' w' UK Ar Tr):aY σ s w UK Ar Tr:=by
 refine⟨k.os.trans h.os,k.tape.trans h.tape,k.output.trans h.output,X8 h.size k.size,?_,?_,?_,?_,?_,k.base.trans h.base,
  fun b hb ho=>(k.ga b (Nat.lt_of_lt_of_le hb h.size) (by rw[h.base];exact ho)).trans (h.ga b hb ho)⟩
 ·intro b hb ho
  rw[k.cb b (Nat.lt_of_lt_of_le hb h.size) (fun h'=>(h.own b h').elim ho (fun Nz=>by omega)),h.cb b hb ho]
 ·intro b arr E ho hh
  obtain⟨cZ,h1,h2⟩:=h.shape b arr E ho hh
  by_cases nN:Own σ' s' b
  ·obtain⟨PZ,h3,h4⟩:=k.shape b cZ E nN h1
   exact⟨PZ,h3,by omega⟩
  ·exact⟨cZ,by rw[k.cb b (fv h1) nN];exact h1,h2⟩
 ·intro b ho hh
  obtain⟨es,c,h1⟩:=h.pD b ho hh
  by_cases nN:Own σ' s' b
  ·exact k.pD b nN ⟨es,c,h1⟩
  ·exact⟨es,c,by rw[k.cb b (fv h1) nN];exact h1⟩
 ·intro b hb
  rcases k.own b hb with h'|h'
  ·exact h.own b h'
  ·exact .inr (X8 h.size h')
 ·intro id o ho
  obtain⟨o',h1,h2,h3⟩:=h.au id o ho
  obtain⟨UB,k1,k2,k3⟩:=k.au id o' h1
  refine⟨UB,k1,X8 h2 k2,fun he=>?_⟩
  have e1:o'.g=o.g:=by omega
  have e2:UB.g=o'.g:=by omega
  exact⟨(k3 e2).1.trans (h3 e1).1,(k3 e2).2.trans (h3 e1).2⟩
theorem aY.cell {σ s w σ' s' w'} (h:aY σ s w σ' s' w') {a:Addr}{u:Value} (hc:w.cell? a=some u) (ho:¬Own σ s a.block) :
  w'.cell? a=some u∧¬Own σ' s' a.block:=by
 have hb:=World.block_lt_of_cell? _ _ hc
 refine⟨?_,fun h'=>?_⟩
 ·rw[World.cell?_of_block (w:=w) (h.cb a.block hb ho)];exact hc
 ·rcases h.own _ h' with h'|h'
  ·exact ho h'
  ·omega
theorem dj.bS {σ s w σ' s' w'} (h:aY σ s w σ' s' w') {x:D}{u:Value} (hr:dj (Own σ s) w x u):dj (Own σ' s') w' x u:=by
 induction hr with
 |sc v hv=>exact .sc v hv
 |nil=>exact .nil
 |sl aV a cap sz f h1 h2 h3 h4 _ ih=>exact .sl aV a cap sz f h1 h2 h3 (fun i j x hx=>h.cell (a:=⟨a.block,_,none⟩) (h4 i j x hx).1 (h4 i j x hx).2) ih
 |el cs a f h1 h2 _ ih=>exact .el cs a f h1 (fun j x hx=>h.cell (a:=⟨a.block,_,none⟩) (h2 j x hx).1 (h2 j x hx).2) ih
 |cl h1 _ h3 _ wK fR=>exact .cl h1 wK h3 fR
 |ub b=>exact .ub b
theorem dj.own {O O':Nat→Prop}{w:World}{x:D}{u:Value} (h:∀b,O' b→O b) (hr:dj O w x u):dj O' w x u:=by
 induction hr with
 |sc v hv=>exact .sc v hv
 |nil=>exact .nil
 |sl aV a cap sz f h1 h2 h3 h4 _ ih=>exact .sl aV a cap sz f h1 h2 h3 (fun i j x hx=>⟨(h4 i j x hx).1,fun h'=>(h4 i j x hx).2 (h _ h')⟩) ih
 |el cs a f h1 h2 _ ih=>exact .el cs a f h1 (fun j x hx=>⟨(h2 j x hx).1,fun h'=>(h2 j x hx).2 (h _ h')⟩) ih
 |cl h1 _ h3 _ wK fR=>exact .cl h1 wK h3 fR
 |ub b=>exact .ub b
theorem y6.bS {σ s w σ' s' w'} (h:aY σ s w σ' s' w') {id:Nat}{o o':Obj}{lo n:Nat}{u:Value} (iB:o'.sz=o.sz) (hs:σ' id=σ id)
  (hk:y6 σ w id o lo n u):y6 σ' w' id o' lo n u:=by
 rcases hk with ⟨h1,h2,h3,h4⟩|⟨b,base,cap,E,arr,h1,h2,h3,h4,h5⟩
 ·exact .inl ⟨hs.trans h1,h2,h3,h4⟩
 ·by_cases hO:Own σ s b
  ·obtain⟨cZ,k1,k2⟩:=h.shape b arr E hO h2
   exact .inr ⟨b,base,cap,E,cZ,hs.trans h1,k1,by rw[iB];exact h3,h4,by rw[iB,k2];exact h5⟩
  ·exact .inr ⟨b,base,cap,E,arr,hs.trans h1,by rw[h.cb b (fv h2) hO];exact h2,by rw[iB];exact h3,h4,by rw[iB];exact h5⟩
theorem Fg.bS {σ s w σ' s' w'} (h:aY σ s w σ' s' w') {b:Nat} (hc:Fg w b):Fg w' b:=by
 obtain⟨arr,E,hh⟩:=hc
 by_cases hO:Own σ s b
 ·obtain⟨cZ,k1,_⟩:=h.shape b arr E hO hh
  exact⟨cZ,E,k1⟩
 ·exact⟨arr,E,by rw[h.cb b (fv hh) hO];exact hh⟩
theorem L8.bS {σ s w σ' s' w'} (h:aY σ s w σ' s' w') {b:Nat} (hc:L8 w b):L8 w' b:=by
 by_cases hO:Own σ s b
 ·exact h.pD b hO hc
 ·obtain⟨es,c,hh⟩:=hc
  exact⟨es,c,by rw[h.cb b (fv hh) hO];exact hh⟩
theorem Fg.notM {w:World}{b:Nat} (h:Fg w b) (k:L8 w b):False:=by
 obtain⟨arr,E,h⟩:=h
 obtain⟨es,c,k⟩:=k
 rw[h]at k;cases k
theorem aI.bS {σ s w σ' s' w'} (h:aY σ s w σ' s' w') {x:V}{u:Value} (hr:aI σ s w x u):aI σ' s' w' x u:=by
 induction hr with
 |d hx=>exact .d (hx.bS h)
 |ag h1 h2 _ ih=>exact .ag h1 h2 ih
 |tu h1 _ ih=>exact .tu h1 ih
 |fu hx=>exact .fu (hx.bS h)
 |so o ho hg hu hk =>
  obtain⟨o',h1,h2,h3⟩:=h.au _ o ho
  exact .so o' h1 (X8 hg h2) hu fun he=>have e:o'.g=o.g:=by omega
   y6.bS h (h3 e).1 (h3 e).2 (hk (by omega))
 |rf o ho hg hu hk =>
  obtain⟨o',h1,h2,h3⟩:=h.au _ o ho
  refine .rf o' h1 (X8 hg h2) hu fun he=>?_
  have e:o'.g=o.g:=by omega
  obtain⟨b,base,k1,kc,k2⟩:=hk (by omega)
  exact⟨b,base,(h3 e).2.trans k1,kc.bS h,by rw[(h3 e).1];exact k2⟩
 |pp o ho hg hk =>
  obtain⟨o',h1,h2,h3⟩:=h.au _ o ho
  refine .pp o' h1 (X8 hg h2) fun he=>?_
  have e:o'.g=o.g:=by omega
  obtain⟨base,k1,kc,k2⟩:=hk (by omega)
  exact⟨base,(h3 e).2.trans k1,kc.bS h,by rw[(h3 e).1];exact k2⟩
 |mp o ho hg hu hk =>
  obtain⟨o',h1,h2,h3⟩:=h.au _ o ho
  refine .mp o' h1 (X8 hg h2) hu fun he=>?_
  have e:o'.g=o.g:=by omega
  obtain⟨b,k1,kc,k2⟩:=hk (by omega)
  exact⟨b,(h3 e).2.trans k1,kc.bS h,k2⟩
 |bx h1 h2 h3 hu _ ih =>
  obtain⟨k1,k2⟩:=h.cell h2 h3
  exact .bx h1 k1 k2 hu ih
 |cl h1 _ h3 _ wK fR=>exact .cl h1 wK h3 fR
 |un=>exact .un
 |any=>exact .any
theorem aI.NF {σ s w}{id g i off b a:Nat}{u:Value} (h:aI σ s w (.pp id g i off b a) u):aI σ s w (.rf id g i off) u:=by
 cases h with
 |pp o ho hg hk=>exact .rf o ho hg rfl fun he=>let ⟨base,h1,h2,h3⟩:=hk he;⟨b,base,h1,h2,by rw[h3]⟩
theorem aI.xl {σ s w}{id g i off b a:Nat}{u:Value} (h:aI σ s w (.pp id g i off b a) u):u=.pointer (some ⟨b,a,none⟩):=by
 cases h with
 |pp o ho hg hk=>rfl
theorem aI.NH {σ s w}{id g i off:Nat}{u:Value}{o:Obj} (ho:s[id]?=some o) (hg:o.g=g) (h:aI σ s w (.rf id g i off) u):∃b a,aI σ s w (.pp id g i off b a) u:=by
 cases h with
 |rf o' nN Dd hu hk =>
  rw[ho]at nN;cases nN
  obtain⟨b,base,h1,h2,rfl⟩:=hk hg
  exact⟨b,_,.pp o ho Dd fun _=>⟨base,h1,h2,rfl⟩⟩
def jQ (es:Array MapEntry):List (List V):=es.toList.map fun e=>[V.d (.sc e.key),V.d (.sc e.val)]
def qY (w:World) (p:Option (Nat×Nat)) (o:Obj):Prop :=
 (p=none∧o.aV=[])∨∃b es c,p=some (b,0)∧w.heap[b]?=some (.map es c)∧o.aV=jQ es
theorem qY.EA {w:World}{p:Option (Nat×Nat)}{o:Obj} (h:qY w p o) {b base:Nat} (hp:p=some (b,base)) (hc:Fg w b):False:=by
 rcases h with ⟨h,_⟩|⟨b',es,c,h,hh,_⟩
 ·rw[hp]at h;cases h
 ·rw[hp]at h;cases h
  exact hc.notM ⟨es,c,hh⟩
theorem qY.congr {w:World}{p:Option (Nat×Nat)}{o o':Obj} (h:qY w p o') (he:o.aV=o'.aV):qY w p o:=by
 unfold qY at *;rw[he];exact h
theorem qY.MB {w:World}{p:Option (Nat×Nat)}{o:Obj} (h:qY w p o) (hp:p=none):o.aV=[]:=by
 rcases h with ⟨_,h⟩|⟨b',es,c,h,_⟩
 ·exact h
 ·rw[hp]at h;cases h
structure Inv (σ:Gh) (s:List Obj) (w:World):Prop where
 content:∀id o,s[id]?=some o→qY w (σ id) o∨∃b base arr E,σ id=some (b,base)∧w.heap[b]?=some (.cells arr E (0,0)) ∧
  (∀e∈o.aV,e.length=o.sz)∧base+o.aV.length*o.sz≤arr.size ∧
  ∀i j x,(o.aV[i]?.bind (·[j]?))=some x→∃u,arr[base+i*o.sz+j]?=some u∧u.oneCell'=true∧aI σ s w x u
 inj:∀id jz o o' b base cg,s[id]?=some o→s[jz]?=some o'→o.live=true→σ id=some (b,base)→σ jz=some (b,cg)→id=jz
 low:∀b,σ.base b→b<w.heap.size
 apart:∀id o b base,s[id]?=some o→σ id=some (b,base)→¬σ.base b
def mj (σ:Gh) (id:Nat) (p:Option (Nat×Nat)):Gh:=⟨fun k=>if k=id then p else σ k,σ.base⟩
theorem cw (σ:Gh) (id:Nat) (p:Option (Nat×Nat)):mj σ id p id=p:=by simp [mj]
theorem dt (σ:Gh) {id k:Nat} (p:Option (Nat×Nat)) (h:k≠id):mj σ id p k=σ k:=by simp [mj,h]
def rn (σ:Gh) (s:List Obj) (w:World) (p:Option (Nat×Nat)) (o:Obj):Prop :=
 qY w p o∨∃b base arr E,p=some (b,base)∧w.heap[b]?=some (.cells arr E (0,0)) ∧
  (∀e∈o.aV,e.length=o.sz)∧base+o.aV.length*o.sz≤arr.size ∧
  ∀i j x,(o.aV[i]?.bind (·[j]?))=some x→∃u,arr[base+i*o.sz+j]?=some u∧u.oneCell'=true∧aI σ s w x u
theorem rn.bS {σ s w σ' s' w' p o} (h:aY σ s w σ' s' w') (hb:∀b base,p=some (b,base)→w'.heap[b]?=w.heap[b]?) (hh:rn σ s w p o):rn σ' s' w' p o:=by
 rcases hh with h1|⟨b,base,arr,E,h1,h2,h3,h4,h5⟩
 ·refine .inl ?_
  rcases h1 with h1|⟨b,es,c,h1,h2,h3⟩
  ·exact .inl h1
  ·exact .inr ⟨b,es,c,h1,(hb b 0 h1).trans h2,h3⟩
 ·exact .inr ⟨b,base,arr,E,h1,(hb b base h1).trans h2,h3,h4,fun i j x hx=>let ⟨u,k1,k2,k3⟩:=h5 i j x hx;⟨u,k1,k2,k3.bS h⟩⟩
theorem Inv.lt {σ s w} (hI:Inv σ s w) {id o b base} (ho:s[id]?=some o) (hs:σ id=some (b,base)):b<w.heap.size:=by
 rcases hI.content id o ho with (⟨h1,_⟩|⟨b',es,c,h1,h2,_⟩)|⟨b',cg,arr,E,h1,h2,_⟩
 ·rw[hs]at h1;cases h1
 ·rw[hs]at h1;cases h1;exact fv h2
 ·rw[hs]at h1;cases h1;exact fv h2
theorem mZ {σ:Gh}{s:List Obj}{w:World} (hI:Inv σ s w) {id:Nat}{o o':Obj}{p:Option (Nat×Nat)}{w':World} (ho:s[id]?=some o) (hl:o.live=true)
  (hos:w'.os=w.os) (Ci:w'.tape=w.tape) (hout:w'.output=w.output) (jf:w.heap.size≤w'.heap.size)
  (hkeep:∀b,b<w.heap.size→(∀base,σ id≠some (b,base))→w'.heap[b]?=w.heap[b]?)
  (hshape:∀b base arr E,σ id=some (b,base)→w.heap[b]?=some (.cells arr E (0,0))→∃cZ,w'.heap[b]?=some (.cells cZ E (0,0))∧cZ.size=arr.size)
  (hshapeM:∀b base,σ id=some (b,base)→L8 w b→L8 w' b)
  (hg:o.g≤o'.g) (Dd:o'.g=o.g→o'.sz=o.sz∧p=σ id)
  (hp:∀b base,p=some (b,base)→(∃w7,σ id=some (b,w7))∨w.heap.size≤b)
  (hc:aY σ s w (mj σ id p) (s.set id o') w'→rn (mj σ id p) (s.set id o') w' p o') :
  aY σ s w (mj σ id p) (s.set id o') w'∧Inv (mj σ id p) (s.set id o') w':=by
 have aS:id<s.length:=(List.getElem?_eq_some_iff.1 ho).1
 have vk:(s.set id o')[id]?=some o':=by simp [aS]
 have kA:∀k,k≠id→(s.set id o')[k]?=s[k]?:=fun k hk=>by rw[XZ (Ne.symm hk)]
 have Tq:∀k ok b base,k≠id→s[k]?=some ok→σ k=some (b,base)→w'.heap[b]?=w.heap[b]?:=by
  intro k ok b base hk np hs
  exact hkeep b (hI.lt np hs) fun cg he=>hk (hI.inj id k o ok b cg base ho np hl he hs).symm
 have hE:aY σ s w (mj σ id p) (s.set id o') w':=by
  refine⟨hos,Ci,hout,jf,?_,?_,?_,?_,?_,rfl,fun b hb hf=>hkeep b hb fun base he=>hI.apart id o b base ho he hf⟩
  ·intro b hb jk
   exact hkeep b hb fun base he=>jk (.inr ⟨id,o,base,ho,hl,he⟩)
  ·intro b arr E hO hh
   by_cases he:∃base,σ id=some (b,base)
   ·obtain⟨base,he⟩:=he
    exact hshape b base arr E he hh
   ·exact⟨arr,by rw[hkeep b (fv hh) (fun base h'=>he ⟨base,h'⟩)];exact hh,rfl⟩
  ·intro b hO hm
   by_cases he:∃base,σ id=some (b,base)
   ·obtain⟨base,he⟩:=he
    exact hshapeM b base he hm
   ·obtain⟨es,c,hh⟩:=hm
    exact⟨es,c,by rw[hkeep b (fv hh) (fun base h'=>he ⟨base,h'⟩)];exact hh⟩
  ·rintro b (hf|⟨k,ok,base,jT,od,IQ⟩)
   ·exact .inl (.inl hf)
   by_cases hk:k=id
   ·subst hk
    rw[cw]at IQ
    rcases hp b base IQ with ⟨w7,h'⟩|h'
    ·exact .inl (.inr ⟨k,o,w7,ho,hl,h'⟩)
    ·exact .inr h'
   ·rw[dt _ _ hk]at IQ
    rw[kA k hk]at jT
    exact .inl (.inr ⟨k,ok,base,jT,od,IQ⟩)
  ·intro k ok np
   by_cases hk:k=id
   ·subst hk
    rw[ho]at np;cases np
    exact⟨o',vk,hg,fun he=>⟨(Dd he).1,by rw[cw];exact(Dd he).2⟩⟩
   ·exact⟨ok,by rw[kA k hk];exact np,W4 _,fun _=>⟨rfl,dt _ _ hk⟩⟩
 refine⟨hE,⟨?_,?_,fun b hb=>Nat.lt_of_lt_of_le (hI.low b hb) jf,?_⟩⟩
 rotate_left 2
 ·intro k ok b base h1 h3 hf
  by_cases hk:k=id
  ·subst hk
   rw[cw]at h3
   rcases hp b base h3 with ⟨w7,h'⟩|h'
   ·exact hI.apart k o b w7 ho h' hf
   ·have:=hI.low b hf;omega
  ·rw[dt _ _ hk]at h3
   rw[kA k hk]at h1
   exact hI.apart k ok b base h1 h3 hf
 ·intro k ok np
  by_cases hk:k=id
  ·subst hk
   rw[vk]at np;cases np
   rw[cw]
   exact hc hE
  ·rw[kA k hk]at np
   rw[dt _ _ hk]
   exact rn.bS (p:=σ k) hE (fun b base h=>Tq k ok b base hk np h) (hI.content k ok np)
 ·intro k k' ok Tw b base cg h1 h2 h3 h4 h5
  by_cases hk:k=id <;> by_cases sr:k'=id
  ·rw[hk,sr]
  ·subst hk
   rw[cw]at h4
   rw[dt _ _ sr]at h5
   rw[kA k' sr]at h2
   rcases hp b base h4 with ⟨w7,h'⟩|h'
   ·exact hI.inj _ _ _ _ _ _ _ ho h2 hl h' h5
   ·have:=hI.lt h2 h5;omega
  ·subst sr
   rw[cw]at h5
   rw[dt _ _ hk]at h4
   rw[kA k hk]at h1
   rcases hp b cg h5 with ⟨w7,h'⟩|h'
   ·exact hI.inj _ _ _ _ _ _ _ h1 ho h3 h4 h'
   ·have:=hI.lt h1 h4;omega
  ·rw[dt _ _ hk]at h4
   rw[dt _ _ sr]at h5
   rw[kA k hk]at h1
   rw[kA k' sr]at h2
   exact hI.inj _ _ _ _ _ _ _ h1 h2 h3 h4 h5
theorem lz {σ:Gh}{s:List Obj}{w:World} (hI:Inv σ s w) {o':Obj}{p:Option (Nat×Nat)}{w':World}
  (hos:w'.os=w.os) (Ci:w'.tape=w.tape) (hout:w'.output=w.output) (jf:w.heap.size≤w'.heap.size)
  (hkeep:∀b,b<w.heap.size→w'.heap[b]?=w.heap[b]?)
  (hp:∀b base,p=some (b,base)→w.heap.size≤b)
  (hc:aY σ s w (mj σ s.length p) (s++[o']) w'→rn (mj σ s.length p) (s++[o']) w' p o') :
  aY σ s w (mj σ s.length p) (s++[o']) w'∧Inv (mj σ s.length p) (s++[o']) w':=by
 have vk:(s++[o'])[s.length]?=some o':=by simp
 have kA:∀k ok,k≠s.length→(s++[o'])[k]?=some ok→s[k]?=some ok:=by
  intro k ok hk h
  rw[List.getElem?_append]at h
  split at h
  ·exact h
  ·rename_i h'
   have:k-s.length≠0:=by omega
   cases hh:k-s.length with
   |zero=>omega
   |succ n=>rw[hh]at h;simp at h
 have aS:∀k ok,s[k]?=some ok→k≠s.length:=fun k ok h=>by have:=(List.getElem?_eq_some_iff.1 h).1;omega
 have hE:aY σ s w (mj σ s.length p) (s++[o']) w':=by
  refine⟨hos,Ci,hout,jf,fun b hb _=>hkeep b hb,fun b arr E _ hh=>⟨arr,by rw[hkeep b (fv hh)];exact hh,rfl⟩,fun b _ hm=>let ⟨es,c,hh⟩:=hm;⟨es,c,by rw[hkeep b (fv hh)];exact hh⟩,?_,?_,rfl,fun b hb _=>hkeep b hb⟩
  ·rintro b (hf|⟨k,ok,base,jT,od,IQ⟩)
   ·exact .inl (.inl hf)
   by_cases hk:k=s.length
   ·subst hk
    rw[cw]at IQ
    exact .inr (hp b base IQ)
   ·rw[dt _ _ hk]at IQ
    exact .inl (.inr ⟨k,ok,base,kA k ok hk jT,od,IQ⟩)
  ·intro k ok np
   exact⟨ok,by rw[Xg (List.getElem?_eq_some_iff.1 np).1];exact np,W4 _,fun _=>⟨rfl,dt _ _ (aS k ok np)⟩⟩
 refine⟨hE,⟨?_,?_,fun b hb=>Nat.lt_of_lt_of_le (hI.low b hb) jf,?_⟩⟩
 rotate_left 2
 ·intro k ok b base h1 h3 hf
  by_cases hk:k=s.length
  ·subst hk
   rw[cw]at h3
   have:=hp b base h3
   have:=hI.low b hf
   omega
  ·rw[dt _ _ hk]at h3
   exact hI.apart k ok b base (kA k ok hk h1) h3 hf
 ·intro k ok np
  by_cases hk:k=s.length
  ·subst hk
   rw[vk]at np;cases np
   rw[cw]
   exact hc hE
  ·have h':=kA k ok hk np
   rw[dt _ _ hk]
   exact rn.bS (p:=σ k) hE (fun b base h=>hkeep b (hI.lt h' h)) (hI.content k ok h')
 ·intro k k' ok Tw b base cg h1 h2 h3 h4 h5
  by_cases hk:k=s.length <;> by_cases sr:k'=s.length
  ·rw[hk,sr]
  ·subst hk
   rw[cw]at h4
   rw[dt _ _ sr]at h5
   have:=hI.lt (kA k' Tw sr h2) h5
   have:=hp b base h4
   omega
  ·subst sr
   rw[cw]at h5
   rw[dt _ _ hk]at h4
   have:=hI.lt (kA k ok hk h1) h4
   have:=hp b cg h5
   omega
  ·rw[dt _ _ hk]at h4
   rw[dt _ _ sr]at h5
   exact hI.inj _ _ _ _ _ _ _ (kA k ok hk h1) (kA k' Tw sr h2) h3 h4 h5
theorem sU {σ:Gh}{s:List Obj}{w w':World} (hI:Inv σ s w) (hos:w'.os=w.os) (Ci:w'.tape=w.tape) (hout:w'.output=w.output) (jf:w.heap.size≤w'.heap.size)
  (hkeep:∀b,b<w.heap.size→w'.heap[b]?=w.heap[b]?):aY σ s w σ s w'∧Inv σ s w':=by
 have hE:aY σ s w σ s w':=⟨hos,Ci,hout,jf,fun b hb _=>hkeep b hb,fun b arr E _ hh=>⟨arr,by rw[hkeep b (fv hh)];exact hh,rfl⟩,fun b _ hm=>let ⟨es,c,hh⟩:=hm;⟨es,c,by rw[hkeep b (fv hh)];exact hh⟩,fun b h=>.inl h,
  fun id o ho=>⟨o,ho,W4 _,fun _=>⟨rfl,rfl⟩⟩,rfl,fun b hb _=>hkeep b hb⟩
 exact⟨hE,fun k ok np=>rn.bS (p:=σ k) hE (fun b base h=>hkeep b (hI.lt np h)) (hI.content k ok np),hI.inj,fun b hb=>Nat.lt_of_lt_of_le (hI.low b hb) jf,hI.apart⟩
theorem sE {σ:Gh}{s:List Obj}{w:World} (hI:Inv σ s w):aY σ s w σ s w.drew∧Inv σ s w.drew :=
 sU hI rfl rfl rfl (W4 _) (fun _ _=>rfl)
theorem zF {σ:Gh}{s:List Obj}{w:World} (hI:Inv σ s w) (x:Go.Obj):aY σ s w σ s (w.alloc x)∧Inv σ s (w.alloc x) :=
 sU hI rfl rfl rfl (by simp) (fun b hb=>Go.RowKit.Below.heap_alloc w x b hb)
structure Lw where
 sz:Nat
 agg:Bool
 F2:Nat
 zero:List Value
def cA (P:Program) (t:TypeId):Option Lw :=
 match P.info? t,P.underlying t with
 |some i,some d=>match i.zero with
  |some z=>if z.cells.size=i.size∧z.cells.toList.all Value.oneCell'=true then
    some ⟨i.size,(match d with|.struct _|.array _ _=>true|_=>false),i.bytes,z.cells.toList⟩ else none
  |none=>none
 |_,_=>none
theorem ir {P:Program}{t:TypeId}{i:Lw} (h:cA P t=some i):∃ti d z,P.info? t=some ti∧P.underlying t=some d∧ti.zero=some z∧ti.size=i.sz∧ti.bytes=i.F2 ∧
  z.cells.toList=i.zero∧i.zero.length=i.sz∧(∀v∈i.zero,v.oneCell'=true)∧(∀w,(isAgg t).run P w=.ok i.agg w):=by
 unfold cA at h
 cases h1:P.info? t with
 |none=>simp [h1]at h
 |some ti =>
  cases h2:P.underlying t with
  |none=>simp [h1,h2]at h
  |some d =>
   cases h3:ti.zero with
   |none=>simp [h1,h2,h3]at h
   |some z =>
    simp only[h1,h2,h3]at h
    split at h
    ·rename_i hc
     simp only[WX]at h
     subst h
     refine⟨ti,d,z,rfl,rfl,h3,rfl,rfl,rfl,by simpa using hc.1,fun v hv=>List.all_eq_true.1 hc.2 v hv,fun w=>?_⟩
     cases d <;> simp [isAgg,run_underlying h2]
    ·cases h
def cv:Value→V
 |.slice none 0 0=>.fu []
 |.agg _=>.any
 |.tuple _=>.any
 |v=>.d (.sc v)
theorem BL {σ s w} (v:Value):aI σ s w (cv v) v:=by
 unfold cv
 split
 ·exact .fu .nil
 ·exact .any
 ·exact .any
 ·rename_i h1 h2 h3
  refine .d (.sc v ?_)
  cases v <;> simp_all [Value.oneCell']
def N4:Value→V
 |.agg cs=>if cs.toList.all Value.oneCell'=true then .ag (cs.toList.map cv) else .any
 |v=>cv v
theorem L0 {σ s w} (v:Value):aI σ s w (N4 v) v:=by
 unfold N4
 split
 ·rename_i cs
  split
  ·rename_i h
   rw[Xn]at h
   refine .ag (by simp) (fun i x hx=>?_) (fun i x hx=>?_)
   ·rw[Xd]at hx
    obtain⟨y,hy,rfl⟩:=Option.map_eq_some_iff.1 hx
    have h2:cs[i]?=some y:=by rw[← XF];exact hy
    rw[Xc,h2]
    exact h y (W6 hy)
   ·rw[Xd]at hx
    obtain⟨y,hy,rfl⟩:=Option.map_eq_some_iff.1 hx
    have h2:cs[i]?=some y:=by rw[← XF];exact hy
    rw[Xc,h2]
    exact BL y
  ·exact .any
 ·exact BL _
def ev (e:Nat→V):Operand→V
 |.tmp t=>e t
 |.const v=>N4 v
 |.global _=>.any
 |.func f=>.cl (.func f) [] []
def ep:V→Option (List V)
 |.ag cs=>some cs
 |.un|.any|.tu _=>none
 |v=>some [v]
theorem dj.one {O w x u} (h:dj O w x u):u.oneCell'=true:=by
 cases h <;> first|assumption|rfl
theorem kt {σ:Gh}{s:List Obj}{w:World}{x:V}{u:Value}{cs:List V} (hr:aI σ s w x u) (hc:ep x=some cs) :
  u.cells.size=cs.length∧∀(i:Nat) (y:V),cs[i]?=some y→∃c,u.cells[i]?=some c∧c.oneCell'=true∧aI σ s w y c:=by
 have single:∀{y:V}{c:Value},c.oneCell'=true→aI σ s w y c→c.cells.size=[y].length∧∀(i:Nat) (z:V),[y][i]?=some z→∃b,c.cells[i]?=some b∧b.oneCell'=true∧aI σ s w z b:=by
  intro y c h1 h2
  have oO:c.cells=#[c]:=by cases c <;> first|rfl|simp [Value.oneCell']at h1
  refine⟨by simp [oO],fun i z hz=>?_⟩
  cases i with
  |zero=>simp at hz;subst hz;exact⟨c,by simp [oO],h1,h2⟩
  |succ n=>simp at hz
 cases hr with
 |d h=>simp only[ep,WX]at hc;subst hc;exact single h.one (.d h)
 |ag h1 h2 h3 =>
  simp only[ep,WX]at hc;subst hc
  refine⟨h1,fun i y hy=>?_⟩
  have hi:=(List.getElem?_eq_some_iff.1 hy).1
  have e:∀{arr:Array Value},i<arr.size→arr[i]?=some (arr.getD i undef):=fun h=>by simp [Array.getD,h]
  exact⟨_,e (by simp only[Value.cells];omega),h2 i y hy,h3 i y hy⟩
 |tu h1 h2=>simp [ep]at hc
 |fu h=>simp only[ep,WX]at hc;subst hc;exact single rfl (.fu h)
 |so o h1 h2 h3 h4=>simp only[ep,WX]at hc;subst hc;exact single h3 (.so o h1 h2 h3 h4)
 |rf o h1 h2 h3 h4=>simp only[ep,WX]at hc;subst hc;exact single h3 (.rf o h1 h2 h3 h4)
 |pp o h1 h2 h3=>simp only[ep,WX]at hc;subst hc;exact single rfl (.pp o h1 h2 h3)
 |mp o h1 h2 h3 h4=>simp only[ep,WX]at hc;subst hc;exact single h3 (.mp o h1 h2 h3 h4)
 |bx h1 h2 h3 hu h4=>simp only[ep,WX]at hc;subst hc;exact single rfl (.bx h1 h2 h3 hu h4)
 |cl h1 h2 h3 h4=>simp only[ep,WX]at hc;subst hc;exact single rfl (.cl h1 h2 h3 h4)
 |un=>simp [ep]at hc
 |any=>simp [ep]at hc
def mD (agg:Bool) (n:Nat) (cs:List V) (K:V→Prop):Prop :=
 match agg with
 |true=>n≤cs.length∧K (.ag (cs.take n))
 |false=>n=1∧match cs with|[]=>False|v::_=>K v
def jv (P:Program) (t:TypeId) (s:List Obj) (p:V) (K:V→Prop):Prop :=
 match cA P t with
 |none=>False
 |some i=>match p with
  |.d (.el cs)=>mD i.agg i.sz (cs.map .d) K
  |.bx v=>mD i.agg i.sz [v] K
  |.rf id g k off=>match s[id]? with
   |none=>False
   |some o=>o.g=g∧match o.aV[k]? with
    |none=>False
    |some cs=>mD i.agg i.sz (cs.drop off) K
  |.pp id g k off _ _=>match s[id]? with
   |none=>False
   |some o=>o.g=g∧match o.aV[k]? with
    |none=>False
    |some cs=>mD i.agg i.sz (cs.drop off) K
  |_=>False
theorem fo {a:Addr} (h:a.spot=none) (n:Nat):a.add n=⟨a.block,a.off+n,none⟩:=by
 obtain⟨b,o,sp⟩:=a
 simp only at h
 subst h
 unfold Addr.add
 split <;> simp_all
theorem vm {P:Program}{t:TypeId}{i:Lw} (ht:cA P t=some i) {w:World}{a:Addr} (ha:a.spot=none) (f:Nat→Value) (n1:i.agg=false→i.sz=1)
  (hc:∀j,j<i.sz→w.cell? ⟨a.block,a.off+j,none⟩=some (f j)) :
  (loadVar t a).run P w=.ok (if i.agg then .agg ((List.range i.sz).map f).toArray else f 0) w:=by
 obtain⟨ti,d,z,h1,h2,h3,h4,h5,h6,h7,h8,h9⟩:=ir ht
 have iB:(sizeOf t).run P w=.ok i.sz w:=by simp [sizeOf,typeInfo,h1,h4]
 cases uw:i.agg with
 |true =>
  rw[uw]at h9
  have hl:=run_loadCells (P:=P) w a i.sz f (fun j hj=>by rw[fo ha];exact hc j hj)
  simp [loadVar,h9,iB,hl]
 |false =>
  rw[uw]at h9
  have IL:=hc 0 (by rw[n1 uw];omega)
  have e:(⟨a.block,a.off+0,none⟩:Addr)=a:=by obtain⟨b,o,sp⟩:=a;simp_all
  rw[e]at IL
  simp [loadVar,h9,IL]
theorem yc {P:Program}{t:TypeId}{i:Lw} (ht:cA P t=some i) {σ s w}{a:Addr} (ha:a.spot=none) {cs:List V}{K:V→Prop} (hk:mD i.agg i.sz cs K)
  (hc:∀j x,cs[j]?=some x→∃u,w.cell? ⟨a.block,a.off+j,none⟩=some u∧u.oneCell'=true∧aI σ s w x u) :
  ∃v c,(loadVar t a).run P w=.ok c w∧aI σ s w v c∧K v:=by
 have hf:∃f:Nat→Value,∀j x,cs[j]?=some x→w.cell? ⟨a.block,a.off+j,none⟩=some (f j)∧(f j).oneCell'=true∧aI σ s w x (f j):=by
  refine⟨fun j=>(w.cell? ⟨a.block,a.off+j,none⟩).getD undef,fun j x hx=>?_⟩
  obtain⟨u,h1,h2,h3⟩:=hc j x hx
  simp only[h1,Option.getD_some]
  exact⟨trivial,h2,h3⟩
 obtain⟨f,hf⟩:=hf
 unfold mD at hk
 cases uw:i.agg with
 |true =>
  rw[uw]at hk
  obtain⟨hn,hk⟩:=hk
  have pP:∀j,j<i.sz→cs[j]?=some (cs[j]?.getD .any):=fun j hj=>by simp [show j<cs.length by omega]
  refine⟨_,_,vm ht ha f (by simp [uw]) (fun j hj=>(hf j _ (pP j hj)).1),?_,hk⟩
  rw[uw]
  simp only[if_true]
  have e:∀j,j<i.sz→((List.range i.sz).map f).toArray.getD j undef=f j:=fun j hj=>by simp [Array.getD,hj]
  have e2:∀j x,(cs.take i.sz)[j]?=some x→j<i.sz∧cs[j]?=some x:=by
   intro j x hx
   rw[Xr]at hx
   split at hx
   ·exact⟨by assumption,hx⟩
   ·cases hx
  refine .ag (by simp [Nat.min_eq_left hn]) (fun j x hx=>?_) (fun j x hx=>?_)
  ·rw[e j (e2 j x hx).1];exact(hf j x (e2 j x hx).2).2.1
  ·rw[e j (e2 j x hx).1];exact(hf j x (e2 j x hx).2).2.2
 |false =>
  rw[uw]at hk
  obtain⟨hn,hk⟩:=hk
  cases cs with
  |nil=>exact hk.elim
  |cons v rest =>
   refine⟨v,_,vm ht ha f (fun _=>hn) (fun j hj=>?_),?_,hk⟩
   ·have:j=0:=by omega
    subst this
    exact(hf 0 v rfl).1
   ·rw[uw]
    exact(hf 0 v rfl).2.2
theorem G0 {P:Program}{t:TypeId}{σ:Gh}{s:List Obj}{w:World}{p:V}{u:Value}{K:V→Prop} (hI:Inv σ s w) (hp:aI σ s w p u) (Sa:∀id g i off b a,p≠.pp id g i off b a) (h:jv P t s p K) :
  ∃v c,(Instr.loadAt t u).run P w=.ok c w∧aI σ s w v c∧K v:=by
 unfold jv at h
 cases ht:cA P t with
 |none=>rw[ht]at h;exact h.elim
 |some i =>
  rw[ht]at h
  simp only at h
  have fin:∀(a:Addr) (v:V) (c:Value),u=.pointer (some a)→(loadVar t a).run P w=.ok c w→aI σ s w v c→K v→∃v c,(Instr.loadAt t u).run P w=.ok c w∧aI σ s w v c∧K v:=by
   rintro a v c rfl h1 h2 h3
   exact⟨v,c,by simp [Instr.loadAt,Instr.sureAddr,h1],h2,h3⟩
  cases hp with
  |pp o ho hg hk=>exact absurd rfl (Sa _ _ _ _ _ _)
  |d hx =>
   cases hx with
   |el cs a f h1 h2 h3 =>
    obtain⟨v,c,k1,k2,k3⟩:=yc (σ:=σ) (s:=s) (w:=w) ht h1 h (fun j x hx=>by
     rw[Xd]at hx
     obtain⟨y,hy,rfl⟩:=Option.map_eq_some_iff.1 hx
     exact⟨f j,(h2 j y hy).1,(h3 j y hy).one,.d (h3 j y hy)⟩)
    exact fin a v c rfl k1 k2 k3
   |_=>exact h.elim
  |bx h1 h2 h3 hu h4 =>
   obtain⟨v,c,k1,k2,k3⟩:=yc (σ:=σ) (s:=s) (w:=w) ht h1 h (fun j x hx=>by
    cases j with
    |zero=>simp at hx;subst hx;exact⟨_,h2,hu,h4⟩
    |succ j=>simp at hx)
   exact fin _ v c rfl k1 k2 k3
  |rf o ho hg hu hk =>
   simp only[ho]at h
   obtain⟨sj,h⟩:=h
   obtain⟨b,base,hs,hC,rfl⟩:=hk sj
   split at h
   ·exact h.elim
   ·rename_i id g k off _ cs nI
    rcases hI.content _ o ho with h1|⟨b',cg,arr,E,h1,h2,h3,h4,h5⟩
    ·exact(h1.EA hs hC).elim
    ·rw[hs]at h1;cases h1
     obtain⟨v,c,k1,k2,k3⟩:=yc (σ:=σ) (s:=s) (w:=w) (a:=⟨b,base+k*o.sz+off,none⟩) ht rfl h (fun j x hx=>by
      rw[XL]at hx
      obtain⟨y,k1,k2,k3⟩:=h5 k (off+j) x (by rw[nI];exact hx)
      refine⟨y,?_,k2,k3⟩
      simp only[World.cell?,h2]
      simpa [XX]using k1)
     exact fin _ v c rfl k1 k2 k3
  |_=>exact h.elim
theorem x3 {P:Program}{t:TypeId}{σ:Gh}{s:List Obj}{w:World}{p:V}{u:Value}{K:V→Prop} (hI:Inv σ s w) (hp:aI σ s w p u) (h:jv P t s p K) :
  ∃v c,(Instr.loadAt t u).run P w=.ok c w∧aI σ s w v c∧K v:=by
 by_cases BH:∃id g i off b a,p=.pp id g i off b a
 ·obtain⟨id,g,i,off,b,a,rfl⟩:=BH
  exact G0 hI hp.NF (by intros;simp) h
 ·exact G0 hI hp (fun id g i off b a he=>BH ⟨id,g,i,off,b,a,he⟩) h
def eE (cs:List V) (off:Nat) (ns:List V):List V:=cs.take off++ns++cs.drop (off+ns.length)
def fW (P:Program) (t:TypeId) (s:List Obj) (p x:V) (K:List Obj→Prop):Prop :=
 match cA P t with
 |none=>False
 |some i=>match p with
  |.rf id g k off=>match s[id]? with
   |none=>False
   |some o=>o.g=g∧o.live=true∧match o.aV[k]? with
    |none=>False
    |some cs=>match ep x with
     |none=>False
     |some ns=>ns.length=i.sz∧off+i.sz≤cs.length∧K (s.set id { o with aV:=o.aV.set k (eE cs off ns) })
  |.pp id g k off _ _=>match s[id]? with
   |none=>False
   |some o=>o.g=g∧o.live=true∧match o.aV[k]? with
    |none=>False
    |some cs=>match ep x with
     |none=>False
     |some ns=>ns.length=i.sz∧off+i.sz≤cs.length∧K (s.set id { o with aV:=o.aV.set k (eE cs off ns) })
  |_=>False
theorem mR (cs:List V) (off:Nat) (ns:List V) (h:off+ns.length≤cs.length) (j:Nat) :
  (eE cs off ns)[j]?=if off≤j∧j<off+ns.length then ns[j-off]? else cs[j]?:=by
 have hl:(cs.take off).length=off:=by simp;omega
 unfold eE
 by_cases h1:j<off
 ·rw[if_neg (by omega),Xx,Xg (by omega),Xr,if_pos h1]
 ·by_cases h2:j<off+ns.length
  ·rw[if_pos (by omega),Xx,Xm (by omega),hl,Xg (by omega)]
  ·rw[if_neg (by omega),Xm (by simp;omega),XL]
   congr 1
   simp
   omega
theorem oT (cs:List V) (off:Nat) (ns:List V) (h:off+ns.length≤cs.length):(eE cs off ns).length=cs.length:=by
 simp [eE];omega
theorem qx (σ:Gh) (id:Nat):mj σ id (σ id)=σ:=by
 obtain⟨m,b⟩:=σ
 unfold mj
 congr 1
 funext k
 split
 ·rename_i h;rw[h]
 ·rfl
theorem Hx {σ:Gh}{s:List Obj}{w:World} (hI:Inv σ s w) {id:Nat}{o:Obj} (ho:s[id]?=some o) (hl:o.live=true) {k off:Nat}{cs ns:List V} (nI:o.aV[k]?=some cs)
  (hfit:off+ns.length≤cs.length) {b base:Nat} (hs:σ id=some (b,base)) (hC:Fg w b) {us:List Value} (RP:us.length=ns.length)
  (hrep:∀(j:Nat) (x:V),ns[j]?=some x→∃u,us[j]?=some u∧u.oneCell'=true∧aI σ s w x u) (OM:∀u∈us,u.oneCell'=true) (P:Program) :
  ∃w',(storeCells ⟨b,base+k*o.sz+off,none⟩ us).run P w=.ok () w'∧aY σ s w σ (s.set id { o with aV:=o.aV.set k (eE cs off ns) }) w' ∧
   Inv σ (s.set id { o with aV:=o.aV.set k (eE cs off ns) }) w':=by
 rcases hI.content _ o ho with h1|⟨b',cg,arr,E,h1,h2,h3,h4,h5⟩
 ·exact(h1.EA hs hC).elim
 rw[hs]at h1;cases h1
 have hk:k<o.aV.length:=(List.getElem?_eq_some_iff.1 nI).1
 have cK:cs.length=o.sz:=h3 cs (W6 nI)
 have S6:k*o.sz+o.sz≤o.aV.length*o.sz:=by
  have:=XG o.sz (show k+1≤o.aV.length from hk)
  rw[XO,Nat.one_mul]at this
  exact this
 have c8:=run_storeCells_at P b (base+k*o.sz+off) E us 0 arr w h2 (by rw[RP];omega) OM
 simp only[Nat.add_zero]at c8
 generalize tF:(arr.toList.take (base+k*o.sz+off)++us++arr.toList.drop (base+k*o.sz+off+us.length)).toArray=cZ at c8
 have jf:cZ.size=arr.size:=by rw[← tF];simp;omega
 have pP:∀p,cZ[p]?=if base+k*o.sz+off≤p∧p<base+k*o.sz+off+us.length then us[p-(base+k*o.sz+off)]? else arr[p]?:=by
  intro p
  have hl:(arr.toList.take (base+k*o.sz+off)).length=base+k*o.sz+off:=by simp;omega
  rw[← tF,List.getElem?_toArray]
  by_cases g1:p<base+k*o.sz+off
  ·rw[if_neg (by omega),Xx,Xg (by omega),Xr,if_pos g1,XF]
  ·by_cases g2:p<base+k*o.sz+off+us.length
   ·rw[if_pos (by omega),Xx,Xm (by omega),hl,Xg (by omega)]
   ·rw[if_neg (by omega),Xm (by simp;omega),XL,XF]
    congr 1
    simp
    omega
 refine⟨_,c8,?_⟩
 have:=mZ (p:=σ id) (w':=w.setRow b cZ) (o':={ o with aV:=o.aV.set k (eE cs off ns) }) hI ho hl rfl rfl rfl (by simp)
  (fun b1 _ gr=>setRow_other w b b1 cZ (fun e=>gr base (by rw[hs,e])))
  (fun b1 jD Rc E1 he hh=>by
   rw[hs]at he;cases he
   rw[h2]at hh;cases hh
   exact⟨cZ,setRow_heap w b arr cZ E (0,0) h2,jf⟩)
  (fun b1 jD he hm=>by
   rw[hs]at he;cases he
   exact(hC.notM hm).elim)
  (W4 _) (fun _=>⟨rfl,rfl⟩) (fun b1 jD he=>.inl ⟨jD,he⟩)
  (fun hE=>.inr ⟨b,base,cZ,E,hs,setRow_heap w b arr cZ E (0,0) h2,(by
   intro e he
   simp only at he
   rcases List.mem_or_eq_of_mem_set he with h'|h'
   ·exact h3 e h'
   ·rw[h',oT _ _ _ hfit];exact cK),(by simp only[List.length_set];omega),(by
   intro i j x hx
   simp only at hx ⊢
   rw[qx]at hE ⊢
   by_cases Kr:i=k
   ·subst Kr
    rw[XK hk]at hx
    simp only[XH]at hx
    rw[mR _ _ _ hfit]at hx
    split at hx
    ·rename_i yQ
     obtain⟨u,k1,k2,k3⟩:=hrep _ x hx
     refine⟨u,?_,k2,k3.bS hE⟩
     rw[pP,if_pos (by omega),← k1]
     congr 1
     omega
    ·rename_i yQ
     obtain⟨u,k1,k2,k3⟩:=h5 i j x (by rw[nI];exact hx)
     refine⟨u,?_,k2,k3.bS hE⟩
     rw[pP,if_neg (by omega)]
     exact k1
   ·rw[XZ (Ne.symm Kr)]at hx
    obtain⟨u,k1,k2,k3⟩:=h5 i j x hx
    refine⟨u,?_,k2,k3.bS hE⟩
    rw[pP,if_neg ?_]
    ·exact k1
    ·have S0:j<o.sz:=by
      cases he:o.aV[i]? with
      |none=>rw[he]at hx;cases hx
      |some e =>
       rw[he]at hx
       have:=(List.getElem?_eq_some_iff.1 hx).1
       rw[h3 e (W6 he)]at this
       exact this
     rcases Nat.lt_or_gt_of_ne Kr with aS|aS
     ·have:=XG o.sz (show i+1≤k from aS)
      rw[XO,Nat.one_mul]at this
      omega
     ·have:=XG o.sz (show k+1≤i from aS)
      rw[XO,Nat.one_mul]at this
      omega)⟩)
 rw[qx]at this
 exact this
theorem DA {P:Program}{t:TypeId}{σ:Gh}{s:List Obj}{w:World}{p x:V}{u c:Value}{K:List Obj→Prop} (hI:Inv σ s w) (hp:aI σ s w p u) (hx:aI σ s w x c) (Sa:∀id g i off b a,p≠.pp id g i off b a) (h:fW P t s p x K) :
  ∃s' w',(Instr.storeAt t u c).run P w=.ok () w'∧aY σ s w σ s' w'∧Inv σ s' w'∧K s':=by
 unfold fW at h
 cases ht:cA P t with
 |none=>rw[ht]at h;exact h.elim
 |some i =>
  rw[ht]at h
  simp only at h
  cases hp with
  |rf o ho hg hu hk =>
   simp only[ho]at h
   obtain⟨sj,hl,h⟩:=h
   obtain⟨b,base,hs,hC,rfl⟩:=hk sj
   split at h
   ·exact h.elim
   ·rename_i id g k off _ cs nI
    split at h
    ·exact h.elim
    ·rename_i ns yX
     obtain⟨h1,h2,h3⟩:=h
     obtain⟨Eb,Nt⟩:=kt hx yX
     obtain⟨ti,d,z,k1,k2,k3,k4,k5,k6,k7,k8,k9⟩:=ir ht
     have iB:∀w,(sizeOf t).run P w=.ok i.sz w:=fun w=>by simp [sizeOf,typeInfo,k1,k4]
     obtain⟨w',r1,r2,r3⟩:=Hx hI ho hl nI (ns:=ns) (off:=off) (by omega) hs hC (us:=c.cells.toList) (by simpa using Eb)
      (fun j x hx=>by
       obtain⟨u,e1,e2,e3⟩:=Nt j x hx
       exact⟨u,by rw[XF];exact e1,e2,e3⟩)
      (fun u hu=>by
       obtain⟨j,hj,rfl⟩:=List.mem_iff_getElem.1 hu
       have SN:j<ns.length:=by simpa [Eb]using hj
       obtain⟨u,e1,e2,e3⟩:=Nt j ns[j] (by simp [SN])
       have:c.cells.toList[j]=u:=by
        rw[← XF]at e1
        exact(List.getElem?_eq_some_iff.1 e1).2
       rw[this];exact e2) P
     refine⟨_,w',?_,r2,r3,h3⟩
     simp [Instr.storeAt,Instr.sureAddr,storeVar,iB,Eb,h1,r1]
  |pp o ho hg hk=>exact absurd rfl (Sa _ _ _ _ _ _)
  |_=>exact h.elim
theorem D8 {P:Program}{t:TypeId}{σ:Gh}{s:List Obj}{w:World}{p x:V}{u c:Value}{K:List Obj→Prop} (hI:Inv σ s w) (hp:aI σ s w p u) (hx:aI σ s w x c) (h:fW P t s p x K) :
  ∃s' w',(Instr.storeAt t u c).run P w=.ok () w'∧aY σ s w σ s' w'∧Inv σ s' w'∧K s':=by
 by_cases BH:∃id g i off b a,p=.pp id g i off b a
 ·obtain⟨id,g,i,off,b,a,rfl⟩:=BH
  exact DA hI hp.NF hx (by intros;simp) h
 ·exact DA hI hp hx (fun id g i off b a he=>BH ⟨id,g,i,off,b,a,he⟩) h
def bd (P:Program) (t:TypeId) (f:Nat):Option Nat :=
 match P.underlying t with
 |some (.struct fields)=>match fields[f]? with
  |some fd=>match P.info? fd.type with
   |some i=>if i.size=0 then none else some fd.offset
   |none=>none
  |none=>none
 |_=>none
theorem Io {P:Program}{t f off} (h:bd P t f=some off):∃fields fd,P.underlying t=some (.struct fields)∧fields[f]?=some fd∧fd.offset=off ∧
  ∀(a:Addr) (w:World),(fieldPlace a fd).run P w=.ok (a.add off) w:=by
 unfold bd at h
 split at h
 ·rename_i fields hu
  split at h
  ·rename_i fd hf
   split at h
   ·rename_i i hi
    split at h
    ·cases h
    ·rename_i gr
     simp only[WX]at h
     exact⟨fields,fd,hu,hf,h,fun a w=>by simp [fieldPlace,sizeOf,typeInfo,hi,gr,h]⟩
   ·cases h
  ·cases h
 ·cases h
def qZ (s:List Obj) (id g:Nat) (K:Obj→Prop):Prop :=
 match s[id]? with
 |none=>False
 |some o=>o.g=g∧K o
theorem eD {s:List Obj}{id g:Nat}{K:Obj→Prop} (h:qZ s id g K):∃o,s[id]?=some o∧o.g=g∧K o:=by
 unfold qZ at h
 split at h
 ·exact h.elim
 ·rename_i o ho;exact⟨o,ho,h.1,h.2⟩
def ez (P:Program) (t:TypeId) (s:List Obj) (p:V) (f:Nat) (K:V→Prop):Prop :=
 match bd P t f with
 |none=>False
 |some d=>match p with
  |.d (.el cs)=>K (.d (.el (cs.drop d)))
  |.rf id g k off=>qZ s id g fun _=>K (.rf id g k (off+d))
  |.pp id g k off b a=>qZ s id g fun _=>K (.pp id g k (off+d) b (a+d))
  |.d (.sc (.pointer (some ⟨b,a,none⟩)))=>K (.d (.sc (.pointer (some ⟨b,a+d,none⟩))))
  |_=>False
theorem FC {σ:Gh}{s:List Obj}{w:World}{id g k off:Nat}{u:Value} (hp:aI σ s w (.rf id g k off) u) {o:Obj} (ho:s[id]?=some o) (hg:o.g=g) :
  ∃b base,σ id=some (b,base)∧Fg w b∧u=.pointer (some ⟨b,base+k*o.sz+off,none⟩):=by
 cases hp with
 |rf o' nN Dd hu hk =>
  rw[ho]at nN;cases nN
  exact hk hg
theorem dj.drop {O:Nat→Prop}{w:World}{cs:List D}{a:Addr} (h:dj O w (.el cs) (.pointer (some a))) (d:Nat):dj O w (.el (cs.drop d)) (.pointer (some (a.add d))):=by
 cases h with
 |el _ _ f h1 h2 h3 =>
  rw[fo h1]
  refine .el _ _ (fun j=>f (d+j)) rfl (fun j x hx=>?_) (fun j x hx=>?_)
  ·rw[XL]at hx
   have:=h2 (d+j) x hx
   simpa [XX]using this
  ·rw[XL]at hx
   exact h3 (d+j) x hx
theorem vK {P:Program}{t:TypeId}{σ:Gh}{s:List Obj}{w:World}{p:V}{u:Value}{f:Nat}{K:V→Prop} (hp:aI σ s w p u) (h:ez P t s p f K) :
  ∃v c,(Instr.fieldAt t u f).run P w=.ok c w∧aI σ s w v c∧K v:=by
 unfold ez at h
 split at h
 ·exact h.elim
 ·rename_i d hd
  obtain⟨fields,fd,h1,h2,h3,h4⟩:=Io hd
  have c8:∀a:Addr,(Instr.fieldAt t (.pointer (some a)) f).run P w=.ok (.pointer (some (a.add d))) w:=fun a=>by
   simp [Instr.fieldAt,run_underlying h1,h2,Instr.sureAddr,h4]
  cases hp with
  |d hx =>
   cases hx with
   |el cs a f' k1 k2 k3=>exact⟨_,_,c8 a,.d (dj.drop (.el cs a f' k1 k2 k3) d),h⟩
   |sc v hv =>
    split at h
    case h_4 =>
     rename_i b a he
     simp only[V.d.injEq,D.sc.injEq]at he
     subst he
     refine⟨_,_,c8 _,?_,h⟩
     rw[fo rfl]
     exact .d (.sc _ rfl)
    all_goals first|exact h.elim|(rename_i he;cases he)
   |_=>exact h.elim
  |rf o ho hg hu hk =>
   obtain⟨o',e1,e2,e3⟩:=eD h
   rw[ho]at e1;cases e1
   obtain⟨b,base,k1,kC,rfl⟩:=hk e2
   refine⟨_,_,c8 _,.rf o ho hg rfl (fun _=>⟨b,base,k1,kC,?_⟩),e3⟩
   rw[fo rfl]
   simp [XX]
  |pp o ho hg hk =>
   obtain⟨o',e1,e2,e3⟩:=eD h
   rw[ho]at e1;cases e1
   refine⟨_,_,c8 _,?_,e3⟩
   rw[fo rfl]
   exact .pp o ho hg fun he=>let ⟨base,h1,h2,h3⟩:=hk he;⟨base,h1,h2,by rw[h3];simp [XX]⟩
  |_=>exact h.elim
def BT (P:Program) (t:TypeId):Option Nat :=
 match P.underlying t with
 |some (.slice e)=>(P.info? e).map (·.size)
 |_=>none
def Me (P:Program) (t:TypeId):Option (Nat×Nat) :=
 match P.underlying t with
 |some (.array n e)=>(P.info? e).map fun i=>(n,i.size)
 |_=>none
theorem CD {P:Program}{t z} (h:BT P t=some z):∃e i,P.underlying t=some (.slice e)∧P.info? e=some i∧i.size=z:=by
 unfold BT at h
 split at h
 ·rename_i e hu
  obtain⟨i,h1,h2⟩:=Option.map_eq_some_iff.1 h
  exact⟨e,i,hu,h1,h2⟩
 ·cases h
theorem wW {P:Program}{t n z} (h:Me P t=some (n,z)):∃e i,P.underlying t=some (.array n e)∧P.info? e=some i∧i.size=z:=by
 unfold Me at h
 split at h
 ·rename_i m e hu
  obtain⟨i,h1,h2⟩:=Option.map_eq_some_iff.1 h
  simp only[Xs]at h2
  obtain⟨rfl,h2⟩:=h2
  exact⟨e,i,hu,h1,h2⟩
 ·cases h
def Nr (aV:List (List D)) (i z:Nat) (K:V→Prop):Prop :=
 match aV[i]? with
 |none=>False
 |some cs=>cs.length=z∧K (.d (.el cs))
def dF (P:Program) (t:TypeId) (s:List Obj) (x i:V) (K:V→Prop):Prop :=
 match i with
 |.d (.sc (.int _ n))=>match BT P t with
  |some z=>match x with
   |.d (.sl aV)=>0≤n∧n<aV.length∧Nr aV n.toNat z K
   |.fu aV=>0≤n∧n<aV.length∧Nr aV n.toNat z K
   |.so id g lo m=>qZ s id g fun o=>0≤n∧n<m∧o.sz=z∧K (.rf id g (lo+n.toNat) 0)
   |_=>False
  |none=>match Me P t with
   |some (len,z)=>match x with
    |.d (.el cs)=>0≤n∧n<len∧K (.d (.el (cs.drop (n.toNat*z))))
    |.rf id g k off=>qZ s id g fun _=>0≤n∧n<len∧K (.rf id g k (off+n.toNat*z))
    |_=>False
   |none=>False
 |_=>False
theorem dj.elem {O:Nat→Prop}{w:World}{aV:List (List D)}{a:Option Addr}{n cap:Nat} (h:dj O w (.sl aV) (.slice a n cap)) {i:Nat}{cs:List D} (nI:aV[i]?=some cs) {z:Nat} (hz:cs.length=z) :
  ∃ad,a=some ad∧n=aV.length∧dj O w (.el cs) (.pointer (some (ad.add (i*z)))):=by
 have aS:=(List.getElem?_eq_some_iff.1 nI).1
 cases h with
 |nil=>simp at aS
 |sl _ ad _ sz f h1 h2 h3 h4 h5 =>
  have gr:aV≠[]:=by intro e;rw[e]at aS;simp at aS
  have iB:sz=z:=by rw[← hz];exact(h3 cs (W6 nI)).symm
  subst iB
  refine⟨ad,rfl,rfl,?_⟩
  rw[fo (h2 gr)]
  exact .el _ _ (f i) rfl (fun j x hx=>h4 i j x (by rw[nI];exact hx)) (fun j x hx=>h5 i j x (by rw[nI];exact hx))
theorem vL {P:Program}{t:TypeId}{σ:Gh}{s:List Obj}{w:World}{x i:V}{u ui:Value}{K:V→Prop} (hx:aI σ s w x u) (hi:aI σ s w i ui) (h:dF P t s x i K) :
  ∃v c,(Instr.indexAt t u ui).run P w=.ok c w∧aI σ s w v c∧K v:=by
 unfold dF at h
 split at h
 case h_2=>exact h.elim
 rename_i k n
 cases hi with|d hi=>?_
 cases hi with|sc _ _=>?_
 split at h
 ·rename_i z hz
  obtain⟨e,ti,h1,h2,h3⟩:=CD hz
  have c8:∀(ad:Addr) (len cap:Nat),0≤n→n<len→(Instr.indexAt t (.slice (some ad) len cap) (.int k n)).run P w=.ok (.pointer (some (ad.add (n.toNat*z)))) w:=by
   intro ad len cap g1 g2
   simp [Instr.indexAt,asIntOf,run_underlying h1,g1,g2,sizeOf,typeInfo,h2,h3]
  have Aa:∀(aV:List (List D)) (a:Option Addr) (m cap:Nat),dj (Own σ s) w (.sl aV) (.slice a m cap)→0≤n∧n<aV.length∧Nr aV n.toNat z K →
    ∃v c,(Instr.indexAt t (.slice a m cap) (.int k n)).run P w=.ok c w∧aI σ s w v c∧K v:=by
   intro aV a m cap hr ⟨g1,g2,g3⟩
   unfold Nr at g3
   split at g3
   ·exact g3.elim
   ·rename_i cs nI
    obtain⟨ad,rfl,rfl,Ot⟩:=hr.elem nI g3.1
    exact⟨_,_,c8 ad _ cap g1 g2,.d Ot,g3.2⟩
  cases hx with
  |d hx =>
   cases hx with
   |nil=>exact Aa _ _ _ _ .nil h
   |sl aV a cap sz f k1 k2 k3 k4 k5=>exact Aa _ _ _ _ (.sl aV a cap sz f k1 k2 k3 k4 k5) h
   |_=>exact h.elim
  |fu hx=>exact Aa _ _ _ _ hx h
  |so o ho hg hu hk =>
   obtain⟨o',e1,e2,e3,e4,e5,e6⟩:=eD h
   rw[ho]at e1;cases e1
   rcases hk e2 with ⟨_,⟨a,rfl⟩,_,rfl⟩|⟨b,base,cap,E,arr,g1,g2,rfl,g4,g5⟩
   ·omega
   ·refine⟨_,_,c8 _ _ _ e3 e4,.rf o ho hg rfl (fun _=>⟨b,base,g1,⟨arr,E,g2⟩,?_⟩),e6⟩
    rw[fo rfl,e5,XO]
    simp [XX]
  |_=>exact h.elim
 ·split at h
  ·rename_i tg len z hz
   obtain⟨e,ti,h1,h2,h3⟩:=wW hz
   have c8:∀(ad:Addr),0≤n→n<len→(Instr.indexAt t (.pointer (some ad)) (.int k n)).run P w=.ok (.pointer (some (ad.add (n.toNat*z)))) w:=by
    intro ad g1 g2
    simp [Instr.indexAt,asIntOf,run_underlying h1,Instr.sureAddr,g1,g2,sizeOf,typeInfo,h2,h3]
   cases hx with
   |d hx =>
    cases hx with
    |el cs a f k1 k2 k3=>exact⟨_,_,c8 a h.1 h.2.1,.d (dj.drop (.el cs a f k1 k2 k3) _),h.2.2⟩
    |_=>exact h.elim
   |rf o ho hg hu hk =>
    obtain⟨o',e1,e2,e3,e4,e5⟩:=eD h
    rw[ho]at e1;cases e1
    obtain⟨b,base,k1,kC,rfl⟩:=hk e2
    refine⟨_,_,c8 _ e3 e4,.rf o ho hg rfl (fun _=>⟨b,base,k1,kC,?_⟩),e5⟩
    rw[fo rfl]
    simp [XX]
   |_=>exact h.elim
  ·exact h.elim
def pH (P:Program) (t:TypeId) (cs:List V) (off:Nat) (K:V→Prop):Prop :=
 match cA P t with
 |none=>False
 |some i=>match i.agg with
  |true=>off+i.sz≤cs.length∧K (.ag ((cs.drop off).take i.sz))
  |false=>match cs[off]? with
   |none=>False
   |some v=>K v
theorem xG {P:Program}{t:TypeId}{σ:Gh}{s:List Obj}{w:World}{cs:List V}{arr:Array Value}{off:Nat}{K:V→Prop} (hx:aI σ s w (.ag cs) (.agg arr)) (h:pH P t cs off K) :
  ∃v c,(part t arr off).run P w=.ok c w∧aI σ s w v c∧K v:=by
 unfold pH at h
 cases hx with|ag h1 h2 h3=>?_
 split at h
 ·exact h.elim
 ·rename_i i hi
  obtain⟨ti,d,z,k1,k2,k3,k4,k5,k6,k7,k8,k9⟩:=ir hi
  have iB:∀w,(sizeOf t).run P w=.ok i.sz w:=fun w=>by simp [sizeOf,typeInfo,k1,k4]
  split at h
  ·rename_i uw
   rw[uw]at k9
   refine⟨_,.agg (arr.extract off (off+i.sz)),by simp [part,k9,iB],?_,h.2⟩
   have e:∀(j:Nat) (x:V),((cs.drop off).take i.sz)[j]?=some x→cs[off+j]?=some x∧(arr.extract off (off+i.sz)).getD j undef=arr.getD (off+j) undef:=by
    intro j x hx
    rw[Xr]at hx
    split at hx
    ·rename_i hj
     rw[XL]at hx
     refine⟨hx,?_⟩
     have e2:(arr.extract off (off+i.sz))[j]?=arr[off+j]?:=by
      rw[Array.getElem?_extract,if_pos (by rw[h1];omega)]
     rw[Xc,Xc,e2]
    ·cases hx
   refine .ag (by simp [h1];omega) (fun j x hx=>?_) (fun j x hx=>?_)
   ·rw[(e j x hx).2];exact h2 _ _ (e j x hx).1
   ·rw[(e j x hx).2];exact h3 _ _ (e j x hx).1
  ·rename_i uw
   rw[uw]at k9
   split at h
   ·exact h.elim
   ·rename_i v hv
    have aS:=(List.getElem?_eq_some_iff.1 hv).1
    obtain⟨c,hc⟩:∃c,arr[off]?=some c:=⟨arr[off]'(by omega),by rw[Array.getElem?_eq_getElem]⟩
    have hd:arr.getD off undef=c:=by rw[Xc,hc];rfl
    exact⟨v,c,by simp [part,k9,hc],by rw[← hd];exact h3 _ _ hv,h⟩
def jU (P:Program) (t:TypeId) (x:V) (f:Nat) (K:V→Prop):Prop :=
 match x with
 |.ag cs=>match P.underlying t with
  |some (.struct fields)=>match fields[f]? with
   |some fd=>pH P fd.type cs fd.offset K
   |none=>False
  |_=>False
 |_=>False
theorem CG {P:Program}{t:TypeId}{σ:Gh}{s:List Obj}{w:World}{x:V}{u:Value}{f:Nat}{K:V→Prop} (hx:aI σ s w x u) (h:jU P t x f K) :
  ∃v c,(Instr.field t u f).run P w=.ok c w∧aI σ s w v c∧K v:=by
 unfold jU at h
 split at h
 case h_2=>exact h.elim
 split at h
 case h_2=>exact h.elim
 split at h
 case h_2=>exact h.elim
 rename_i hu _ fd Oo
 cases hx with|ag h1 h2 h3=>?_
 obtain⟨v,c,r1,r2,r3⟩:=xG (.ag h1 h2 h3) h
 exact⟨v,c,by simp [Instr.field,run_underlying hu,Oo,asAgg,r1],r2,r3⟩
def iz (P:Program) (t:TypeId) (x i:V) (K:V→Prop):Prop :=
 match i with
 |.d (.sc (.int _ n))=>match x with
  |.ag cs=>match P.underlying t with
   |some (.array len e)=>match (P.info? e).map (·.size) with
    |some z=>0≤n∧n<len∧pH P e cs (n.toNat*z) K
    |none=>False
   |_=>False
  |_=>False
 |_=>False
theorem DK {P:Program}{t:TypeId}{σ:Gh}{s:List Obj}{w:World}{x i:V}{u ui:Value}{K:V→Prop} (hx:aI σ s w x u) (hi:aI σ s w i ui) (h:iz P t x i K) :
  ∃v c,(Instr.index t u ui).run P w=.ok c w∧aI σ s w v c∧K v:=by
 unfold iz at h
 split at h
 case h_2=>exact h.elim
 rename_i k n
 cases hi with|d hi=>?_
 cases hi with|sc _ _=>?_
 split at h
 case h_2=>exact h.elim
 split at h
 case h_2=>exact h.elim
 rename_i hu
 split at h
 case h_2=>exact h.elim
 rename_i z hz
 obtain⟨ti,h1,h2⟩:=Option.map_eq_some_iff.1 hz
 cases hx with|ag k1 k2 k3=>?_
 obtain⟨v,c,r1,r2,r3⟩:=xG (.ag k1 k2 k3) h.2.2
 refine⟨v,c,?_,r2,r3⟩
 simp [Instr.index,asIntOf,run_underlying hu,h.1,h.2.1,sizeOf,typeInfo,h1,h2,r1]
def sQ (σ:Gh) (s:List Obj) (w:World) (cs:List V) (arr:Array Value):Prop :=
 arr.size=cs.length∧∀(i:Nat) (x:V),cs[i]?=some x→∃c,arr[i]?=some c∧c.oneCell'=true∧aI σ s w x c
theorem sQ.ag {σ s w cs arr} (h:sQ σ s w cs arr):aI σ s w (.ag cs) (.agg arr):=by
 have e:∀(i:Nat) (x:V),cs[i]?=some x→(arr.getD i undef).oneCell'=true∧aI σ s w x (arr.getD i undef):=by
  intro i x hx
  obtain⟨c,h1,h2,h3⟩:=h.2 i x hx
  rw[Xc,h1]
  exact⟨h2,h3⟩
 exact .ag h.1 (fun i x hx=>(e i x hx).1) (fun i x hx=>(e i x hx).2)
theorem uI {P:Program}{t:TypeId}{i:Lw} (ht:cA P t=some i) (σ:Gh) (s:List Obj) (w:World):∃z,(∀w,(zeroValue t).run P w=.ok z w)∧sQ σ s w (i.zero.map cv) z.cells∧z.cells.size=i.sz∧z.cells.toList=i.zero:=by
 obtain⟨ti,d,z,k1,k2,k3,k4,k5,k6,k7,k8,k9⟩:=ir ht
 refine⟨z,fun w=>by simp [zeroValue,typeInfo,k1,k3],⟨by rw[← Array.length_toList,k6];simp,fun j x hx=>?_⟩,by rw[← Array.length_toList,k6,k7],k6⟩
 rw[Xd]at hx
 obtain⟨v,hv,rfl⟩:=Option.map_eq_some_iff.1 hx
 exact⟨v,by rw[← XF,k6];exact hv,k8 v (W6 hv),BL v⟩
theorem uK (off:Nat):∀(l:List Value) (k:Nat) (cells:Array Value),off+k+l.length≤cells.size →
  ((l.zipIdx k).foldl (fun cs (x:Value×Nat)=>cs.setIfInBounds (off+x.2) x.1) cells).size=cells.size ∧
  ∀p,((l.zipIdx k).foldl (fun cs (x:Value×Nat)=>cs.setIfInBounds (off+x.2) x.1) cells)[p]?=if off+k≤p∧p<off+k+l.length then l[p-(off+k)]? else cells[p]?
 |[],k,cells,_=>by simp;intro p h1 h2;omega
 |v::l,k,cells,h=>by
  simp only[W3]at h
  simp only[List.zipIdx_cons,List.foldl_cons]
  obtain⟨h1,h2⟩:=uK off l (k+1) (cells.setIfInBounds (off+k) v) (by simp;omega)
  refine⟨by rw[h1];simp,fun p=>?_⟩
  rw[h2 p]
  by_cases hp:p=off+k
  ·subst hp
   rw[if_neg (by omega),if_pos (by simp),Array.getElem?_setIfInBounds_self_of_lt (by omega)]
   simp
  ·rw[Array.getElem?_setIfInBounds_ne (by omega)]
   by_cases hq:off+(k+1)≤p∧p<off+(k+1)+l.length
   ·rw[if_pos hq,if_pos (by simp only[W3];omega)]
    rw[show p-(off+k)=(p-(off+(k+1)))+1 by omega]
    simp
   ·rw[if_neg hq,if_neg (by simp only[W3];omega)]
def rq (place:Nat→Option (Nat×Nat)) (cs:List V):List (Nat×V)→Option (List V)
 |[]=>some cs
 |(i,v)::rest=>match place i with
  |none=>none
  |some (off,size)=>match ep v with
   |none=>none
   |some ns=>if ns.length=size∧off+ns.length≤cs.length then rq place (eE cs off ns) rest else none
theorem sh {σ:Gh}{s:List Obj}{w:World}{place:Nat→Option (Nat×Nat)}:∀(parts:List (Nat×V)) (ps:List (Nat×Value)) (cs:List V) (arr:Array Value) (PS:List V),sQ σ s w cs arr →
  ps.length=parts.length→(∀(j:Nat) i x,parts[j]?=some (i,x)→∃u,ps[j]?=some (i,u)∧aI σ s w x u)→rq place cs parts=some PS →
  ∃cZ,Instr.fill place arr ps=some cZ∧sQ σ s w PS cZ
 |[],[],cs,arr,PS,hr,_,_,h=>by
  simp only[rq,WX]at h
  subst h
  exact⟨arr,rfl,hr⟩
 |[],p::ps,_,_,_,_,hl,_,_=>by simp at hl
 |_::_,[],_,_,_,_,hl,_,_=>by simp at hl
 |(i,v)::parts,(i',u)::ps,cs,arr,PS,hr,hl,hp,h=>by
  obtain⟨u',hu,Kt⟩:=hp 0 i v rfl
  simp only[W9,WX,Xs]at hu
  obtain⟨rfl,rfl⟩:=hu
  simp only[rq]at h
  split at h
  ·cases h
  ·rename_i off size Lt
   split at h
   ·cases h
   ·rename_i ns yX
    split at h
    ·rename_i hc
     obtain⟨h1,h2⟩:=kt Kt yX
     have hrep:=uK off u.cells.toList 0 arr (by simp;rw[hr.1,h1];exact hc.2)
     have e:u.cells.zipIdx.foldl (fun cs (x:Value×Nat)=>cs.setIfInBounds (off+x.2) x.1) arr=(u.cells.toList.zipIdx 0).foldl (fun cs (x:Value×Nat)=>cs.setIfInBounds (off+x.2) x.1) arr:=by
      rw[← Array.foldl_toList];simp
     have Pw:sQ σ s w (eE cs off ns) ((u.cells.toList.zipIdx 0).foldl (fun cs (x:Value×Nat)=>cs.setIfInBounds (off+x.2) x.1) arr):=by
      refine⟨by rw[hrep.1,hr.1,oT _ _ _ hc.2],fun j x hx=>?_⟩
      rw[mR _ _ _ hc.2]at hx
      rw[hrep.2]
      split at hx
      ·rename_i hj
       rw[if_pos (by simp;omega)]
       obtain⟨c,k1,k2,k3⟩:=h2 _ x hx
       exact⟨c,by rw[XF];simpa using k1,k2,k3⟩
      ·rename_i hj
       rw[if_neg (by simp;omega)]
       exact hr.2 j x hx
     obtain⟨cZ,k1,k2⟩:=sh parts ps _ _ PS Pw (by simpa using hl) (fun j i x hx=>hp (j+1) i x (by simpa using hx)) h
     refine⟨cZ,?_,k2⟩
     simp only[Instr.fill,Lt]
     rw[if_neg (by simp [h1,hc.1,hr.1];omega)]
     rw[← e]at k1
     exact k1
    ·cases h
def bG (P:Program) (t:TypeId):Option (List (Nat×Nat)) :=
 match P.underlying t with
 |some (.struct fields)=>fields.toList.mapM fun f=>(P.info? f.type).map fun i=>(f.offset,i.size)
 |_=>none
def m9 (P:Program) (t:TypeId) (parts:List (Nat×V)) (K:V→Prop):Prop :=
 match cA P t with
 |none=>False
 |some i=>match bG P t with
  |some pl=>match rq (pl[·]?) (i.zero.map cv) parts with
   |some cs=>K (.ag cs)
   |none=>False
  |none=>match Me P t with
   |some (_,z)=>match rq (fun j=>some (j*z,z)) (i.zero.map cv) parts with
    |some cs=>K (.ag cs)
    |none=>False
   |none=>False
theorem ry {P:Program}{α β:Type} (f:α→Sem β) (g:α→Option β) (T2:∀a b,g a=some b→∀w,(f a).run P w=.ok b w) (w:World):∀(l:List α) (r:List β),l.mapM g=some r→(l.mapM f).run P w=.ok r w
 |[],r,h=>by
  simp at h;subst h
  simp [List.mapM_nil]
 |a::l,r,h=>by
  rw[X5]at h
  cases ha:g a with
  |none=>simp [ha]at h
  |some b =>
   cases hl:l.mapM g with
   |none=>simp [ha,hl]at h
   |some r' =>
    simp [ha,hl]at h
    subst h
    rw[X5]
    simp [T2 a b ha w,ry f g T2 w l r' hl]
theorem B7 {P:Program}{t:TypeId}{σ:Gh}{s:List Obj}{w:World}{parts:List (Nat×V)}{ps:List (Nat×Value)}{K:V→Prop}
  (hl:ps.length=parts.length) (hp:∀(j:Nat) i x,parts[j]?=some (i,x)→∃u,ps[j]?=some (i,u)∧aI σ s w x u) (h:m9 P t parts K) :
  ∃v c,(Instr.build t ps.toArray).run P w=.ok c w∧aI σ s w v c∧K v:=by
 unfold m9 at h
 split at h
 ·exact h.elim
 ·rename_i i hi
  obtain⟨z,hz,UT,_,_⟩:=uI hi σ s w
  split at h
  ·rename_i pl Lt
   unfold bG at Lt
   split at Lt
   ·rename_i fields hu
    split at h
    ·rename_i cs nI
     obtain⟨cZ,k1,k2⟩:=sh parts ps _ _ cs UT hl hp nI
     refine⟨_,_,?_,k2.ag,h⟩
     have hm:(fields.mapM (fun f=>do pure (f.offset,← sizeOf f.type):Field→Sem (Nat×Nat))).run P w=.ok pl.toArray w:=by
      have:=ry (P:=P) (fun f=>do pure (f.offset,← sizeOf f.type):Field→Sem (Nat×Nat)) (fun f=>(P.info? f.type).map fun i=>(f.offset,i.size))
       (fun f b hb w=>by
        obtain⟨ti,e1,rfl⟩:=Option.map_eq_some_iff.1 hb
        simp [sizeOf,typeInfo,e1]) w fields.toList pl Lt
      rw[← Array.toArray_toList (xs:=fields)]
      rw[List.mapM_toArray,Sem.run_map,this]
      rfl
     have Tp:(fun x:Nat=>pl.toArray[x]?)=(fun x:Nat=>pl[x]?):=by funext x;simp
     simp only[Instr.build,Sem.run_bind,hz,Result.andThen_ok,run_underlying hu,hm,Tp,k1,Sem.run_pure]
    ·exact h.elim
   ·cases Lt
  ·split at h
   ·rename_i len zz Su
    obtain⟨e,ti,h1,h2,h3⟩:=wW Su
    split at h
    ·rename_i cs nI
     obtain⟨cZ,k1,k2⟩:=sh parts ps _ _ cs UT hl hp nI
     refine⟨_,_,?_,k2.ag,h⟩
     have iB:(sizeOf e).run P w=.ok zz w:=by simp [sizeOf,typeInfo,h2,h3]
     simp only[Instr.build,Sem.run_bind,hz,Result.andThen_ok,run_underlying h1,iB,k1,Sem.run_pure]
    ·exact h.elim
   ·exact h.elim
theorem tB {σ:Gh}{s:List Obj}{w:World} (hI:Inv σ s w) {sz:Nat}{aV:List (List V)}{arr:Array Value} (E:TypeId) (hl:∀e∈aV,e.length=sz) (hs:aV.length*sz≤arr.size)
  (hc:∀(i j:Nat) (x:V),(aV[i]?.bind (·[j]?))=some x→∃u,arr[i*sz+j]?=some u∧u.oneCell'=true∧aI σ s w x u) :
  aY σ s w (mj σ s.length (some (w.heap.size,0))) (s++[⟨0,true,sz,aV⟩]) (w.alloc (.cells arr E)) ∧
  Inv (mj σ s.length (some (w.heap.size,0))) (s++[⟨0,true,sz,aV⟩]) (w.alloc (.cells arr E)):=by
 refine lz (p:=some (w.heap.size,0)) hI rfl rfl rfl (by simp) (fun b hb=>Go.RowKit.Below.heap_alloc w _ b hb) (fun b base h=>by cases h;exact W4 _)
  (fun hE=>.inr ⟨w.heap.size,0,arr,E,rfl,heap_alloc_new w _,hl,by simpa using hs,fun i j x hx=>?_⟩)
 obtain⟨u,h1,h2,h3⟩:=hc i j x hx
 exact⟨u,by simpa using h1,h2,h3.bS hE⟩
theorem Lg {σ:Gh}{s:List Obj}{w:World}{o:Obj}{b base:Nat} (hC:Fg w b):aI (mj σ s.length (some (b,base))) (s++[o]) w (.rf s.length o.g 0 0) (.pointer (some ⟨b,base,none⟩)) :=
 .rf o (by simp) (W4 _) rfl (fun _=>⟨b,base,cw _ _ _,hC,by simp⟩)
def m5 (P:Program) (t:TypeId) (s:List Obj) (K:V→List Obj→Prop):Prop :=
 match cA P t with
 |none=>False
 |some i=>K (.rf s.length 0 0 0) (s++[⟨0,true,i.sz,[i.zero.map cv]⟩])
theorem qv {cs:List V}{arr:Array Value}{σ:Gh}{s:List Obj}{w:World} (h:sQ σ s w cs arr) (sz:Nat) :
  ∀(i j:Nat) (x:V),(([cs]:List (List V))[i]?.bind (·[j]?))=some x→∃u,arr[i*sz+j]?=some u∧u.oneCell'=true∧aI σ s w x u:=by
 intro i j x hx
 cases i with
 |zero=>simp at hx;simpa using h.2 j x hx
 |succ n=>simp at hx
theorem Cl {P:Program}{t:TypeId}{σ:Gh}{s:List Obj}{w:World}{K:V→List Obj→Prop} (hI:Inv σ s w) (h:m5 P t s K) :
  ∃v c σ' s' w',(Instr.alloc t true (.tuple #[])).run P w=.ok c w'∧aY σ s w σ' s' w'∧Inv σ' s' w'∧aI σ' s' w' v c∧K v s':=by
 unfold m5 at h
 split at h
 ·exact h.elim
 ·rename_i i hi
  obtain⟨z,hz,hr,hs,hl⟩:=uI hi σ s w
  have:=tB (aV:=[i.zero.map cv]) (sz:=i.sz) (arr:=z.cells) hI t (by simp;rw[← hl];simpa using hs) (by simp [hs]) (qv hr i.sz)
  refine⟨_,.pointer (some ⟨w.heap.size,0,none⟩),_,_,w.alloc (.cells z.cells t),?_,this.1,this.2,Lg (o:=⟨0,true,i.sz,[i.zero.map cv]⟩) ⟨_,_,heap_alloc_new w _⟩,h⟩
  simp [Instr.alloc,hz,newVar,newRow]
def vz (s:List Obj) (x:V) (K:V→List Obj→Prop):Prop :=
 match ep x with
 |none=>False
 |some cs=>K (.rf s.length 0 0 0) (s++[⟨0,true,cs.length,[cs]⟩])
theorem Hw {P:Program}{t:TypeId}{σ:Gh}{s:List Obj}{w:World}{x:V}{u:Value}{K:V→List Obj→Prop} (hI:Inv σ s w) (hx:aI σ s w x u) (h:vz s x K) :
  ∃v c σ' s' w',(Instr.box t u).run P w=.ok c w'∧aY σ s w σ' s' w'∧Inv σ' s' w'∧aI σ' s' w' v c∧K v s':=by
 unfold vz at h
 split at h
 ·exact h.elim
 ·rename_i cs nI
  have hr:sQ σ s w cs u.cells:=kt hx nI
  have:=tB (aV:=[cs]) (sz:=cs.length) (arr:=u.cells) hI t (by simp) (by simp [hr.1]) (qv hr _)
  refine⟨_,.pointer (some ⟨w.heap.size,0,none⟩),_,_,w.alloc (.cells u.cells t),?_,this.1,this.2,Lg (o:=⟨0,true,cs.length,[cs]⟩) ⟨_,_,heap_alloc_new w _⟩,h⟩
  simp [Instr.box,newVar,newRow]
def Gv (σ:Gh) (s:List Obj) (w:World) (sz:Nat) (aV:List (List V)) (arr:Array Value):Prop :=
 (∀e∈aV,e.length=sz)∧arr.size=aV.length*sz ∧
 ∀(i j:Nat) (x:V),(aV[i]?.bind (·[j]?))=some x→∃c,arr[i*sz+j]?=some c∧c.oneCell'=true∧aI σ s w x c
def tM (sz:Nat) (aV:List (List V)):List (Nat×V)→Option (List (List V))
 |[]=>some aV
 |(i,v)::rest=>match ep v with
  |none=>none
  |some ns=>if i<aV.length∧ns.length=sz then tM sz (aV.set i ns) rest else none
theorem vd {σ:Gh}{s:List Obj}{w:World}{sz:Nat}:∀(parts:List (Nat×V)) (ps:List (Nat×Value)) (aV:List (List V)) (arr:Array Value) (els':List (List V)),Gv σ s w sz aV arr →
  ps.length=parts.length→(∀(j:Nat) i x,parts[j]?=some (i,x)→∃u,ps[j]?=some (i,u)∧aI σ s w x u)→tM sz aV parts=some els' →
  ∃cZ,Instr.fill (fun i=>some (i*sz,sz)) arr ps=some cZ∧Gv σ s w sz els' cZ∧els'.length=aV.length
 |[],[],aV,arr,els',hr,_,_,h=>by
  simp only[tM,WX]at h
  subst h
  exact⟨arr,rfl,hr,rfl⟩
 |[],p::ps,_,_,_,_,hl,_,_=>by simp at hl
 |_::_,[],_,_,_,_,hl,_,_=>by simp at hl
 |(i,v)::parts,(i',u)::ps,aV,arr,els',hr,hl,hp,h=>by
  obtain⟨u',hu,Kt⟩:=hp 0 i v rfl
  simp only[W9,WX,Xs]at hu
  obtain⟨rfl,rfl⟩:=hu
  simp only[tM]at h
  split at h
  ·cases h
  ·rename_i ns yX
   split at h
   ·rename_i hc
    obtain⟨Eb,Nt⟩:=hc
    obtain⟨h1,h2⟩:=kt Kt yX
    obtain⟨r1,r2,r3⟩:=hr
    have hb:=XG sz (show i'+1≤aV.length from Eb)
    rw[XO,Nat.one_mul]at hb
    have hrep:=uK (i'*sz) u.cells.toList 0 arr (by simp;rw[h1];omega)
    have e:u.cells.zipIdx.foldl (fun cs (x:Value×Nat)=>cs.setIfInBounds (i'*sz+x.2) x.1) arr=(u.cells.toList.zipIdx 0).foldl (fun cs (x:Value×Nat)=>cs.setIfInBounds (i'*sz+x.2) x.1) arr:=by
     rw[← Array.foldl_toList];simp
    have Pw:Gv σ s w sz (aV.set i' ns) ((u.cells.toList.zipIdx 0).foldl (fun cs (x:Value×Nat)=>cs.setIfInBounds (i'*sz+x.2) x.1) arr):=by
     refine⟨fun e he=>?_,by rw[hrep.1,r2,List.length_set],fun k j x hx=>?_⟩
     ·rcases List.mem_or_eq_of_mem_set he with h'|h'
      ·exact r1 e h'
      ·rw[h'];exact Nt
     ·rw[hrep.2]
      have jf:u.cells.toList.length=sz:=by simp [h1,Nt]
      by_cases hk:k=i'
      ·subst hk
       rw[XK Eb]at hx
       simp only[XH]at hx
       have hj:=(List.getElem?_eq_some_iff.1 hx).1
       rw[if_pos (by rw[jf];omega)]
       obtain⟨c,k1,k2,k3⟩:=h2 _ x hx
       refine⟨c,?_,k2,k3⟩
       rw[XF,← k1]
       congr 1
       omega
      ·rw[XZ (Ne.symm hk)]at hx
       have hj:j<sz:=by
        cases he:aV[k]? with
        |none=>rw[he]at hx;cases hx
        |some e =>
         rw[he]at hx
         have:=(List.getElem?_eq_some_iff.1 hx).1
         rw[r1 e (W6 he)]at this
         exact this
       rw[if_neg ?_]
       ·exact r3 k j x hx
       ·rw[jf]
        rcases Nat.lt_or_gt_of_ne hk with aS|aS
        ·have:=XG sz (show k+1≤i' from aS)
         rw[XO,Nat.one_mul]at this
         omega
        ·have:=XG sz (show i'+1≤k from aS)
         rw[XO,Nat.one_mul]at this
         omega
    obtain⟨cZ,k1,k2,k3⟩:=vd parts ps _ _ els' Pw (by simpa using hl) (fun j i x hx=>hp (j+1) i x (by simpa using hx)) h
    refine⟨cZ,?_,k2,by simpa using k3⟩
    simp only[Instr.fill]
    rw[if_neg (by simp [h1,Nt,r2];omega)]
    rw[← e]at k1
    exact k1
   ·cases h
def IG:V→Option D
 |.d x=>some x
 |.fu aV=>some (.sl aV)
 |_=>none
theorem lC {σ:Gh}{s:List Obj}{w:World}{x:V}{u:Value}{y:D} (hr:aI σ s w x u) (h:IG x=some y):dj (Own σ s) w y u:=by
 cases hr <;> simp only[IG,WX]at h <;> first|(cases h;done)|(subst h;assumption)
def nD (aV:List (List V)):Option (List (List D)):=aV.mapM fun e=>e.mapM IG
theorem iv {α β:Type}{f:α→Option β}:∀{l:List α}{r:List β},l.mapM f=some r→r.length=l.length∧∀(i:Nat) (y:β),r[i]?=some y→∃x,l[i]?=some x∧f x=some y
 |[],r,h=>by simp at h;subst h;simp
 |a::l,r,h=>by
  rw[X5]at h
  cases ha:f a with
  |none=>simp [ha]at h
  |some b =>
   cases hl:l.mapM f with
   |none=>simp [ha,hl]at h
   |some r' =>
    simp [ha,hl]at h
    subst h
    obtain⟨h1,h2⟩:=iv hl
    refine⟨by simp [h1],fun i y hy=>?_⟩
    cases i with
    |zero=>simp at hy;subst hy;exact⟨a,rfl,ha⟩
    |succ i=>simpa using h2 i y (by simpa using hy)
theorem Im {aV:List (List V)}{ds:List (List D)} (h:nD aV=some ds):ds.length=aV.length ∧
  (∀(i:Nat) (e:List D),ds[i]?=some e→∃e',aV[i]?=some e'∧e.length=e'.length) ∧
  ∀(i j:Nat) (y:D),(ds[i]?.bind (·[j]?))=some y→∃x,(aV[i]?.bind (·[j]?))=some x∧IG x=some y:=by
 obtain⟨h1,h2⟩:=iv h
 refine⟨h1,fun i e he=>?_,fun i j y hy=>?_⟩
 ·obtain⟨e',k1,k2⟩:=h2 i e he
  exact⟨e',k1,(iv k2).1⟩
 ·cases he:ds[i]? with
  |none=>rw[he]at hy;cases hy
  |some e =>
   rw[he]at hy
   obtain⟨e',k1,k2⟩:=h2 i e he
   obtain⟨x,k3,k4⟩:=(iv k2).2 j y hy
   exact⟨x,by rw[k1];exact k3,k4⟩
theorem dj.EP {O:Nat→Prop}{w:World}{aV:List (List D)}{b base cap sz:Nat} (fC:aV.length≤cap) (iB:∀e∈aV,e.length=sz) (hO:¬O b)
  (h:∀(i j:Nat) (x:D),(aV[i]?.bind (·[j]?))=some x→∃u,w.cell? ⟨b,base+i*sz+j,none⟩=some u∧dj O w x u):dj O w (.sl aV) (.slice (some ⟨b,base,none⟩) aV.length cap):=by
 refine .sl aV ⟨b,base,none⟩ cap sz (fun i j=>(w.cell? ⟨b,base+i*sz+j,none⟩).getD undef) fC (fun _=>rfl) iB (fun i j x hx=>?_) (fun i j x hx=>?_)
 ·obtain⟨u,h1,h2⟩:=h i j x hx
  simp only[h1,Option.getD_some]
  exact⟨trivial,hO⟩
 ·obtain⟨u,h1,h2⟩:=h i j x hx
  simpa only[h1,Option.getD_some]using h2
theorem ud {σ:Gh}{s:List Obj}{w:World} (hI:Inv σ s w) {b:Nat} (h:Own σ s b):b<w.heap.size:=by
 rcases h with h|⟨id,o,base,h1,_,h3⟩
 ·exact hI.low b h
 ·exact hI.lt h1 h3
def kN (P:Program) (t:TypeId):Option (TypeId×Lw) :=
 match P.underlying t with
 |some (.slice e)=>(cA P e).map fun i=>(e,i)
 |_=>none
theorem nA {P:Program}{t e:TypeId}{i:Lw} (h:kN P t=some (e,i)):P.underlying t=some (.slice e)∧cA P e=some i:=by
 unfold kN at h
 split at h
 ·rename_i e' hu
  obtain⟨i',h1,h2⟩:=Option.map_eq_some_iff.1 h
  simp only[Xs]at h2
  obtain⟨rfl,rfl⟩:=h2
  exact⟨hu,h1⟩
 ·cases h
def eT (P:Program) (t:TypeId) (len:Nat) (parts:List (Nat×V)) (s:List Obj) (K:V→List Obj→Prop):Prop :=
 match kN P t with
 |none=>False
 |some (_,i)=>(len*i.sz≤16777216∧0<i.sz)∧match tM i.sz (List.replicate len (i.zero.map cv)) parts with
  |none=>False
  |some aV=>match nD aV with
   |some ds=>K (.fu ds) s
   |none=>K (.so s.length 0 0 len) (s++[⟨0,true,i.sz,aV⟩])
theorem A5 {P:Program}{t:TypeId}{i:Lw} (ht:cA P t=some i) (σ:Gh) (s:List Obj) (w:World) (n:Nat) (z:Value) (hz:z.cells.toList=i.zero) :
  Gv σ s w i.sz (List.replicate n (i.zero.map cv)) ((Array.range (n*i.sz)).map (z.cells[· % z.cells.size]!)):=by
 obtain⟨ti,d,z',k1,k2,k3,k4,k5,k6,k7,k8,k9⟩:=ir ht
 have Vl:z.cells.size=i.sz:=by rw[← Array.length_toList,hz,k7]
 refine⟨fun e he=>by rw[List.eq_of_mem_replicate he];simp [k7],by simp,fun a j x hx=>?_⟩
 have ha:a<n:=by
  cases he:(List.replicate n (i.zero.map cv))[a]? with
  |none=>rw[he]at hx;cases hx
  |some e=>simpa using (List.getElem?_eq_some_iff.1 he).1
 simp only[List.getElem?_replicate,ha,if_true,XH,Xd]at hx
 obtain⟨v,hv,rfl⟩:=Option.map_eq_some_iff.1 hx
 have hj:j<i.sz:=by rw[← k7];exact(List.getElem?_eq_some_iff.1 hv).1
 have hb:=XG i.sz (show a+1≤n from ha)
 rw[XO,Nat.one_mul]at hb
 refine⟨v,?_,k8 v (W6 hv),BL v⟩
 have Tz:(a*i.sz+j) % z.cells.size=j:=by rw[Vl,Nat.mul_add_mod_self_right,Nat.mod_eq_of_lt hj]
 have pP:z.cells[j]! = v:=by
  rw[getElem!_def,← XF,hz,hv]
 simp [show a*i.sz+j<n*i.sz by omega,Tz,pP]
theorem u4 {P:Program}{t:TypeId}{len:Nat}{σ:Gh}{s:List Obj}{w:World}{parts:List (Nat×V)}{ps:List (Nat×Value)}{K:V→List Obj→Prop} (hI:Inv σ s w)
  (hl:ps.length=parts.length) (hp:∀(j:Nat) i x,parts[j]?=some (i,x)→∃u,ps[j]?=some (i,u)∧aI σ s w x u) (h:eT P t len parts s K) :
  ∃v c σ' s' w',(Instr.buildSlice t len ps.toArray).run P w=.ok c w'∧aY σ s w σ' s' w'∧Inv σ' s' w'∧aI σ' s' w' v c∧K v s':=by
 unfold eT at h
 split at h
 ·exact h.elim
 rename_i e i Ml
 obtain⟨hu,hi⟩:=nA Ml
 obtain⟨⟨hb,dC⟩,h⟩:=h
 split at h
 ·exact h.elim
 rename_i aV rk
 obtain⟨ti,d,z,k1,k2,k3,k4,k5,k6,k7,k8,k9⟩:=ir hi
 have hz:∀w,(zeroValue e).run P w=.ok z w:=fun w=>by simp [zeroValue,typeInfo,k1,k3]
 have iB:∀w,(sizeOf e).run P w=.ok i.sz w:=fun w=>by simp [sizeOf,typeInfo,k1,k4]
 obtain⟨cZ,f1,f2,f3⟩:=vd parts ps _ _ aV (A5 hi σ s w len z k6) hl hp rk
 have hlen:aV.length=len:=by simpa using f3
 have c8:(Instr.buildSlice t len ps.toArray).run P w=.ok (.slice (some ⟨w.heap.size,0,none⟩) len len) (w.alloc (.cells cZ e)):=by
  have Lq:¬(len*i.sz>2 ^ 24):=by omega
  by_cases h0:len=0
  ·subst h0
   have vG:∀g:Nat→Value,(Array.range 0).map g=#[]:=fun g=>by apply Array.ext' ;simp
   rw[Nat.zero_mul,vG]at f1
   simp only[Instr.buildSlice,Sem.run_bind,run_underlying hu,iB,Result.andThen_ok,Nat.zero_mul,vG,f1]
   simp [newRow]
  ·have V3:¬(len*i.sz=0):=by
    have:=Nat.mul_pos (Nat.pos_of_ne_zero h0) dC;omega
   simp only[Instr.buildSlice,Sem.run_bind,run_underlying hu,iB,Result.andThen_ok,if_neg Lq,if_neg V3,hz,f1,Sem.run_pure]
   simp [newRow]
 obtain⟨r1,r2,r3⟩:=f2
 split at h
 ·rename_i ds Ss
  obtain⟨d1,d2,d3⟩:=Im Ss
  obtain⟨hE,jN⟩:=zF hI (.cells cZ e)
  refine⟨_,_,σ,s,_,c8,hE,jN,?_,h⟩
  have hd:dj (Own σ s) (w.alloc (.cells cZ e)) (.sl ds) (.slice (some ⟨w.heap.size,0,none⟩) ds.length ds.length):=by
   refine dj.EP (sz:=i.sz) (W4 _) (fun x hx=>?_) (fun ho=>by have:=ud hI ho;omega) (fun a j y hy=>?_)
   ·obtain⟨a,ha⟩:=List.mem_iff_getElem?.1 hx
    obtain⟨e',g1,g2⟩:=d2 a x ha
    rw[g2];exact r1 e' (W6 g1)
   ·obtain⟨x,g1,g2⟩:=d3 a j y hy
    obtain⟨c,c1,c2,c3⟩:=r3 a j x g1
    exact⟨c,by simpa using c1,(lC c3 g2).bS hE⟩
  rw[show len=ds.length by omega]
  exact .fu hd
 ·have:=tB (aV:=aV) (sz:=i.sz) (arr:=cZ) hI e r1 (by omega) r3
  refine⟨_,_,_,_,_,c8,this.1,this.2,?_,h⟩
  refine .so ⟨0,true,i.sz,aV⟩ (by simp) (W4 _) rfl (fun _=>.inr ⟨w.heap.size,0,len,e,cZ,cw _ _ _,heap_alloc_new w _,by simp,W4 _,by simp [r2,hlen]⟩)
def fw (P:Program) (t:TypeId) (l c:V) (s:List Obj) (K:V→List Obj→Prop):Prop :=
 match kN P t with
 |none=>False
 |some (_,i)=>match l,c with
  |.d (.sc (.int _ n)),.d (.sc (.int _ m))=>(0≤n∧n≤m∧i.F2*m≤140737488355328∧m≤9223372036854775807∧0<i.sz) ∧
    K (.so s.length 0 0 n.toNat) (s++[⟨0,true,i.sz,List.replicate n.toNat (i.zero.map cv)⟩])
  |_,_=>False
theorem vH {P:Program}{t:TypeId}{l c:V}{ul uc:Value}{σ:Gh}{s:List Obj}{w:World}{K:V→List Obj→Prop} (hI:Inv σ s w) (hl:aI σ s w l ul) (hc:aI σ s w c uc)
  (h:fw P t l c s K):∃v r σ' s' w',(Instr.makeSlice t ul uc).run P w=.ok r w'∧aY σ s w σ' s' w'∧Inv σ' s' w'∧aI σ' s' w' v r∧K v s':=by
 unfold fw at h
 split at h
 ·exact h.elim
 rename_i e i Ml
 obtain⟨hu,hi⟩:=nA Ml
 split at h
 case h_2=>exact h.elim
 rename_i kl n kc m
 obtain⟨⟨h1,h2,h3,h4,h5⟩,h⟩:=h
 cases hl with|d hl=>?_
 cases hl with|sc _ _=>?_
 cases hc with|d hc=>?_
 cases hc with|sc _ _=>?_
 obtain⟨ti,d,z,k1,k2,k3,k4,k5,k6,k7,k8,k9⟩:=ir hi
 have hz:∀w,(zeroValue e).run P w=.ok z w:=fun w=>by simp [zeroValue,typeInfo,k1,k3]
 have iB:∀w,(sizeOf e).run P w=.ok i.sz w:=fun w=>by simp [sizeOf,typeInfo,k1,k4]
 obtain⟨N,rfl⟩:=XU h1
 obtain⟨M,rfl⟩:=XU (show 0≤m by omega)
 have w1:IntKind.i64.wrap (N:Int)=N:=IntWalk.i64_in _ (by omega)
 have w2:IntKind.i64.wrap (M:Int)=M:=IntWalk.i64_in _ (by omega)
 have We:¬((i.F2:Int)*(M:Int)>2 ^ 48):=by omega
 obtain⟨r1,r2,r3⟩:=A5 hi σ s w M z k6
 have c8:(Instr.makeSlice t (.int kl N) (.int kc M)).run P w=.ok (.slice (some ⟨w.heap.size,0,none⟩) N M) (w.alloc (.cells ((Array.range (M*i.sz)).map (z.cells[· % z.cells.size]!)) e)):=by
  have vG:∀g:Nat→Value,(Array.range 0).map g=#[]:=fun g=>by apply Array.ext' ;simp
  have c1:¬((M:Int)<0):=by omega
  have c2:¬((N:Int)<0):=by omega
  have c3:¬((N:Int)>M):=by omega
  by_cases h0:M*i.sz=0
  ·simp only[Instr.makeSlice,run_underlying hu,asInt,asIntOf,typeInfo,k1,k5,w1,w2,Sem.run_bind,Result.andThen_ok,run_program,Sem.run_pure,Xp,h0,vG]
   simp [c1,c2,c3,iB,newRow,h0,vG]
   intro hx;exfalso;omega
  ·simp only[Instr.makeSlice,run_underlying hu,asInt,asIntOf,typeInfo,k1,k5,w1,w2,Sem.run_bind,Result.andThen_ok,run_program,Sem.run_pure,Xp]
   simp [c1,c2,c3,iB,newRow,h0,hz]
   intro hx;exfalso;omega
 have:=tB (aV:=List.replicate N (i.zero.map cv)) (sz:=i.sz) (arr:=(Array.range (M*i.sz)).map (z.cells[· % z.cells.size]!)) hI e (fun x hx=>by rw[List.eq_of_mem_replicate hx];simp [k7])
  (by simp;exact XG _ (by omega)) (fun a j x hx=>by
   refine r3 a j x ?_
   rw[List.getElem?_replicate]at hx ⊢
   split at hx
   ·rw[if_pos (by omega)];exact hx
   ·cases hx)
 refine⟨_,_,_,_,_,c8,this.1,this.2,?_,h⟩
 refine .so ⟨0,true,i.sz,List.replicate N (i.zero.map cv)⟩ (by simp) (W4 _) rfl (fun _=>.inr ⟨w.heap.size,0,M,e,(Array.range (M*i.sz)).map (z.cells[· % z.cells.size]!),cw _ _ _,heap_alloc_new w _,by simp,by omega,by simp⟩)
def DY:V→Option Int
 |.d (.sc (.int _ n))=>some n
 |_=>none
theorem zK {σ:Gh}{s:List Obj}{w:World}{x:V}{u:Value}{n:Int} (hr:aI σ s w x u) (h:DY x=some n):∃k,u=.int k n:=by
 unfold DY at h
 split at h
 ·simp only[WX]at h
  subst h
  cases hr with|d hr=>?_
  cases hr with|sc _ _=>exact⟨_,rfl⟩
 ·cases h
def iS (s:List Obj):V→Option (List (List V))
 |.d (.sl aV)=>some (aV.map (·.map .d))
 |.fu aV=>some (aV.map (·.map .d))
 |.so id g lo n=>match s[id]? with
  |some o=>if o.g=g∧lo+n≤o.aV.length then some ((o.aV.drop lo).take n) else none
  |none=>none
 |_=>none
theorem Kl {aV:List (List D)}{i j:Nat}{x:V} (h:((aV.map (·.map V.d))[i]?.bind (·[j]?))=some x):∃y,x=.d y∧(aV[i]?.bind (·[j]?))=some y:=by
 rw[Xd]at h
 cases he:aV[i]? with
 |none=>rw[he]at h;cases h
 |some e =>
  rw[he]at h
  simp only[XE,XH,Xd]at h
  obtain⟨y,hy,rfl⟩:=Option.map_eq_some_iff.1 h
  exact⟨y,rfl,hy⟩
theorem nH {σ:Gh}{s:List Obj}{w:World} (hI:Inv σ s w) {x:V}{u:Value}{es:List (List V)} (hr:aI σ s w x u) (h:iS s x=some es) {z:Nat} (hz:∀e∈es,e.length=z) :
  ∃a cap,u=.slice a es.length cap∧(a=none→es=[])∧es.length≤cap∧∃news:List Value,news.length=es.length*z∧(∀c∈news,c.oneCell'=true) ∧
   (∀ad,a=some ad→∀(j:Nat) (c:Value),news[j]?=some c→w.cell? (ad.add j)=some c) ∧
   ∀(i j:Nat) (y:V),(es[i]?.bind (·[j]?))=some y→∃c,news[i*z+j]?=some c∧c.oneCell'=true∧aI σ s w y c:=by
 -- from cells Tg WM there
 have key:∀(a:Option Addr) (cap:Nat),(a=none→es=[])→es.length≤cap→(es≠[]→∃ad,a=some ad∧ad.spot=none∧∀(i j:Nat) (y:V),(es[i]?.bind (·[j]?))=some y →
    ∃c,w.cell? ⟨ad.block,ad.off+i*z+j,none⟩=some c∧c.oneCell'=true∧aI σ s w y c) →
   ∃a' ri,Value.slice a es.length cap=.slice a' es.length ri∧(a'=none→es=[])∧es.length≤ri∧∃news:List Value,news.length=es.length*z∧(∀c∈news,c.oneCell'=true) ∧
    (∀ad,a'=some ad→∀(j:Nat) (c:Value),news[j]?=some c→w.cell? (ad.add j)=some c) ∧
    ∀(i j:Nat) (y:V),(es[i]?.bind (·[j]?))=some y→∃c,news[i*z+j]?=some c∧c.oneCell'=true∧aI σ s w y c:=by
  intro a cap h1 h2 h3
  refine⟨a,cap,rfl,h1,h2,?_⟩
  by_cases gr:es=[]
  ·subst gr
   exact⟨[],by simp,by simp,by simp,by simp⟩
  ·obtain⟨ad,rfl,dr,hc⟩:=h3 gr
   have hdiv:∀p,p<es.length*z→0<z∧p / z<es.length∧p / z*z+p % z=p∧p % z<z:=by
    intro p hp
    have SV:0<z:=by
     rcases Nat.eq_zero_or_pos z with h'|h'
     ·subst h';simp at hp
     ·exact h'
    refine⟨SV,?_,by rw[Nat.mul_comm];exact Nat.div_add_mod p z,Nat.mod_lt _ SV⟩
    rw[Nat.div_lt_iff_lt_mul SV];exact hp
   have PC:∀p,p<es.length*z→∃y,(es[p / z]?.bind (·[p % z]?))=some y:=by
    intro p hp
    obtain⟨g1,g2,g3,g4⟩:=hdiv p hp
    have Ot:(es[p / z]'g2).length=z:=hz _ (List.getElem_mem g2)
    exact⟨(es[p / z]'g2)[p % z]'(by omega),by simp [g2,Ot,g4]⟩
   have vi:∀p,p<es.length*z→∃c,w.cell? ⟨ad.block,ad.off+p,none⟩=some c∧c.oneCell'=true:=by
    intro p hp
    obtain⟨y,hy⟩:=PC p hp
    obtain⟨c,k1,k2,_⟩:=hc _ _ y hy
    exact⟨c,by rw[← k1,XX,(hdiv p hp).2.2.1],k2⟩
   refine⟨(List.range (es.length*z)).map fun p=>(w.cell? ⟨ad.block,ad.off+p,none⟩).getD undef,by simp,?_,?_,?_⟩
   ·intro c Tj
    obtain⟨p,hp,rfl⟩:=List.mem_map.1 Tj
    obtain⟨c,k1,k2⟩:=vi p (by simpa using hp)
    rw[k1];exact k2
   ·intro Wz VY j c hj
    cases VY
    rw[Xd]at hj
    obtain⟨p,hp,rfl⟩:=Option.map_eq_some_iff.1 hj
    have aS:j<es.length*z:=by simpa using (List.getElem?_eq_some_iff.1 hp).1
    obtain rfl:p=j:=by
     have:=(List.getElem?_eq_some_iff.1 hp).2
     simpa using this.symm
    obtain⟨c,k1,_⟩:=vi p aS
    rw[fo dr,k1];rfl
   ·intro i j y hy
    obtain⟨c,k1,k2,k3⟩:=hc i j y hy
    refine⟨c,?_,k2,k3⟩
    have PO:i*z+j<es.length*z:=by
     cases he:es[i]? with
     |none=>rw[he]at hy;cases hy
     |some e =>
      rw[he]at hy
      have hj:=(List.getElem?_eq_some_iff.1 hy).1
      rw[hz e (W6 he)]at hj
      have:=XG z (show i+1≤es.length from (List.getElem?_eq_some_iff.1 he).1)
      rw[XO,Nat.one_mul]at this
      omega
    rw[Xd,List.getElem?_range PO]
    simp only[XE]
    rw[← XX,k1]
    rfl
 have Aa:∀(aV:List (List D)) (a:Option Addr) (n cap:Nat),dj (Own σ s) w (.sl aV) (.slice a n cap)→es=aV.map (·.map .d)→n=es.length∧(a=none→es=[])∧es.length≤cap ∧
   (es≠[]→∃ad,a=some ad∧ad.spot=none∧∀(i j:Nat) (y:V),(es[i]?.bind (·[j]?))=some y →
    ∃c,w.cell? ⟨ad.block,ad.off+i*z+j,none⟩=some c∧c.oneCell'=true∧aI σ s w y c):=by
  intro aV a n cap hd he
  subst he
  cases hd with
  |nil=>simp
  |sl _ ad _ sz f h1 h2 h3 h4 h5 =>
   refine⟨by simp,by simp,by simpa using h1,fun gr=>⟨ad,rfl,h2 (by intro h';subst h';simp at gr),fun i j y hy=>?_⟩⟩
   obtain⟨y',rfl,Pv⟩:=Kl hy
   have iB:sz=z:=by
    cases xn:aV[i]? with
    |none=>rw[xn]at Pv;cases Pv
    |some e =>
     have:=h3 e (W6 xn)
     have Nz:=hz (e.map .d) (List.mem_map.2 ⟨e,W6 xn,rfl⟩)
     simp at Nz
     omega
   subst iB
   exact⟨f i j,(h4 i j y' Pv).1,(h5 i j y' Pv).one,.d (h5 i j y' Pv)⟩
 unfold iS at h
 split at h
 ·simp only[WX]at h
  cases hr with|d hr=>?_
  have hu:∃a n cap,u=.slice a n cap:=by cases hr <;> exact⟨_,_,_,rfl⟩
  obtain⟨a,n,cap,rfl⟩:=hu
  obtain⟨rfl,e2,e3,e4⟩:=Aa _ a n cap hr h.symm
  exact key a cap e2 e3 e4
 ·simp only[WX]at h
  cases hr with|fu hr=>?_
  obtain⟨e1,e2,e3,e4⟩:=Aa _ _ _ _ hr h.symm
  rw[e1]
  exact key _ _ e2 (by omega) e4
 ·rename_i id g lo n
  split at h
  case h_2=>cases h
  rename_i o ho
  split at h
  case isFalse=>cases h
  rename_i hc
  simp only[WX]at h
  subst h
  have hlen:((o.aV.drop lo).take n).length=n:=by simp;omega
  cases hr with|so o' nN hg hu hk=>?_
  rw[ho]at nN;cases nN
  rcases hk hc.1 with ⟨_,⟨a,rfl⟩,rfl,rfl⟩|⟨b,base,cap,E,arr,g1,g2,rfl,g4,g5⟩
  ·have:=key a 0 (by simp) (by simp) (by simp)
   simp only[List.take_zero]at this ⊢
   exact this
  ·have:=key (some ⟨b,base+lo*o.sz,none⟩) cap (by simp) (by omega) (fun gr=>⟨_,rfl,rfl,fun i j y hy=>?_⟩)
   ·rw[hlen]at this ⊢;exact this
   ·have hi:i<n∧(o.aV[lo+i]?.bind (·[j]?))=some y:=by
     rw[Xr]at hy
     split at hy
     ·rw[XL]at hy;exact⟨by assumption,hy⟩
     ·cases hy
    rcases hI.content _ o ho with h1|⟨b',cg,cZ,E',h1,h2,h3,h4,h5⟩
    ·exact(h1.EA g1 ⟨arr,E,g2⟩).elim
    ·rw[g1]at h1;cases h1
     rw[g2]at h2;cases h2
     have iB:o.sz=z:=by
      cases xn:o.aV[lo+i]? with
      |none=>rw[xn]at hi;cases hi.2
      |some e =>
       have e1:=h3 e (W6 xn)
       have e2:=hz e (W6 (i:=i) (by rw[Xr,if_pos hi.1,XL];exact xn))
       omega
     subst iB
     obtain⟨c,k1,k2,k3⟩:=h5 (lo+i) j y hi.2
     refine⟨c,?_,k2,k3⟩
     simp only[World.cell?,g2]
     rw[XO]at k1
     simpa [XX]using k1
 ·cases h
def dG (P:Program) (t:TypeId) (a x:V) (s:List Obj) (K:V→List Obj→Prop):Prop :=
 match kN P t with
 |none=>False
 |some (_,i)=>match iS s x with
  |none=>False
  |some ns=>((∀e∈ns,e.length=i.sz)∧0<i.sz∧0<i.F2)∧match a with
   |.fu aV=>match aV,x with
    |_::_,.d (.sl ds)=>((aV.length+ds.length)*i.F2≤140737488355328∧∀e∈aV,e.length=i.sz)∧K (.d (.sl (aV++ds))) s
    |_,_=>((aV=[]∨0<ns.length)∧(aV.length+ns.length)*i.F2≤140737488355328∧∀e∈aV,e.length=i.sz) ∧
      K (.so s.length 0 0 (aV.length+ns.length)) (s++[⟨0,true,i.sz,aV.map (·.map .d)++ns⟩])
   |.so id g lo n=>qZ s id g fun o=>(o.live=true∧o.sz=i.sz∧lo+n≤o.aV.length∧(n+ns.length)*i.F2≤140737488355328) ∧
     K (.so id (g+1) 0 (n+ns.length)) (s.set id ⟨g+1,true,i.sz,(o.aV.drop lo).take n++ns⟩)
   |_=>False
theorem vF {σ:Gh}{s:List Obj}{w:World}{z:Nat}{es ns:List (List V)}{oJ news:List Value} (ho:oJ.length=es.length*z)
  (h1:∀(i j:Nat) (y:V),(es[i]?.bind (·[j]?))=some y→∃c,oJ[i*z+j]?=some c∧c.oneCell'=true∧aI σ s w y c)
  (h2:∀(i j:Nat) (y:V),(ns[i]?.bind (·[j]?))=some y→∃c,news[i*z+j]?=some c∧c.oneCell'=true∧aI σ s w y c) :
  ∀(i j:Nat) (y:V),((es++ns)[i]?.bind (·[j]?))=some y→∃c,(oJ++news)[i*z+j]?=some c∧c.oneCell'=true∧aI σ s w y c:=by
 intro i j y hy
 by_cases hi:i<es.length
 ·rw[Xg hi]at hy
  obtain⟨c,k1,k2,k3⟩:=h1 i j y hy
  refine⟨c,?_,k2,k3⟩
  rw[Xg (by
   have:=(List.getElem?_eq_some_iff.1 k1).1
   exact this)]
  exact k1
 ·rw[Xm (by omega)]at hy
  obtain⟨c,k1,k2,k3⟩:=h2 _ j y hy
  refine⟨c,?_,k2,k3⟩
  have hmul:i*z=es.length*z+(i-es.length)*z:=by
   rw[← XO];congr 1;omega
  rw[Xm (by rw[ho,hmul];omega),← k1]
  congr 1
  rw[ho,hmul]
  omega
theorem G6 {l:List Value}{arr:Array Value}{p:Nat}{c:Value} (h:l[p]?=some c):(l.toArray++arr)[p]?=some c:=by
 have aS:=(List.getElem?_eq_some_iff.1 h).1
 rw[Array.getElem?_append_left (by simpa using aS)]
 simpa using h
theorem kG {P:Program}{t ty e:TypeId}{ti:TypeInfo} (hu:P.underlying t=some (.slice e)) (hi:P.info? e=some ti) {w:World}{ux:Value} (hs:Src P ti.size t ux 0 [] w)
  (base:Option Addr) (n cap:Nat) (h:n≤cap):(Builtin.append_ #[t,t] ty #[.slice base n cap,ux]).run P w=.ok (.slice base n cap) w:=by
 cases base <;> simp [Builtin.append_,run_underlying hu,sizeOf,typeInfo,hi,hs.len,h,hs.cells,storeCells]
theorem BD {P:Program}{t ty:TypeId}{a x:V}{ua ux:Value}{σ:Gh}{s:List Obj}{w:World}{K:V→List Obj→Prop} (hI:Inv σ s w) (ha:aI σ s w a ua) (hx:aI σ s w x ux)
  (h:dG P t a x s K):∃v r σ' s' w',(Builtin.append_ #[t,t] ty #[ua,ux]).run P w=.ok r w'∧aY σ s w σ' s' w'∧Inv σ' s' w'∧aI σ' s' w' v r∧K v s':=by
 unfold dG at h
 split at h
 ·exact h.elim
 rename_i e i Ml
 obtain⟨hu,hi⟩:=nA Ml
 split at h
 ·exact h.elim
 rename_i ns yX
 obtain⟨⟨hz,dC,Wo⟩,h⟩:=h
 obtain⟨ti,d,z,k1,k2,k3,k4,k5,k6,k7,k8,k9⟩:=ir hi
 obtain⟨ax,D3,rfl,Kn,Tu,news,n1,n2,n3,n4⟩:=nH hI hx yX hz
 have Th:z.cells.size=i.sz:=by rw[← Array.length_toList,k6,k7]
 have vN:Src P ti.size t (.slice ax ns.length D3) ns.length news w:=by
  rw[k4]
  cases ax with
  |none =>
   have:ns=[]:=Kn rfl
   subst this
   have hn:news=[]:=Xb (by simpa using n1)
   subst hn
   exact Src.ofNil w hu D3
  |some ad=>exact Src.ofSlice w hu ad ns.length D3 news n1 (n3 ad rfl) n2
 -- it Qu
 have grow:∀(es:List (List V)) (base:Option Addr) (cap:Nat) (oJ:List Value),oJ.length=es.length*i.sz→(base=none→es=[])→(∀e∈es,e.length=i.sz) →
   (∀ad,base=some ad→∀(j:Nat) (c:Value),oJ[j]?=some c→w.cell? (ad.add j)=some c) →
   (∀(i' j:Nat) (y:V),(es[i']?.bind (·[j]?))=some y→∃c,oJ[i'*i.sz+j]?=some c∧c.oneCell'=true∧aI σ s w y c) →
   cap<es.length+ns.length→(es.length+ns.length)*i.F2≤140737488355328 →
   ∃(arr:Array Value) (ri:Nat),(Builtin.append_ #[t,t] ty #[.slice base es.length cap,.slice ax ns.length D3]).run P w=.ok (.slice (some ⟨w.heap.size,0,none⟩) (es.length+ns.length) ri) (w.drew.alloc (.cells arr e)) ∧
    es.length+ns.length≤ri∧arr.size=ri*i.sz ∧
    ∀(i' j:Nat) (y:V),((es++ns)[i']?.bind (·[j]?))=some y→∃c,arr[i'*i.sz+j]?=some c∧c.oneCell'=true∧aI σ s w y c:=by
  intro es base cap oJ o1 o2 o3 o4 o5 fC Sg
  have hold:(Builtin.firstCells ti.size es.length (.slice base es.length cap)).run P w.drew=.ok oJ.toArray w.drew:=by
   rw[k4]
   cases base with
   |none =>
    have:es=[]:=o2 rfl
    subst this
    have hn:oJ=[]:=Xb (by simpa using o1)
    subst hn
    exact run_firstCells_none w.drew i.sz 0 0 cap
   |some ad=>exact run_firstCells_some w.drew i.sz es.length ad es.length cap oJ o1 (by simpa using o4 ad rfl)
  have hle:es.length+ns.length≤(es.length+ns.length)*i.F2:=Nat.le_mul_of_pos_right _ Wo
  have c8:=run_append_grow_src (P:=P) w t t ty e ti z hu k1 k3 base es.length cap oJ hold (.slice ax ns.length D3) ns.length news vN fC (by omega) (growslice_fits fC (by rw[k5];exact Sg))
  have lW:=grownCap_ge w (es.length+ns.length) cap e
  refine⟨_,_,c8,lW,?_,?_⟩
  ·simp only[Array.size_append,List.size_toArray,size_zeroCells,W5,o1,n1,Th]
   rw[← XO,← XO]
   congr 1
   omega
  ·intro i' j y hy
   obtain⟨c,c1,c2,c3⟩:=vF o1 o5 n4 i' j y hy
   exact⟨c,G6 c1,c2,c3⟩
 have Ji:∀(es:List (List V)),(∀e∈es,e.length=i.sz)→∀e∈es++ns,e.length=i.sz:=by
  intro es Ec e he
  rcases List.mem_append.1 he with h'|h'
  ·exact Ec e h'
  ·exact hz e h'
 obtain⟨RL,SW⟩:=sE hI
 split at h
 ·
  rename_i aV
  have rk:iS s (.fu aV)=some (aV.map (·.map .d)):=rfl
  have QP:(∀e∈aV,e.length=i.sz)→∀e∈aV.map (·.map V.d),e.length=i.sz:=by
   intro hh e he
   obtain⟨e',lH,rfl⟩:=List.mem_map.1 he
   simpa using hh e' lH
  split at h
  ·
   rename_i d0 sG ds
   obtain⟨⟨hb,hl⟩,h⟩:=h
   have HJ:ns=ds.map (·.map .d):=by simpa [iS]using yX.symm
   obtain⟨base,cap,IP,a1,a2,oJ,o1,o2,o3,o4⟩:=nH hI ha rk (QP hl)
   have El:cap=(d0::sG).length:=by
    cases ha with|fu ha=>?_
    simp only[Value.slice.injEq]at IP
    omega
   subst IP
   have rb:((d0::sG).map (·.map V.d)).length=(d0::sG).length:=by simp
   by_cases hm:ns.length=0
   ·have Ss:ds=[]:=by
     rw[HJ]at hm
     simpa using hm
    subst Ss
    have nj:ns=[]:=by simpa using HJ
    subst nj
    have lq:news=[]:=Xb (by simpa using n1)
    subst lq
    cases base with
    |none=>simp at a1
    |some ad =>
     refine⟨_,.slice (some ad) ((d0::sG).map (·.map V.d)).length cap,σ,s,w,kG hu k1 vN _ _ _ (by simp [El]),aY.refl _ _ _,hI,?_,h⟩
     ·rw[Xk]
      exact .d (lC ha rfl)
   ·obtain⟨arr,ri,g1,g2,g3,g4⟩:=grow ((d0::sG).map (·.map .d)) base cap oJ o1 a1 (QP hl) o3 o4 (by rw[rb];omega) (by rw[rb,HJ];simpa using hb)
    obtain⟨hE,jN⟩:=zF SW (.cells arr e)
    refine⟨_,_,σ,s,_,g1,RL.trans hE,jN,?_,h⟩
    have hlen:((d0::sG).map (·.map V.d)).length+ns.length=((d0::sG)++ds).length:=by rw[HJ];simp;omega
    rw[hlen]
    refine .d (dj.EP (sz:=i.sz) (by rw[← hlen];exact g2) (fun x hx=>?_) (fun ho=>by have:=ud SW ho;simp at this) (fun a j y hy=>?_))
    ·rcases List.mem_append.1 hx with h'|h'
     ·exact hl x h'
     ·have:=hz (x.map .d) (by rw[HJ];exact List.mem_map.2 ⟨x,h',rfl⟩)
      simpa using this
    ·have Pv:(((d0::sG).map (·.map V.d)++ns)[a]?.bind (·[j]?))=some (.d y):=by
      rw[HJ,← XC,Xd]
      cases UA:((d0::sG)++ds)[a]? with
      |none=>rw[UA]at hy;cases hy
      |some ea =>
       rw[UA]at hy
       simp only[XE,XH,Xd]
       rw[show ea[j]?=some y from hy]
       rfl
     obtain⟨c,c1,c2,c3⟩:=g4 a j _ Pv
     refine⟨c,by
      show (w.drew.alloc (.cells arr e)).cell? ⟨w.drew.heap.size,0+a*i.sz+j,none⟩=some c
      rw[World.cell?_alloc_new];simpa using c1,?_⟩
     have:=(c3.bS RL).bS hE
     cases this with|d h'=>exact h'
  ·
   obtain⟨⟨gr,hb,hl⟩,h⟩:=h
   obtain⟨base,cap,IP,a1,a2,oJ,o1,o2,o3,o4⟩:=nH hI ha rk (QP hl)
   have El:cap=aV.length:=by
    cases ha with|fu ha=>?_
    simp only[Value.slice.injEq]at IP
    omega
   subst IP
   have rb:(aV.map (·.map V.d)).length=aV.length:=by simp
   by_cases hm:ns.length=0
   ·have QV:aV=[]:=gr.resolve_right (by omega)
    subst QV
    have nj:ns=[]:=Xb hm
    subst nj
    have lq:news=[]:=Xb (by simpa using n1)
    subst lq
    have:=lz (p:=none) (o':=⟨0,true,i.sz,[]⟩) (w':=w) hI rfl rfl rfl (W4 _) (fun _ _=>rfl) (fun _ _ h'=>by cases h') (fun _=>.inl (.inl ⟨rfl,rfl⟩))
    refine⟨_,.slice base 0 cap,_,_,w,kG hu k1 vN _ _ _ (Nat.zero_le _),this.1,this.2,?_,h⟩
    ·subst El
     exact .so ⟨0,true,i.sz,[]⟩ (by simp) (W4 _) rfl (fun _=>.inl ⟨cw _ _ _,⟨base,rfl⟩,rfl,rfl⟩)
   ·obtain⟨arr,ri,g1,g2,g3,g4⟩:=grow (aV.map (·.map .d)) base cap oJ o1 a1 (QP hl) o3 o4 (by rw[rb];omega) (by rw[rb];exact hb)
    have:=tB (aV:=aV.map (·.map .d)++ns) (sz:=i.sz) (arr:=arr) SW e (Ji _ (QP hl)) (by rw[g3];exact XG _ (by simpa using g2))
     (fun i' j y hy=>let ⟨c,c1,c2,c3⟩:=g4 i' j y hy;⟨c,c1,c2,c3.bS RL⟩)
    refine⟨_,_,_,_,_,g1,RL.trans this.1,this.2,?_,h⟩
    rw[rb]
    refine .so ⟨0,true,i.sz,aV.map (·.map .d)++ns⟩ (by simp) (W4 _) rfl (fun _=>.inr ⟨w.heap.size,0,ri,e,arr,cw _ _ _,heap_alloc_new w.drew _,by simp,by rw[rb]at g2;exact g2,by simp [g3]⟩)
 ·
  rename_i id g lo n
  obtain⟨o,ho,hg,⟨s9,OH,hlo,hb⟩,h⟩:=eD h
  have rk:iS s (.so id g lo n)=some ((o.aV.drop lo).take n):=by simp [iS,ho,hg,hlo]
  have rb:((o.aV.drop lo).take n).length=n:=by simp;omega
  have RB:∀e∈(o.aV.drop lo).take n,e.length=i.sz:=by
   intro e he
   have lH:e∈o.aV:=List.mem_of_mem_drop (List.mem_of_mem_take he)
   rcases hI.content _ o ho with h0|⟨b,base,arr,E,h1,h2,h3,h4,h5⟩
   ·cases ha with|so o' nN Dd QY hk=>?_
    rw[ho]at nN;cases nN
    rcases hk hg with ⟨ij,_⟩|⟨b,bs,cp,E,arr,gy,hh,_⟩
    ·rw[h0.MB ij]at lH;cases lH
    ·exact(h0.EA gy ⟨arr,E,hh⟩).elim
   ·rw[← OH];exact h3 e lH
  obtain⟨base,cap,IP,a1,a2,oJ,o1,o2,o3,o4⟩:=nH hI ha rk RB
  rw[rb]at IP a2
  cases ha with|so o' nN Dd QY hk=>?_
  rw[ho]at nN;cases nN
  have sr:=hk hg
  by_cases fC:cap<n+ns.length
  ·
   obtain⟨arr,ri,g1,g2,g3,g4⟩:=grow _ base cap oJ o1 a1 RB o3 o4 (by rw[rb];exact fC) (by rw[rb];exact hb)
   rw[rb]at g1 g2
   subst IP
   have:=mZ (p:=some (w.heap.size,0)) (o':=⟨g+1,true,i.sz,(o.aV.drop lo).take n++ns⟩) (w':=w.drew.alloc (.cells arr e)) hI ho s9 rfl rfl rfl (by simp)
    (fun b Lq _=>Go.RowKit.Below.heap_alloc w.drew _ b Lq)
    (fun b cg cZ E' he hh=>⟨cZ,by rw[Go.RowKit.Below.heap_alloc w.drew _ b (by exact fv hh)];exact hh,rfl⟩)
    (fun b cg he hm=>let ⟨es,c,hh⟩:=hm;⟨es,c,by rw[Go.RowKit.Below.heap_alloc w.drew _ b (by exact fv hh)];exact hh⟩)
    (by simp only;omega) (fun h'=>by simp only at h';omega) (fun b cg he=>by cases he;exact .inr (W4 _))
    (fun hE=>.inr ⟨w.heap.size,0,arr,e,rfl,heap_alloc_new w.drew _,Ji _ RB,by simp only[W5,rb,g3];rw[Xi];exact XG _ g2,fun i' j y hy=>by
     obtain⟨c,c1,c2,c3⟩:=g4 i' j y hy
     exact⟨c,by simpa using c1,c2,c3.bS hE⟩⟩)
   refine⟨_,_,_,_,_,g1,this.1,this.2,?_,h⟩
   exact .so ⟨g+1,true,i.sz,(o.aV.drop lo).take n++ns⟩ (by simp [(List.getElem?_eq_some_iff.1 ho).1]) (W4 _) rfl (fun _=>.inr ⟨w.heap.size,0,ri,e,arr,cw _ _ _,heap_alloc_new w.drew _,by simp,g2,by simp [g3]⟩)
  ·
   have fe:n+ns.length≤cap:=by omega
   rcases sr with ⟨ij,⟨aa,EW⟩,rfl,rfl⟩|⟨b,bs,cp,E,arr,gy,hh,EW,sw,hfit⟩
   ·
    rw[IP]at EW
    simp only[Value.slice.injEq]at EW
    obtain⟨rfl,_,rfl⟩:=EW
    have nj:ns=[]:=Xb (by omega)
    subst nj
    have lq:news=[]:=Xb (by simpa using n1)
    subst lq
    subst IP
    have:=mZ (p:=none) (o':=⟨g+1,true,i.sz,(o.aV.drop 0).take 0++[]⟩) (w':=w) hI ho s9 rfl rfl rfl (W4 _) (fun _ _ _=>rfl)
     (fun _ _ cZ _ _ hh=>⟨cZ,hh,rfl⟩) (fun _ _ _ hm=>hm) (by simp only;omega) (fun h'=>by simp only at h';omega) (fun _ _ he=>by cases he) (fun _=>.inl (.inl ⟨rfl,by simp⟩))
    refine⟨_,.slice base 0 0,_,_,w,kG hu k1 vN _ _ _ (W4 _),this.1,this.2,?_,h⟩
    ·exact .so ⟨g+1,true,i.sz,(o.aV.drop 0).take 0++[]⟩ (by simp [(List.getElem?_eq_some_iff.1 ho).1]) (W4 _) rfl (fun _=>.inl ⟨cw _ _ _,⟨base,rfl⟩,rfl,rfl⟩)
   ·rw[IP]at EW
    simp only[Value.slice.injEq]at EW
    obtain⟨rfl,_,rfl⟩:=EW
    subst IP
    have hq:bs+lo*o.sz+n*i.sz+news.length≤arr.size:=by
     rw[n1,← OH]
     have e1:(lo+cap)*o.sz=lo*o.sz+cap*o.sz:=XO _ _ _
     have e2:=XG o.sz fe
     rw[XO]at e2
     omega
    have aW:=run_storeCells_at P b (bs+lo*o.sz+n*i.sz) E news 0 arr w hh (by omega) n2
    simp only[Nat.add_zero]at aW
    generalize tF:(arr.toList.take (bs+lo*o.sz+n*i.sz)++news++arr.toList.drop (bs+lo*o.sz+n*i.sz+news.length)).toArray=cZ at aW
    have jf:cZ.size=arr.size:=by rw[← tF];simp;omega
    have aS:∀p,p<bs+lo*o.sz+n*i.sz→cZ[p]?=arr[p]?:=by
     intro p hp
     rw[← tF,List.getElem?_toArray,Xx,Xg (by simp;omega),Xr,if_pos hp,XF]
    have yQ:∀q,q<news.length→cZ[bs+lo*o.sz+n*i.sz+q]?=news[q]?:=by
     intro q EM
     have hl:(arr.toList.take (bs+lo*o.sz+n*i.sz)).length=bs+lo*o.sz+n*i.sz:=by simp;omega
     rw[← tF,List.getElem?_toArray,Xx,Xm (by omega),hl,Xg (by omega)]
     congr 1
     omega
    have:=mZ (p:=some (b,bs+lo*o.sz)) (o':=⟨g+1,true,i.sz,(o.aV.drop lo).take n++ns⟩) (w':=w.setRow b cZ) hI ho s9 rfl rfl rfl (by simp)
     (fun b1 _ gr=>setRow_other w b b1 cZ (fun e=>gr bs (by rw[gy,e])))
     (fun b1 jD Rc E1 he Ux=>by
      rw[gy]at he;cases he
      rw[hh]at Ux;cases Ux
      exact⟨cZ,setRow_heap w b arr cZ E (0,0) hh,jf⟩)
     (fun b1 jD he hm=>by
      rw[gy]at he;cases he
      exact(Fg.notM ⟨arr,E,hh⟩ hm).elim)
     (by simp only;omega) (fun h'=>by simp only at h';omega) (fun b1 jD he=>by cases he;exact .inl ⟨bs,gy⟩)
     (fun hE=>.inr ⟨b,bs+lo*o.sz,cZ,E,rfl,setRow_heap w b arr cZ E (0,0) hh,Ji _ RB,(by
      simp only[W5,rb,XO]
      rw[jf]
      omega),fun i' j y hy=>by
      obtain⟨c,c1,c2,c3⟩:=vF (z:=i.sz) o1 o4 n4 i' j y hy
      refine⟨c,?_,c2,c3.bS hE⟩
      simp only
      by_cases PO:i'*i.sz+j<oJ.length
      ·rw[Xg PO]at c1
       rw[aS _ (by rw[o1,rb]at PO;omega)]
       have hc:=o3 ⟨b,bs+lo*o.sz,none⟩ rfl _ c c1
       rw[fo rfl]at hc
       simp only[World.cell?,hh]at hc
       simpa [XX]using hc
      ·rw[Xm (by omega)]at c1
       have cG:=(List.getElem?_eq_some_iff.1 c1).1
       have:=yQ _ cG
       rw[c1]at this
       rw[← this]
       congr 1
       rw[o1,rb]at *
       omega⟩)
    refine⟨_,.slice (some ⟨b,bs+lo*o.sz,none⟩) (n+ns.length) cap,_,_,w.setRow b cZ,?_,this.1,this.2,?_,h⟩
    ·have oO:=vN.cells
     rw[k4]at oO
     simp [Builtin.append_,run_underlying hu,sizeOf,typeInfo,k1,Builtin.lenOf,fe,oO,k4,Addr.add_lit,aW]
    ·exact .so ⟨g+1,true,i.sz,(o.aV.drop lo).take n++ns⟩ (by simp [(List.getElem?_eq_some_iff.1 ho).1]) (W4 _) rfl
      (fun _=>.inr ⟨b,bs+lo*o.sz,cap,E,cZ,cw _ _ _,setRow_heap w b arr cZ E (0,0) hh,by simp,fe,by rw[jf];simp only[Xi];rw[← OH,XO]at *;omega⟩)
 ·exact h.elim
def vI (x:Option V) (LK:Int):Option Int :=
 match x with
 |none=>some LK
 |some v=>DY v
def lP (cs:List D) (z l n:Nat):List (List D):=(List.range n).map fun i=>(cs.drop ((l+i)*z)).take z
def jM (P:Program) (t:TypeId) (x:V) (lo hi mx:Option V) (K:V→Prop):Prop :=
 match Me P t with
 |none=>False
 |some (len,z)=>match x,vI lo 0,vI hi len,mx with
  |.d (.el cs),some l,some h,none=>((0≤l∧l≤h∧h≤len)∧cs.length=len*z)∧K (.d (.sl (lP cs z l.toNat (h-l).toNat)))
  |_,_,_,_=>False
def jh (P:Program) (t:TypeId) (x:V) (lo hi mx:Option V) (s:List Obj) (K:V→Prop):Prop :=
 match BT P t with
 |none=>jM P t x lo hi mx K
 |some z=>match iS s x with
  |none=>False
  |some es=>match vI lo 0,vI hi es.length with
   |some l,some h=>(0≤l∧l≤h∧h≤es.length)∧match x,mx with
    |.d (.sl aV),none=>(l=0∨∀e∈aV,e.length=z)∧K (.d (.sl ((aV.drop l.toNat).take (h-l).toNat)))
    |.fu aV,none=>(l=0∨∀e∈aV,e.length=z)∧K (.d (.sl ((aV.drop l.toNat).take (h-l).toNat)))
    |.d (.sl aV),some m=>hi.isSome=true∧DY m=some h∧(l=0∨∀e∈aV,e.length=z)∧K (.fu ((aV.drop l.toNat).take (h-l).toNat))
    |.so id g O2 _,none=>qZ s id g fun o=>o.sz=z∧if l=0∨l<h then K (.so id g (O2+l.toNat) (h-l).toNat) else K (.d (.sl []))
    |_,_=>False
   |_,_=>False
theorem dj.sub {O:Nat→Prop}{w:World}{aV:List (List D)}{a:Option Addr}{n cap l h m z:Nat} (hr:dj O w (.sl aV) (.slice a n cap)) (hl:l≤h) (hh:h≤aV.length) (hm:h≤m) (nq:m≤cap)
  (hz:l=0∨∀e∈aV,e.length=z):dj O w (.sl ((aV.drop l).take (h-l))) (.slice (if m=l then a else a.map (·.add (l*z))) (h-l) (m-l)):=by
 have hlen:((aV.drop l).take (h-l)).length=h-l:=by simp;omega
 cases hr with
 |nil =>
  simp only[Xa]at hh
  obtain rfl:h=0:=by omega
  obtain rfl:l=0:=by omega
  obtain rfl:m=0:=by omega
  exact .nil
 |sl _ ad _ sz f h1 h2 h3 h4 h5 =>
  by_cases T6:m=l
  ·rw[if_pos T6]
   have e0:(aV.drop l).take (h-l)=[]:=Xb (by rw[hlen];omega)
   have:=dj.sl (O:=O) (w:=w) [] ad (m-l) sz f (by simp) (by simp) (by simp) (by simp) (by simp)
   rw[e0,show h-l=0 by omega]
   exact this
  ·rw[if_neg T6]
   simp only[XE]
   have pP:∀(i:Nat) (e:List D),((aV.drop l).take (h-l))[i]?=some e→aV[l+i]?=some e:=by
    intro i e he
    rw[Xr]at he
    split at he
    ·rw[XL]at he;exact he
    ·cases he
   have S5:∀e∈(aV.drop l).take (h-l),e.length=sz:=fun e he=>h3 e (List.mem_of_mem_drop (List.mem_of_mem_take he))
   have hmul:∀(i j:Nat) (x:D),(((aV.drop l).take (h-l))[i]?.bind (·[j]?))=some x→(aV[l+i]?.bind (·[j]?))=some x∧ad.add (l*z)=⟨ad.block,ad.off+l*sz,none⟩:=by
    intro i j x hx
    cases he:((aV.drop l).take (h-l))[i]? with
    |none=>rw[he]at hx;cases hx
    |some e =>
     rw[he]at hx
     have lH:=pP i e he
     refine⟨by rw[lH];exact hx,?_⟩
     have gr:aV≠[]:=by intro h';subst h';simp at lH
     rw[fo (h2 gr)]
     rcases hz with rfl|hz
     ·simp
     ·have:=hz e (W6 lH)
      have:=h3 e (W6 lH)
      rw[show z=sz by omega]
   have:=dj.sl (O:=O) (w:=w) ((aV.drop l).take (h-l)) (ad.add (l*z)) (m-l) sz (fun i j=>f (l+i) j) (by rw[hlen];omega)
    (fun gr=>by
     have TS:aV≠[]:=by intro h';subst h';simp at gr
     rw[fo (h2 TS)]) S5
    (fun i j x hx=>by
     obtain⟨g1,g2⟩:=hmul i j x hx
     have:=h4 (l+i) j x g1
     rw[g2]
     simpa [XO,XX]using this)
    (fun i j x hx=>h5 (l+i) j x (hmul i j x hx).1)
   rw[hlen]at this
   exact this
theorem tG {σ:Gh}{s:List Obj}{w:World}{x:Option V}{u:Option Value}{LK n:Int} (hr:∀v,x=some v→∃c,u=some c∧aI σ s w v c) (hn:x=none→u=none) (h:vI x LK=some n) :
  (u=none∧n=LK)∨∃k,u=some (.int k n):=by
 cases x with
 |none=>simp only[vI,WX]at h;exact .inl ⟨hn rfl,h.symm⟩
 |some v =>
  obtain⟨c,rfl,hc⟩:=hr v rfl
  obtain⟨k,rfl⟩:=zK hc h
  exact .inr ⟨k,rfl⟩
theorem uW {P:Program}{t e:TypeId}{ti:TypeInfo} (hu:P.underlying t=some (.slice e)) (hi:P.info? e=some ti) {a:Option Addr}{n cap:Nat}{lo hi' mx:Option Value}{l h m:Nat}
  (hlo:(lo=none∧l=0)∨∃k,lo=some (.int k l)) (Wd:(hi'=none∧h=n)∨∃k,hi'=some (.int k h)) (Tm:(mx=none∧m=cap)∨(hi'≠none∧∃k,mx=some (.int k m)))
  (hlh:l≤h) (Wq:h≤m) (Vg:m≤cap) (w:World) :
  (Instr.sliceAt t (.slice a n cap) lo hi' mx).run P w=.ok (.slice (if m=l then a else a.map (·.add (l*ti.size))) (h-l) (m-l)) w:=by
 have b:∀(k:IntKind) (i y:Nat) (c:BoundsCode),i≤y→(Instr.sliceBound (.int k i) y c).run P w=.ok i w:=by
  intro k i y c hh
  simp [Instr.sliceBound,asIntOf,hh]
 rcases hlo with ⟨rfl,rfl⟩|⟨kl,rfl⟩ <;> rcases Wd with ⟨rfl,rfl⟩|⟨kh,rfl⟩ <;> rcases Tm with ⟨rfl,rfl⟩|⟨gr,km,rfl⟩ <;>
  first
   |(exact absurd rfl gr)
   |simp [Instr.sliceAt,Instr.slice,run_underlying hu,Instr.sliceBounds,b,hlh,Wq,Vg,sizeOf,typeInfo,hi]
theorem dj.chunk {O:Nat→Prop}{w:World}{cs:List D}{a:Addr}{len z l n:Nat} (hr:dj O w (.el cs) (.pointer (some a))) (hlen:cs.length=len*z) (hn:l+n≤len) :
  dj O w (.sl (lP cs z l n)) (.slice (some (if len=l then a else a.add (l*z))) n (len-l)):=by
 cases hr with
 |el _ _ f h1 h2 h3 =>
  have hl:(lP cs z l n).length=n:=by simp [lP]
  by_cases nj:n=0
  ·subst nj
   exact dj.sl [] _ (len-l) 0 (fun _ _=>undef) (by simp) (by simp) (by simp) (by simp) (by simp)
  ·rw[if_neg (by omega),fo h1]
   have pP:∀(i j:Nat) (x:D),((lP cs z l n)[i]?.bind (·[j]?))=some x→cs[(l+i)*z+j]?=some x:=by
    intro i j x hx
    unfold lP at hx
    rw[Xd]at hx
    cases hi:(List.range n)[i]? with
    |none=>rw[hi]at hx;cases hx
    |some k =>
     have hk:k=i:=by
      have:=List.getElem?_eq_some_iff.1 hi
      obtain⟨h1,h2⟩:=this
      simpa using h2.symm
     subst hk
     rw[hi]at hx
     simp only[XE,XH]at hx
     rw[Xr]at hx
     split at hx
     ·rwa [XL]at hx
     ·cases hx
   have:=dj.sl (O:=O) (w:=w) (lP cs z l n) ⟨a.block,a.off+l*z,none⟩ (len-l) z (fun i j=>f ((l+i)*z+j)) (by omega) (fun _=>rfl)
    (fun e he=>by
     unfold lP at he
     obtain⟨i,hi,rfl⟩:=List.mem_map.1 he
     have hi:=List.mem_range.1 hi
     have:=XG z (show l+i+1≤len by omega)
     rw[XO,Nat.one_mul]at this
     rw[Xu,List.length_drop]
     omega)
    (fun i j x hx=>by
     have:=h2 _ x (pP i j x hx)
     have e:a.off+((l+i)*z+j)=a.off+l*z+i*z+j:=by rw[XO];omega
     rw[e]at this
     exact this)
    (fun i j x hx=>h3 _ x (pP i j x hx))
   rw[hl]at this
   exact this
theorem zt {P:Program}{t:TypeId}{x:V}{ux:Value}{lo hi mx:Option V}{ul uh um:Option Value}{σ:Gh}{s:List Obj}{w:World}{K:V→Prop} (hx:aI σ s w x ux)
  (hl:∀v,lo=some v→∃c,ul=some c∧aI σ s w v c) (PE:lo=none→ul=none) (hh:∀v,hi=some v→∃c,uh=some c∧aI σ s w v c) (RH:hi=none→uh=none)
  (hmn:mx=none→um=none) (h:jM P t x lo hi mx K) :
  ∃v c,(Instr.sliceAt t ux ul uh um).run P w=.ok c w∧aI σ s w v c∧K v:=by
 unfold jM at h
 split at h
 ·exact h.elim
 rename_i len z hz
 obtain⟨e,ti,e1,e2,e3⟩:=wW hz
 split at h
 case h_2=>exact h.elim
 rename_i cs l h' eh S3
 obtain⟨⟨⟨b1,b2,b3⟩,hlen⟩,hK⟩:=h
 obtain⟨L,rfl⟩:=XU b1
 obtain⟨H,rfl⟩:=XU (show 0≤h' by omega)
 have Bf:=tG hl PE eh
 have PI:=tG hh RH S3
 have rF:=hmn rfl
 subst rF
 cases hx with|d hx=>?_
 have Qr:=hx
 cases hx with|el _ a f h1 h2 h3=>?_
 have hr:=dj.chunk (l:=L) (n:=H-L) Qr hlen (by omega)
 rw[← e3]at hr
 refine⟨_,_,?_,.d hr,by rw[show ((H:Int)-L).toNat=H-L by omega,Xp,← e3]at hK;exact hK⟩
 have b:∀(k:IntKind) (i y:Nat) (c:BoundsCode),i≤y→(Instr.sliceBound (.int k i) y c).run P w=.ok i w:=by
  intro k i y c hh
  simp [Instr.sliceBound,asIntOf,hh]
 have hL:L≤H:=by omega
 have hH:H≤len:=by omega
 rcases Bf with ⟨rfl,Bf⟩|⟨kl,rfl⟩ <;> rcases PI with ⟨rfl,PI⟩|⟨kh,rfl⟩
 ·obtain rfl:L=0:=by omega
  obtain rfl:H=len:=by omega
  simp [Instr.sliceAt,run_underlying e1,Instr.sureAddr,Instr.sliceBounds,sizeOf,typeInfo,e2]
 ·obtain rfl:L=0:=by omega
  simp [Instr.sliceAt,run_underlying e1,Instr.sureAddr,Instr.sliceBounds,b,hH,sizeOf,typeInfo,e2]
 ·obtain rfl:H=len:=by omega
  simp [Instr.sliceAt,run_underlying e1,Instr.sureAddr,Instr.sliceBounds,b,hL,sizeOf,typeInfo,e2]
 ·simp [Instr.sliceAt,run_underlying e1,Instr.sureAddr,Instr.sliceBounds,b,hL,hH,sizeOf,typeInfo,e2]
theorem Dz {P:Program}{t:TypeId}{x:V}{ux:Value}{lo hi mx:Option V}{ul uh um:Option Value}{σ:Gh}{s:List Obj}{w:World}{K:V→Prop} (hx:aI σ s w x ux)
  (hl:∀v,lo=some v→∃c,ul=some c∧aI σ s w v c) (PE:lo=none→ul=none) (hh:∀v,hi=some v→∃c,uh=some c∧aI σ s w v c) (RH:hi=none→uh=none)
  (hm:∀v,mx=some v→∃c,um=some c∧aI σ s w v c) (hmn:mx=none→um=none) (h:jh P t x lo hi mx s K) :
  ∃v c,(Instr.sliceAt t ux ul uh um).run P w=.ok c w∧aI σ s w v c∧K v:=by
 unfold jh at h
 split at h
 ·exact zt hx hl PE hh RH hmn h
 rename_i z hz
 obtain⟨e,ti,e1,e2,e3⟩:=CD hz
 split at h
 ·exact h.elim
 rename_i es Ec
 split at h
 case h_2=>exact h.elim
 rename_i l h' eh S3
 obtain⟨⟨b1,b2,b3⟩,h⟩:=h
 obtain⟨L,rfl⟩:=XU b1
 obtain⟨H,rfl⟩:=XU (show 0≤h' by omega)
 have Bf:=tG hl PE eh
 have PI:=tG hh RH S3
 have Oe:(ul=none∧L=0)∨∃k,ul=some (.int k (L:Int)):=Bf.imp (fun h=>⟨h.1,by omega⟩) id
 have e4:((H:Int)-L).toNat=H-L:=by omega
 simp only[Xp,e4]at h
 have data:∀(aV:List (List D)),dj (Own σ s) w (.sl aV) ux→es.length=aV.length→(L=0∨∀e∈aV,e.length=z)→∀(M:Nat),H≤M→(∀a n cap,ux=.slice a n cap→M≤cap∧((um=none∧M=cap)∨(uh≠none∧∃k,um=some (.int k (M:Int))))) →
   ∃c a cap,ux=.slice a aV.length cap∧(Instr.sliceAt t ux ul uh um).run P w=.ok c w∧dj (Own σ s) w (.sl ((aV.drop L).take (H-L))) c∧c=.slice (if M=L then a else a.map (·.add (L*z))) (H-L) (M-L):=by
  intro aV hd hlen Su M hM xQ
  have hu:∃a n cap,ux=.slice a n cap:=by cases hd <;> exact⟨_,_,_,rfl⟩
  obtain⟨a,n,cap,rfl⟩:=hu
  have hn:n=aV.length∧aV.length≤cap:=by cases hd <;> simp_all
  obtain⟨rfl,fC⟩:=hn
  obtain⟨c1,c2⟩:=xQ a _ cap rfl
  have c8:=uW (P:=P) e1 e2 (a:=a) (n:=aV.length) (cap:=cap) (lo:=ul) (hi':=uh) (mx:=um) (l:=L) (h:=H) (m:=M) Oe (PI.imp (fun h=>⟨h.1,by omega⟩) id) c2 (by omega) hM c1 w
  rw[e3]at c8
  exact⟨_,a,cap,rfl,c8,dj.sub hd (by omega) (by omega) hM c1 Su,rfl⟩
 split at h
 ·
  rename_i aV
  have hd:dj (Own σ s) w (.sl aV) ux:=lC hx rfl
  have hlen:es.length=aV.length:=by simp only[iS,WX]at Ec;rw[← Ec];simp
  have hu:∃a n cap,ux=.slice a n cap:=by cases hd <;> exact⟨_,_,_,rfl⟩
  obtain⟨a,n,cap,rfl⟩:=hu
  have hn:n=aV.length∧aV.length≤cap:=by cases hd <;> simp_all
  obtain⟨c,_,_,_,r1,r2,_⟩:=data aV hd hlen (h.1.imp (by omega) id) cap (by omega) (fun a' n' ri he=>by cases he;exact⟨W4 _,.inl ⟨hmn rfl,rfl⟩⟩)
  exact⟨_,c,r1,.d r2,h.2⟩
 ·rename_i aV
  have hd:dj (Own σ s) w (.sl aV) ux:=lC hx rfl
  have hlen:es.length=aV.length:=by simp only[iS,WX]at Ec;rw[← Ec];simp
  have hu:∃a n cap,ux=.slice a n cap:=by cases hd <;> exact⟨_,_,_,rfl⟩
  obtain⟨a,n,cap,rfl⟩:=hu
  have hn:n=aV.length∧aV.length≤cap:=by cases hd <;> simp_all
  obtain⟨c,_,_,_,r1,r2,_⟩:=data aV hd hlen (h.1.imp (by omega) id) cap (by omega) (fun a' n' ri he=>by cases he;exact⟨W4 _,.inl ⟨hmn rfl,rfl⟩⟩)
  exact⟨_,c,r1,.d r2,h.2⟩
 ·rename_i aV m
  obtain⟨h1,h2,h3,h⟩:=h
  have hd:dj (Own σ s) w (.sl aV) ux:=lC hx rfl
  have hlen:es.length=aV.length:=by simp only[iS,WX]at Ec;rw[← Ec];simp
  obtain⟨cm,Vb,Mv⟩:=hm m rfl
  obtain⟨km,rfl⟩:=zK Mv h2
  have Ti:uh≠none:=by
   cases hi with
   |none=>simp at h1
   |some v=>obtain⟨c,rfl,_⟩:=hh v rfl;simp
  have hu:∃a n cap,ux=.slice a n cap:=by cases hd <;> exact⟨_,_,_,rfl⟩
  obtain⟨a,n,cap,rfl⟩:=hu
  have hn:n=aV.length∧aV.length≤cap:=by cases hd <;> simp_all
  obtain⟨c,a',ri,_,r1,r2,r3⟩:=data aV hd hlen (h3.imp (by omega) id) H (W4 _) (fun a' n' ri he=>by cases he;exact⟨by omega,.inr ⟨Ti,km,Vb⟩⟩)
  refine⟨_,c,r1,?_,h⟩
  have y7:((aV.drop L).take (H-L)).length=H-L:=by simp;omega
  rw[r3]at r2 ⊢
  have:aI σ s w (.fu ((aV.drop L).take (H-L))) (.slice (if H=L then a' else a'.map (·.add (L*z))) ((aV.drop L).take (H-L)).length ((aV.drop L).take (H-L)).length):=.fu (by rw[y7];exact r2)
  rw[y7]at this
  exact this
 ·rename_i Wx g O2 n
  obtain⟨o,ho,hg,Qc,hK⟩:=eD h
  clear h
  cases hx with|so o' nN Dd QY hk=>?_
  rw[ho]at nN;cases nN
  have hn:es.length=n:=by
   simp only[iS,ho,hg]at Ec
   split at Ec
   ·simp only[WX]at Ec;rw[← Ec];simp;omega
   ·cases Ec
  rcases hk hg with ⟨ij,⟨aa,rfl⟩,rfl,rfl⟩|⟨b,bs,cp,E,arr,gy,Ud,rfl,sw,hfit⟩
  ·obtain rfl:L=0:=by omega
   obtain rfl:H=0:=by omega
   have c8:=uW (P:=P) e1 e2 (a:=aa) (n:=0) (cap:=0) (lo:=ul) (hi':=uh) (mx:=um) (l:=0) (h:=0) (m:=0) Oe (PI.imp (fun h=>⟨h.1,rfl⟩) id) (.inl ⟨hmn rfl,rfl⟩) (by omega) (by omega) (by omega) w
   rw[if_pos (.inl rfl)]at hK
   refine⟨_,_,c8,?_,hK⟩
   exact .so o ho Dd (by simp [Value.oneCell']) (fun _=>.inl ⟨ij,⟨aa,by simp⟩,rfl,rfl⟩)
  ·have c8:=uW (P:=P) e1 e2 (a:=some ⟨b,bs+O2*o.sz,none⟩) (n:=n) (cap:=cp) (lo:=ul) (hi':=uh) (mx:=um) (l:=L) (h:=H) (m:=cp) Oe (PI.imp (fun h=>⟨h.1,by omega⟩) id) (.inl ⟨hmn rfl,rfl⟩) (by omega) (by omega) (by omega) w
   by_cases aS:(L:Int)=0∨(L:Int)<(H:Int)
   case neg =>
    rw[if_neg aS]at hK
    obtain rfl:H=L:=by omega
    refine⟨_,_,c8,.d ?_,hK⟩
    have J8:∃a',(if cp=H then some (⟨b,bs+O2*o.sz,none⟩:Addr) else (some (⟨b,bs+O2*o.sz,none⟩:Addr)).map (·.add (H*ti.size)))=some a':=by split <;> exact⟨_,rfl⟩
    obtain⟨a',QO⟩:=J8
    rw[QO,X3]
    exact dj.sl [] a' _ 0 (fun _ _=>undef) (by simp) (by simp) (by simp) (by simp) (by simp)
   rw[if_pos aS]at hK
   refine⟨_,_,c8,?_,hK⟩
   refine .so o ho Dd (by simp [Value.oneCell']) (fun _=>.inr ⟨b,bs,cp-L,E,arr,gy,Ud,?_,by omega,?_⟩)
   ·rcases aS with h0|h0
    ·obtain rfl:L=0:=by omega
     simp [Addr.add]
    ·rw[if_neg (by omega)]
     simp only[XE]
     rw[fo rfl,e3,Qc,XO]
     simp [XX]
   ·rw[show O2+L+(cp-L)=O2+cp by omega];exact hfit
 ·exact h.elim
def js (P:Program) (t:TypeId) (x:V) (s:List Obj) (K:V→Prop):Prop :=
 match P.underlying t with
 |some (.slice _)=>match x with
  |.d (.sl aV)=>K (.d (.sc (.int .i64 aV.length)))
  |.fu aV=>K (.d (.sc (.int .i64 aV.length)))
  |.so id g _ n=>qZ s id g fun _=>K (.d (.sc (.int .i64 n)))
  |_=>False
 |some .string=>match x with
  |.d (.sc (.string b))=>K (.d (.sc (.int .i64 b.size)))
  |_=>False
 |_=>False
theorem HW {P:Program}{t ty:TypeId}{x:V}{ux:Value}{σ:Gh}{s:List Obj}{w:World}{K:V→Prop} (hx:aI σ s w x ux) (h:js P t x s K) :
  ∃v c,(Builtin.len_ #[t] ty #[ux]).run P w=.ok c w∧aI σ s w v c∧K v:=by
 unfold js at h
 split at h
 ·rename_i e hu
  have fin:∀(a:Option Addr) (n cap:Nat),ux=.slice a n cap→K (.d (.sc (.int .i64 n)))→∃v c,(Builtin.len_ #[t] ty #[ux]).run P w=.ok c w∧aI σ s w v c∧K v:=by
   rintro a n cap rfl hk
   exact⟨_,.int .i64 n,by simp [Builtin.len_,run_underlying hu,goInt],.d (.sc _ rfl),hk⟩
  split at h
  ·have hd:=lC hx rfl
   cases hd <;> exact fin _ _ _ rfl h
  ·have hd:=lC hx rfl
   cases hd <;> exact fin _ _ _ rfl h
  ·obtain⟨o,ho,hg,h⟩:=eD h
   cases hx with|so o' nN Dd QY hk=>?_
   rw[ho]at nN;cases nN
   rcases hk hg with ⟨ij,⟨aa,rfl⟩,rfl,rfl⟩|⟨b,bs,cp,E,arr,gy,Ud,rfl,sw,hfit⟩
   ·exact fin _ _ _ rfl h
   ·exact fin _ _ _ rfl h
  ·exact h.elim
 ·rename_i hu
  split at h
  ·cases hx with|d hx=>?_
   cases hx with|sc _ _=>?_
   exact⟨_,_,by simp [Builtin.len_,run_underlying hu,goInt],.d (.sc _ rfl),h⟩
  ·exact h.elim
 ·exact h.elim
open Go.ChangeMaps (setBlock)
def DM (k:IntKind):List (List V)→Option (List (Int×Bool))
 |[]=>some []
 |[.d (.sc (.int k' n)),.d (.sc (.bool b))]::rest=>if k'=k then (DM k rest).map ((n,b)::·) else none
 |_::_=>none
theorem Jh {k:IntKind}{a v:Value}{rest:List (List V)}{l:List (Int×Bool)} (h:DM k ([V.d (.sc a),V.d (.sc v)]::rest)=some l):∃n b l',a=.int k n∧v=.bool b∧l=(n,b)::l'∧DM k rest=some l':=by
 unfold DM at h
 split at h
 ·rename_i he;cases he
 ·rename_i k' n b Rq he
  simp only[X4,V.d.injEq,D.sc.injEq,and_true]at he
  obtain⟨⟨rfl,rfl⟩,rfl⟩:=he
  split at h
  ·rename_i hk
   subst hk
   obtain⟨l',h1,h2⟩:=Option.map_eq_some_iff.1 h
   exact⟨n,b,l',rfl,rfl,h2.symm,h1⟩
  ·cases h
 ·cases h
def BN (l:List (Int×Bool)) (n:Int):Option Bool:=(l.find? fun p=>n == p.1).map (·.2)
def AE (P:Program) (t:TypeId):Option IntKind :=
 match P.underlying t with
 |some (.map key elem)=>match P.underlying key,(P.info? elem).bind (·.zero) with
  |some (.int k),some (.bool false)=>some k
  |_,_=>none
 |_=>none
theorem xE {P:Program}{t:TypeId}{k:IntKind} (h:AE P t=some k):∃key elem ti,P.underlying t=some (.map key elem)∧P.underlying key=some (.int k)∧P.info? elem=some ti∧ti.zero=some (.bool false):=by
 unfold AE at h
 split at h
 ·rename_i key elem hu
  split at h
  ·rename_i k' h1 h2
   cases h
   obtain⟨ti,h3,h4⟩:=Option.bind_eq_some_iff.1 h2
   exact⟨key,elem,ti,hu,h1,h3,h4⟩
  ·cases h
 ·cases h
theorem pM {k k0:IntKind}{n:Int}:∀(es:List MapEntry) (l:List (Int×Bool)) (i:Nat),DM k (es.map fun e=>[V.d (.sc e.key),V.d (.sc e.val)])=some l →
  (BN l n=none∧Instr.findNow (.int k0) (.int k n) es i=some none)∨∃b j,BN l n=some b∧Instr.findNow (.int k0) (.int k n) es i=some (some (j,.bool b))
 |[],l,i,h=>by
  simp only[WV,DM,WX]at h
  subst h
  exact .inl ⟨rfl,rfl⟩
 |e::es,l,i,h=>by
  rw[WU]at h
  obtain⟨m,b,l',h1,h2,rfl,h4⟩:=Jh h
  unfold Instr.findNow
  rw[h1]
  simp only[Instr.sameNow,if_true]
  by_cases Ox:n=m
  ·subst Ox
   refine .inr ⟨b,i,by simp [BN],?_⟩
   simp [h2]
  ·have hb:(n == m)=false:=by simpa using Ox
   rw[hb]
   simp only
   have hg:BN ((m,b)::l') n=BN l' n:=by simp [BN,hb]
   rw[hg]
   exact pM es l' (i+1) h4
theorem run_checkKey {P:Program}{t:TypeId}{k:IntKind} (hu:P.underlying t=some (.int k)) (b:Bool) (n:Int) (w:World):(Instr.checkKey b 10000 t (.int k n)).run P w=.ok () w:=by
 have h:∀d:Nat,(Instr.checkKey b (d+1) t (.int k n)).run P w=.ok () w:=fun d=>by simp [Instr.checkKey,run_underlying hu]
 exact h 9999
theorem wP {σ:Gh}{s:List Obj}{w:World} (hI:Inv σ s w) {id g:Nat}{u:Value}{o:Obj} (hm:aI σ s w (.mp id g) u) (ho:s[id]?=some o) (hg:o.g=g) :
  ∃b es c,σ id=some (b,0)∧w.heap[b]?=some (.map es c)∧o.aV=jQ es∧u=.map (some b):=by
 cases hm with
 |mp o' nN Dd hu hk =>
  rw[ho]at nN;cases nN
  obtain⟨b,h1,hM,h2⟩:=hk hg
  rcases hI.content _ o ho with (⟨h3,_⟩|⟨b',es,c,h3,h4,h5⟩)|⟨b',base,arr,E,h3,h4,_⟩
  ·rw[h1]at h3;cases h3
  ·rw[h1]at h3;cases h3
   exact⟨b,es,c,h1,h4,h5,h2⟩
  ·rw[h1]at h3;cases h3
   exact(Fg.notM ⟨arr,E,h4⟩ hM).elim
def rH (k:IntKind):List (List V)→Option (List (Int×Fn))
 |[]=>some []
 |[.d (.sc (.int k' n)),.d (.sc (.func fn ⟨[]⟩ ⟨[]⟩))]::rest=>if k'=k then (rH k rest).map ((n,fn)::·) else none
 |_::_=>none
theorem Ik {k:IntKind}{a v:Value}{rest:List (List V)}{l:List (Int×Fn)} (h:rH k ([V.d (.sc a),V.d (.sc v)]::rest)=some l):∃n fn l',a=.int k n∧v=.func fn #[] #[]∧l=(n,fn)::l'∧rH k rest=some l':=by
 unfold rH at h
 split at h
 ·rename_i he;cases he
 ·rename_i k' n b Rq he
  simp only[X4,V.d.injEq,D.sc.injEq,and_true]at he
  obtain⟨⟨rfl,rfl⟩,rfl⟩:=he
  split at h
  ·rename_i hk
   subst hk
   obtain⟨l',h1,h2⟩:=Option.map_eq_some_iff.1 h
   exact⟨n,b,l',rfl,rfl,h2.symm,h1⟩
  ·cases h
 ·cases h
def rz (l:List (Int×Fn)) (n:Int):Option Fn:=(l.find? fun p=>n == p.1).map (·.2)
def uV (P:Program) (t:TypeId):Option IntKind :=
 match P.underlying t with
 |some (.map key elem)=>match P.underlying key,(P.info? elem).bind (·.zero) with
  |some (.int k),some .nilFunc=>some k
  |_,_=>none
 |_=>none
theorem vq {P:Program}{t:TypeId}{k:IntKind} (h:uV P t=some k):∃key elem,P.underlying t=some (.map key elem)∧P.underlying key=some (.int k):=by
 unfold uV at h
 split at h
 ·rename_i key elem hu
  split at h
  ·rename_i k' h1 h2
   cases h
   exact⟨key,elem,hu,h1⟩
  ·cases h
 ·cases h
theorem nV {k k0:IntKind}{n:Int}:∀(es:List MapEntry) (l:List (Int×Fn)) (i:Nat),rH k (es.map fun e=>[V.d (.sc e.key),V.d (.sc e.val)])=some l →
  (rz l n=none∧Instr.findNow (.int k0) (.int k n) es i=some none)∨∃b j,rz l n=some b∧Instr.findNow (.int k0) (.int k n) es i=some (some (j,.func b #[] #[]))
 |[],l,i,h=>by
  simp only[WV,rH,WX]at h
  subst h
  exact .inl ⟨rfl,rfl⟩
 |e::es,l,i,h=>by
  rw[WU]at h
  obtain⟨m,b,l',h1,h2,rfl,h4⟩:=Ik h
  unfold Instr.findNow
  rw[h1]
  simp only[Instr.sameNow,if_true]
  by_cases Ox:n=m
  ·subst Ox
   refine .inr ⟨b,i,by simp [rz],?_⟩
   simp [h2]
  ·have hb:(n == m)=false:=by simpa using Ox
   rw[hb]
   simp only
   have hg:rz ((m,b)::l') n=rz l' n:=by simp [rz,hb]
   rw[hg]
   exact nV es l' (i+1) h4
def ki (P:Program) (t:TypeId) (s:List Obj) (m k:V) (K:V→Prop):Prop :=
 match uV P t with
 |none=>False
 |some ik=>match m with
  |.mp id g=>match k with
   |.d (.sc (.int k' n))=>qZ s id g fun o=>k'=ik∧match (rH ik o.aV).bind fun l=>rz l n with
    |none=>False
    |some fn=>K (.cl fn [] [])
   |_=>False
  |_=>False
theorem Df {P:Program}{t:TypeId}{σ:Gh}{s:List Obj}{w:World}{m k:V}{um uk:Value}{K:V→Prop} (hI:Inv σ s w) (hm:aI σ s w m um) (hk:aI σ s w k uk) (h:ki P t s m k K) :
  ∃v c,(Instr.lookup t um uk false).run P w=.ok c w∧aI σ s w v c∧K v:=by
 unfold ki at h
 split at h
 ·exact h.elim
 rename_i ik Kr
 obtain⟨key,elem,t1,t2⟩:=vq Kr
 split at h
 case h_2=>exact h.elim
 rename_i id g
 split at h
 case h_2=>exact h.elim
 rename_i k' n
 obtain⟨o,ho,hg,rfl,h⟩:=eD h
 split at h
 ·exact h.elim
 rename_i fn Pc
 obtain⟨l,hl,Rm⟩:=Option.bind_eq_some_iff.1 Pc
 obtain⟨b,es,c,h1,h2,h3,rfl⟩:=wP hI hm ho hg
 cases hk with|d hk=>?_
 cases hk with|sc _ _=>?_
 rw[h3]at hl
 refine⟨_,.func fn #[] #[],?_,.cl rfl (fun i x hx=>by simp at hx) rfl (fun i x hx=>by simp at hx),h⟩
 rcases nV (k0:=k') (n:=n) es.toList l 0 hl with ⟨g1,g2⟩|⟨b',j,g1,g2⟩
 ·rw[Rm]at g1;cases g1
 ·rw[Rm]at g1;cases g1
  simp [Instr.lookup,run_underlying t1,run_underlying t2,MapKept.run_getObj_map h2,run_checkKey t2,Instr.findKey,g2]
def uP (P:Program) (t:TypeId) (s:List Obj) (m k x:V) (K:List Obj→Prop):Prop :=
 match uV P t with
 |none=>False
 |some ik=>match m with
  |.mp id g=>match k with
   |.d (.sc (.int k' n))=>match x with
    |.cl fn [] []=>qZ s id g fun o=>(o.live=true∧k'=ik)∧match rH ik o.aV with
     |none=>False
     |some l=>rz l n=none∧K (s.set id { o with aV:=o.aV++[[.d (.sc (.int k' n)),.d (.sc (.func fn ⟨[]⟩ ⟨[]⟩))]] })
    |_=>False
   |_=>False
  |_=>False
theorem EF {P:Program}{t:TypeId}{σ:Gh}{s:List Obj}{w:World}{m k x:V}{um uk ux:Value}{K:List Obj→Prop} (hI:Inv σ s w) (hm:aI σ s w m um) (hk:aI σ s w k uk) (hx:aI σ s w x ux) (h:uP P t s m k x K) :
  ∃s' w',(Instr.mapUpdate t um uk ux).run P w=.ok () w'∧aY σ s w σ s' w'∧Inv σ s' w'∧K s':=by
 unfold uP at h
 split at h
 ·exact h.elim
 rename_i ik Kr
 obtain⟨key,elem,t1,t2⟩:=vq Kr
 split at h
 case h_2=>exact h.elim
 rename_i id g
 split at h
 case h_2=>exact h.elim
 rename_i k' n
 split at h
 case h_2=>exact h.elim
 rename_i fn
 obtain⟨o,ho,hg,⟨s9,rfl⟩,h⟩:=eD h
 split at h
 ·exact h.elim
 rename_i l hl
 obtain⟨hn,h⟩:=h
 obtain⟨b,es,c,h1,h2,h3,rfl⟩:=wP hI hm ho hg
 cases hk with|d hk=>?_
 cases hk with|sc _ _=>?_
 cases hx with|@cl _ _ _ f' c' q1 _ q2 _=>?_
 obtain rfl:f'=#[]:=Array.eq_empty_of_size_eq_zero (by simpa using q1)
 obtain rfl:c'=#[]:=Array.eq_empty_of_size_eq_zero (by simpa using q2)
 rw[h3]at hl
 have Pc:Instr.findNow (.int k') (.int k' n) es.toList 0=some none:=by
  rcases nV (k0:=k') (n:=n) es.toList l 0 hl with ⟨g1,g2⟩|⟨b',j,g1,g2⟩
  ·exact g2
  ·rw[hn]at g1;cases g1
 have cC:(setObj b (.map (es.push { key:=.int k' n,val:=.func fn #[] #[],born:=c }) (c+1))).run P w=.ok () (setBlock w b (.map (es.push { key:=.int k' n,val:=.func fn #[] #[],born:=c }) (c+1))):=by
  simp [setObj,Sem.run,h2,setBlock]
 have c8:(Instr.mapUpdate t (.map (some b)) (.int k' n) (.func fn #[] #[])).run P w=.ok () (setBlock w b (.map (es.push { key:=.int k' n,val:=.func fn #[] #[],born:=c }) (c+1))):=by
  simp [Instr.mapUpdate,run_underlying t1,run_underlying t2,MapKept.run_getObj_map h2,run_checkKey t2,Instr.findKey,Pc,cC]
 have:=mZ (p:=σ id) (w':=setBlock w b (.map (es.push { key:=.int k' n,val:=.func fn #[] #[],born:=c }) (c+1))) (o':={ o with aV:=o.aV++[[.d (.sc (.int k' n)),.d (.sc (.func fn ⟨[]⟩ ⟨[]⟩))]] }) hI ho s9 rfl rfl rfl (by simp [setBlock])
  (fun b1 _ gr=>Go.ChangeMaps.heap_setBlock_other h2 _ (fun e=>gr 0 (by rw[h1,e])))
  (fun b1 jD arr E he hh=>by
   rw[h1]at he;cases he
   rw[h2]at hh;cases hh)
  (fun b1 jD he hm=>by
   rw[h1]at he;cases he
   exact⟨_,_,Go.ChangeMaps.heap_setBlock_same h2 _⟩)
  (W4 _) (fun _=>⟨rfl,rfl⟩) (fun b1 jD he=>.inl ⟨jD,he⟩)
  (fun hE=>.inl (.inr ⟨b,_,_,h1,Go.ChangeMaps.heap_setBlock_same h2 _,by simp [h3,jQ]⟩))
 rw[qx]at this
 exact⟨_,_,c8,this.1,this.2,h⟩
def gJ (P:Program) (t:TypeId) (s:List Obj) (m k:V) (K:V→Prop):Prop :=
 match AE P t with
 |none=>ki P t s m k K
 |some ik=>match m with
  |.mp id g=>match k with
   |.d (.sc (.int k' n))=>qZ s id g fun o=>k'=ik∧match DM ik o.aV with
    |none=>False
    |some l=>K (.d (.sc (.bool ((BN l n).getD false))))
   |_=>False
  |_=>False
theorem Bx {P:Program}{t:TypeId}{σ:Gh}{s:List Obj}{w:World}{m k:V}{um uk:Value}{K:V→Prop} (hI:Inv σ s w) (hm:aI σ s w m um) (hk:aI σ s w k uk) (h:gJ P t s m k K) :
  ∃v c,(Instr.lookup t um uk false).run P w=.ok c w∧aI σ s w v c∧K v:=by
 unfold gJ at h
 split at h
 ·exact Df hI hm hk h
 rename_i ik Kr
 obtain⟨key,elem,ti,t1,t2,t3,t4⟩:=xE Kr
 split at h
 case h_2=>exact h.elim
 rename_i id g
 split at h
 case h_2=>exact h.elim
 rename_i k' n
 obtain⟨o,ho,hg,rfl,h⟩:=eD h
 split at h
 ·exact h.elim
 rename_i l hl
 obtain⟨b,es,c,h1,h2,h3,rfl⟩:=wP hI hm ho hg
 cases hk with|d hk=>?_
 cases hk with|sc _ _=>?_
 rw[h3]at hl
 refine⟨_,.bool ((BN l n).getD false),?_,.d (.sc _ rfl),h⟩
 rcases pM (k0:=k') (n:=n) es.toList l 0 hl with ⟨g1,g2⟩|⟨b',j,g1,g2⟩
 ·simp [Instr.lookup,run_underlying t1,run_underlying t2,MapKept.run_getObj_map h2,run_checkKey t2,Instr.findKey,g1,g2,zeroValue,typeInfo,t3,t4]
 ·simp [Instr.lookup,run_underlying t1,run_underlying t2,MapKept.run_getObj_map h2,run_checkKey t2,Instr.findKey,g1,g2]
def rv (P:Program) (t:TypeId) (s:List Obj) (m k x:V) (K:List Obj→Prop):Prop :=
 match AE P t with
 |none=>uP P t s m k x K
 |some ik=>match m with
  |.mp id g=>match k with
   |.d (.sc (.int k' n))=>match x with
    |.d (.sc (.bool b))=>qZ s id g fun o=>(o.live=true∧k'=ik)∧match DM ik o.aV with
     |none=>False
     |some l=>BN l n=none∧K (s.set id { o with aV:=o.aV++[[.d (.sc (.int k' n)),.d (.sc (.bool b))]] })
    |_=>False
   |_=>False
  |_=>False
theorem zx {P:Program}{t:TypeId}{σ:Gh}{s:List Obj}{w:World}{m k x:V}{um uk ux:Value}{K:List Obj→Prop} (hI:Inv σ s w) (hm:aI σ s w m um) (hk:aI σ s w k uk) (hx:aI σ s w x ux) (h:rv P t s m k x K) :
  ∃s' w',(Instr.mapUpdate t um uk ux).run P w=.ok () w'∧aY σ s w σ s' w'∧Inv σ s' w'∧K s':=by
 unfold rv at h
 split at h
 ·exact EF hI hm hk hx h
 rename_i ik Kr
 obtain⟨key,elem,ti,t1,t2,t3,t4⟩:=xE Kr
 split at h
 case h_2=>exact h.elim
 rename_i id g
 split at h
 case h_2=>exact h.elim
 rename_i k' n
 split at h
 case h_2=>exact h.elim
 rename_i bv
 obtain⟨o,ho,hg,⟨s9,rfl⟩,h⟩:=eD h
 split at h
 ·exact h.elim
 rename_i l hl
 obtain⟨hn,h⟩:=h
 obtain⟨b,es,c,h1,h2,h3,rfl⟩:=wP hI hm ho hg
 cases hk with|d hk=>?_
 cases hk with|sc _ _=>?_
 cases hx with|d hx=>?_
 cases hx with|sc _ _=>?_
 rw[h3]at hl
 have Pc:Instr.findNow (.int k') (.int k' n) es.toList 0=some none:=by
  rcases pM (k0:=k') (n:=n) es.toList l 0 hl with ⟨g1,g2⟩|⟨b',j,g1,g2⟩
  ·exact g2
  ·rw[hn]at g1;cases g1
 have cC:(setObj b (.map (es.push { key:=.int k' n,val:=.bool bv,born:=c }) (c+1))).run P w=.ok () (setBlock w b (.map (es.push { key:=.int k' n,val:=.bool bv,born:=c }) (c+1))):=by
  simp [setObj,Sem.run,h2,setBlock]
 have c8:(Instr.mapUpdate t (.map (some b)) (.int k' n) (.bool bv)).run P w=.ok () (setBlock w b (.map (es.push { key:=.int k' n,val:=.bool bv,born:=c }) (c+1))):=by
  simp [Instr.mapUpdate,run_underlying t1,run_underlying t2,MapKept.run_getObj_map h2,run_checkKey t2,Instr.findKey,Pc,cC]
 have:=mZ (p:=σ id) (w':=setBlock w b (.map (es.push { key:=.int k' n,val:=.bool bv,born:=c }) (c+1))) (o':={ o with aV:=o.aV++[[.d (.sc (.int k' n)),.d (.sc (.bool bv))]] }) hI ho s9 rfl rfl rfl (by simp [setBlock])
  (fun b1 _ gr=>Go.ChangeMaps.heap_setBlock_other h2 _ (fun e=>gr 0 (by rw[h1,e])))
  (fun b1 jD arr E he hh=>by
   rw[h1]at he;cases he
   rw[h2]at hh;cases hh)
  (fun b1 jD he hm=>by
   rw[h1]at he;cases he
   exact⟨_,_,Go.ChangeMaps.heap_setBlock_same h2 _⟩)
  (W4 _) (fun _=>⟨rfl,rfl⟩) (fun b1 jD he=>.inl ⟨jD,he⟩)
  (fun hE=>.inl (.inr ⟨b,_,_,h1,Go.ChangeMaps.heap_setBlock_same h2 _,by simp [h3,jQ]⟩))
 rw[qx]at this
 exact⟨_,_,c8,this.1,this.2,h⟩
def lj (P:Program) (t:TypeId) (r:Option Operand) (s:List Obj) (K:V→List Obj→Prop):Prop :=
 r=none∧K (.mp s.length 0) (s++[⟨0,true,2,[]⟩])
theorem y8 {P:Program}{t:TypeId}{σ:Gh}{s:List Obj}{w:World}{r:Option Operand}{K:V→List Obj→Prop} (hI:Inv σ s w) (h:lj P t r s K) :
  ∃v c σ' s' w',(Instr.makeMap t none).run P w=.ok c w'∧aY σ s w σ' s' w'∧Inv σ' s' w'∧aI σ' s' w' v c∧K v s':=by
 have:=lz (p:=some (w.heap.size,0)) (o':=⟨0,true,2,[]⟩) (w':=w.alloc (.map #[] 0)) hI rfl rfl rfl (by simp) (fun b hb=>Go.RowKit.Below.heap_alloc w _ b hb) (fun b base h=>by cases h;exact W4 _)
  (fun hE=>.inl (.inr ⟨w.heap.size,#[],0,rfl,heap_alloc_new w _,rfl⟩))
 refine⟨_,.map (some w.heap.size),_,_,_,?_,this.1,this.2,.mp ⟨0,true,2,[]⟩ (by simp) (W4 _) rfl (fun _=>⟨w.heap.size,cw _ _ _,⟨_,_,heap_alloc_new w _⟩,rfl⟩),h.2⟩
 simp [Instr.makeMap]
def gg (es:List (List V)) (lo:Nat) (ns:List (List V)):List (List V):=es.take lo++ns++es.drop (lo+ns.length)
theorem vZ (es:List (List V)) (lo:Nat) (ns:List (List V)) (h:lo+ns.length≤es.length) (j:Nat) :
  (gg es lo ns)[j]?=if lo≤j∧j<lo+ns.length then ns[j-lo]? else es[j]?:=by
 have hl:(es.take lo).length=lo:=by simp;omega
 unfold gg
 by_cases h1:j<lo
 ·rw[if_neg (by omega),Xx,Xg (by omega),Xr,if_pos h1]
 ·by_cases h2:j<lo+ns.length
  ·rw[if_pos (by omega),Xx,Xm (by omega),hl,Xg (by omega)]
  ·rw[if_neg (by omega),Xm (by simp;omega),XL]
   congr 1
   simp
   omega
theorem zq (es:List (List V)) (lo:Nat) (ns:List (List V)) (h:lo+ns.length≤es.length):(gg es lo ns).length=es.length:=by
 simp [gg];omega
theorem zE {σ:Gh}{s:List Obj}{w:World} (hI:Inv σ s w) {id:Nat}{o:Obj} (ho:s[id]?=some o) (hl:o.live=true) {lo:Nat}{ns:List (List V)} (hfit:lo+ns.length≤o.aV.length) (hz:∀e∈ns,e.length=o.sz)
  {b base:Nat} (hs:σ id=some (b,base)) (hC:Fg w b) {us:List Value} (RP:us.length=ns.length*o.sz)
  (hrep:∀(i j:Nat) (y:V),(ns[i]?.bind (·[j]?))=some y→∃c,us[i*o.sz+j]?=some c∧c.oneCell'=true∧aI σ s w y c) (OM:∀u∈us,u.oneCell'=true) (P:Program) :
  ∃w',(storeCells ⟨b,base+lo*o.sz,none⟩ us).run P w=.ok () w'∧aY σ s w σ (s.set id { o with aV:=gg o.aV lo ns }) w' ∧
   Inv σ (s.set id { o with aV:=gg o.aV lo ns }) w':=by
 rcases hI.content _ o ho with h1|⟨b',cg,arr,E,h1,h2,h3,h4,h5⟩
 ·exact(h1.EA hs hC).elim
 rw[hs]at h1;cases h1
 have S6:lo*o.sz+ns.length*o.sz≤o.aV.length*o.sz:=by
  rw[← XO];exact XG _ hfit
 have c8:=run_storeCells_at P b (base+lo*o.sz) E us 0 arr w h2 (by rw[RP];omega) OM
 simp only[Nat.add_zero]at c8
 generalize tF:(arr.toList.take (base+lo*o.sz)++us++arr.toList.drop (base+lo*o.sz+us.length)).toArray=cZ at c8
 have jf:cZ.size=arr.size:=by rw[← tF];simp;omega
 have pP:∀p,cZ[p]?=if base+lo*o.sz≤p∧p<base+lo*o.sz+us.length then us[p-(base+lo*o.sz)]? else arr[p]?:=by
  intro p
  have hl:(arr.toList.take (base+lo*o.sz)).length=base+lo*o.sz:=by simp;omega
  rw[← tF,List.getElem?_toArray]
  by_cases g1:p<base+lo*o.sz
  ·rw[if_neg (by omega),Xx,Xg (by omega),Xr,if_pos g1,XF]
  ·by_cases g2:p<base+lo*o.sz+us.length
   ·rw[if_pos (by omega),Xx,Xm (by omega),hl,Xg (by omega)]
   ·rw[if_neg (by omega),Xm (by simp;omega),XL,XF]
    congr 1
    simp
    omega
 refine⟨_,c8,?_⟩
 have:=mZ (p:=σ id) (w':=w.setRow b cZ) (o':={ o with aV:=gg o.aV lo ns }) hI ho hl rfl rfl rfl (by simp)
  (fun b1 _ gr=>setRow_other w b b1 cZ (fun e=>gr base (by rw[hs,e])))
  (fun b1 jD Rc E1 he hh=>by
   rw[hs]at he;cases he
   rw[h2]at hh;cases hh
   exact⟨cZ,setRow_heap w b arr cZ E (0,0) h2,jf⟩)
  (fun b1 jD he hm=>by
   rw[hs]at he;cases he
   exact(hC.notM hm).elim)
  (W4 _) (fun _=>⟨rfl,rfl⟩) (fun b1 jD he=>.inl ⟨jD,he⟩)
  (fun hE=>.inr ⟨b,base,cZ,E,hs,setRow_heap w b arr cZ E (0,0) h2,(by
   intro e he
   simp only at he
   unfold gg at he
   rcases List.mem_append.1 he with he|he
   ·rcases List.mem_append.1 he with he|he
    ·exact h3 e (List.mem_of_mem_take he)
    ·exact hz e he
   ·exact h3 e (List.mem_of_mem_drop he)),(by simp only[zq _ _ _ hfit];omega),(by
   intro i j x hx
   simp only at hx ⊢
   rw[qx]at hE ⊢
   rw[vZ _ _ _ hfit]at hx
   split at hx
   ·rename_i yQ
    obtain⟨c,k1,k2,k3⟩:=hrep _ j x hx
    refine⟨c,?_,k2,k3.bS hE⟩
    have aS:=(List.getElem?_eq_some_iff.1 k1).1
    have hmul:i*o.sz=lo*o.sz+(i-lo)*o.sz:=by rw[← XO];congr 1;omega
    rw[pP,if_pos (by omega),← k1]
    congr 1
    omega
   ·rename_i yQ
    obtain⟨c,k1,k2,k3⟩:=h5 i j x hx
    refine⟨c,?_,k2,k3.bS hE⟩
    rw[pP,if_neg ?_]
    ·exact k1
    ·have S0:j<o.sz:=by
      cases he:o.aV[i]? with
      |none=>rw[he]at hx;cases hx
      |some e =>
       rw[he]at hx
       have:=(List.getElem?_eq_some_iff.1 hx).1
       rw[h3 e (W6 he)]at this
       exact this
     rw[RP]
     rcases Xw i lo with aS|lW
     ·have:=XG o.sz (show i+1≤lo from aS)
      rw[XO,Nat.one_mul]at this
      omega
     ·have:=XG o.sz (show lo+ns.length≤i by omega)
      rw[XO]at this
      omega)⟩)
 rw[qx]at this
 exact this
def pg (P:Program) (t:TypeId) (a x:V) (s:List Obj) (K:V→List Obj→Prop):Prop :=
 match kN P t with
 |none=>False
 |some (_,i)=>match iS s x with
  |none=>False
  |some ns=>(∀e∈ns,e.length=i.sz)∧match a with
   |.so id g lo n=>qZ s id g fun o=>(o.live=true∧o.sz=i.sz∧lo+n≤o.aV.length∧ns.length≤n)∧K (.d (.sc (.int .i64 ns.length))) (s.set id { o with aV:=gg o.aV lo ns })
   |_=>False
theorem Pa {P:Program}{t e:TypeId}{σ:Gh}{s:List Obj}{w:World}{x:V}{ux:Value}{ns:List (List V)}{z:Nat} (hu:P.underlying t=some (.slice e)) (hI:Inv σ s w) (hx:aI σ s w x ux) (yX:iS s x=some ns) (hz:∀e∈ns,e.length=z) :
  ∃news,Src P z t ux ns.length news w∧∀(i j:Nat) (y:V),(ns[i]?.bind (·[j]?))=some y→∃c,news[i*z+j]?=some c∧c.oneCell'=true∧aI σ s w y c:=by
 obtain⟨ax,D3,rfl,Kn,Tu,news,n1,n2,n3,n4⟩:=nH hI hx yX hz
 refine⟨news,?_,n4⟩
 cases ax with
 |none =>
  have:ns=[]:=Kn rfl
  subst this
  have hn:news=[]:=Xb (by simpa using n1)
  subst hn
  exact Src.ofNil w hu D3
 |some ad=>exact Src.ofSlice w hu ad ns.length D3 news n1 (n3 ad rfl) n2
theorem xY (es:List (List V)) (lo:Nat):gg es lo []=es:=by simp [gg]
theorem Ft {P:Program}{t ty:TypeId}{a x:V}{ua ux:Value}{σ:Gh}{s:List Obj}{w:World}{K:V→List Obj→Prop} (hI:Inv σ s w) (ha:aI σ s w a ua) (hx:aI σ s w x ux)
  (h:pg P t a x s K):∃v r s' w',(Builtin.copy_ #[t,t] ty #[ua,ux]).run P w=.ok r w'∧aY σ s w σ s' w'∧Inv σ s' w'∧aI σ s' w' v r∧K v s':=by
 unfold pg at h
 split at h
 ·exact h.elim
 rename_i e i Ml
 obtain⟨hu,hi⟩:=nA Ml
 split at h
 ·exact h.elim
 rename_i ns yX
 obtain⟨hz,h⟩:=h
 obtain⟨ti,d,z,k1,k2,k3,k4,k5,k6,k7,k8,k9⟩:=ir hi
 obtain⟨news,vN,n4⟩:=Pa hu hI hx yX hz
 split at h
 case h_2=>exact h.elim
 rename_i id g lo n
 obtain⟨o,ho,hg,⟨hl,iB,hfit,hle⟩,hK⟩:=eD h
 have iI:Nat.min ns.length n=ns.length:=Nat.min_eq_left hle
 have oO:=vN.cells
 cases ha with|so o' nN Dd QY hk=>?_
 rw[ho]at nN;cases nN
 rcases hk hg with ⟨hs,⟨ad,rfl⟩,rfl,rfl⟩|⟨b,base,cap,E,arr,hs,hh,rfl,fC,RS⟩
 ·have hn:ns=[]:=Xb (by omega)
  subst hn
  have Rn:news=[]:=Xb (by simpa using vN.newsLen)
  subst Rn
  have cC:s.set id { o with aV:=gg o.aV 0 [] }=s:=by
   rw[xY]
   apply List.ext_getElem?
   intro k
   by_cases hk:k=id
   ·subst hk
    rw[XK (List.getElem?_eq_some_iff.1 ho).1,ho]
   ·rw[XZ (Ne.symm hk)]
  rw[cC]at hK
  refine⟨_,.int .i64 0,s,w,?_,aY.refl _ _ _,hI,.d (.sc _ rfl),hK⟩
  have hlen:=vN.len w
  simp only[Xa]at hlen oO
  cases ad <;> simp [Builtin.copy_,run_underlying hu,sizeOf,typeInfo,k1,k4,hlen,oO,goInt,storeCells]
 ·obtain⟨w',r1,r2,r3⟩:=zE hI ho hl (lo:=lo) (ns:=ns) (by omega) (by rw[iB];exact hz) hs ⟨arr,E,hh⟩ (us:=news) (by rw[iB];exact vN.newsLen) (by rw[iB];exact n4) vN.one P
  refine⟨_,.int .i64 ns.length,_,w',?_,r2,r3,.d (.sc _ rfl),hK⟩
  have hlen:=vN.len w
  simp [Builtin.copy_,run_underlying hu,sizeOf,typeInfo,k1,k4,hlen,iI,oO,goInt,r1]
def kU (P:Program) (t:TypeId) (x:V) (s:List Obj) (K:V→List Obj→Prop):Prop :=
 match kN P t with
 |none=>False
 |some (_,i)=>match x with
  |.so id g lo n=>qZ s id g fun o=>(o.live=true∧o.sz=i.sz∧lo+n≤o.aV.length)∧K (.tu []) (s.set id { o with aV:=gg o.aV lo (List.replicate n (i.zero.map cv)) })
  |.d (.sl [])=>K (.tu []) s
  |_=>False
theorem J5 {s:List Obj}{id:Nat}{o:Obj} (ho:s[id]?=some o):s.set id o=s:=by
 apply List.ext_getElem?
 intro k
 by_cases hk:k=id
 ·subst hk
  rw[XK (List.getElem?_eq_some_iff.1 ho).1,ho]
 ·rw[XZ (Ne.symm hk)]
theorem Dx {P:Program}{t ty:TypeId}{x:V}{ux:Value}{σ:Gh}{s:List Obj}{w:World}{K:V→List Obj→Prop} (hI:Inv σ s w) (hx:aI σ s w x ux)
  (h:kU P t x s K):∃v r s' w',(Builtin.clear_ #[t] ty #[ux]).run P w=.ok r w'∧aY σ s w σ s' w'∧Inv σ s' w'∧aI σ s' w' v r∧K v s':=by
 unfold kU at h
 split at h
 ·exact h.elim
 rename_i e i Ml
 obtain⟨hu,hi⟩:=nA Ml
 split at h
 case h_3=>exact h.elim
 case h_2 =>
  refine⟨_,.tuple #[],s,w,?_,aY.refl _ _ _,hI,.tu rfl (fun i x hx=>by simp at hx),h⟩
  cases hx with|d hd=>?_
  cases hd with
  |nil=>simp [Builtin.clear_,run_underlying hu]
  |sl _ ad _ sz f h1 h2 h3 h4 h5=>simp [Builtin.clear_,run_underlying hu]
 rename_i id g lo n
 obtain⟨o,ho,hg,⟨hl,iB,hfit⟩,hK⟩:=eD h
 obtain⟨ti,d,z,k1,k2,k3,k4,k5,k6,k7,k8,k9⟩:=ir hi
 have hz:∀w,(zeroValue e).run P w=.ok z w:=fun w=>by simp [zeroValue,typeInfo,k1,k3]
 have UL:∀(s':List Obj) (w':World),aI σ s' w' (.tu []) (.tuple #[]):=fun s' w'=>.tu rfl (fun i x hx=>by simp at hx)
 have zero:n=0→∃v r s' w',(Result.ok (Value.tuple #[]) w:Result Value)=.ok r w'∧aY σ s w σ s' w'∧Inv σ s' w'∧aI σ s' w' v r∧K v s':=by
  rintro rfl
  refine⟨_,_,s,w,rfl,aY.refl _ _ _,hI,UL _ _,?_⟩
  rw[List.replicate_zero,xY,J5 ho]at hK
  exact hK
 cases hx with|so o' nN Dd QY hk=>?_
 rw[ho]at nN;cases nN
 rcases hk hg with ⟨hs,⟨ad,rfl⟩,rfl,rfl⟩|⟨b,base,cap,E,arr,hs,hh,rfl,fC,RS⟩
 ·obtain⟨v,r,s',w',e1,e2⟩:=zero rfl
  refine⟨v,r,s',w',?_,e2⟩
  rw[← e1]
  cases ad <;> simp [Builtin.clear_,run_underlying hu]
 ·rcases Nat.eq_zero_or_pos n with h0|h0
  ·obtain⟨v,r,s',w',e1,e2⟩:=zero h0
   refine⟨v,r,s',w',?_,e2⟩
   rw[← e1]
   subst h0
   simp [Builtin.clear_,run_underlying hu]
  ·have Oa:z.cells.size=i.sz:=by rw[← Array.length_toList,k6,k7]
   have U2:Builtin.zeroCells z.cells n=(Array.range (n*i.sz)).map (z.cells[· % z.cells.size]!):=by unfold Builtin.zeroCells;rw[← Oa]
   have TP:=A5 hi σ s w n z k6
   obtain⟨r1,r2,r3⟩:=TP
   obtain⟨w',q1,q2,q3⟩:=zE hI ho hl (lo:=lo) (ns:=List.replicate n (i.zero.map cv)) (by rw[XD];omega) (fun e he=>by rw[List.eq_of_mem_replicate he,W1,iB,k7]) hs ⟨arr,E,hh⟩ (us:=(Builtin.zeroCells z.cells n).toList)
    (by rw[XD,iB,Array.length_toList,size_zeroCells,Oa])
    (fun a j y hy=>by
     rw[iB]
     obtain⟨c,c1,c2,c3⟩:=r3 a j y hy
     refine⟨c,?_,c2,c3⟩
     rw[XF,U2]
     exact c1)
    (fun u hu=>by
     rw[U2,Array.toList_map,Xt]at hu
     obtain⟨k,hk,rfl⟩:=hu
     have sr:k<n*i.sz:=by simpa using hk
     have hp:0<z.cells.size:=by
      rw[Oa]
      rcases Nat.eq_zero_or_pos i.sz with h'|h'
      ·rw[h']at sr;simp at sr
      ·exact h'
     have hm:=Nat.mod_lt k hp
     have pP:z.cells[k % z.cells.size]! = z.cells[k % z.cells.size]:=by simp [hm]
     rw[pP]
     exact k8 _ (by rw[← k6];exact Array.getElem_mem_toList hm)) P
   refine⟨_,_,_,w',?_,q2,q3,UL _ _,hK⟩
   obtain⟨m,rfl⟩:∃m,n=m+1:=⟨n-1,by omega⟩
   simp [Builtin.clear_,run_underlying hu,hz,q1]
def gj (op:BinOp) (k:IntKind) (a b:Int):Int :=
 k.wrap (match op with
  |.and=>(BitVec.ofInt k.bits a &&& BitVec.ofInt k.bits b).toNat
  |.or=>(BitVec.ofInt k.bits a ||| BitVec.ofInt k.bits b).toNat
  |.xor=>(BitVec.ofInt k.bits a ^^^ BitVec.ofInt k.bits b).toNat
  |_=>(BitVec.ofInt k.bits a &&& ~~~BitVec.ofInt k.bits b).toNat)
def eK (op:BinOp) (k:IntKind) (a b:Int) (K:V→Prop):Prop :=
 match op with
 |.add=>K (.d (.sc (.int k (k.wrap (a+b)))))
 |.sub=>K (.d (.sc (.int k (k.wrap (a-b)))))
 |.mul=>K (.d (.sc (.int k (k.wrap (a*b)))))
 |.quo=>b≠0∧K (.d (.sc (.int k (k.wrap (a.tdiv b)))))
 |.rem=>b≠0∧K (.d (.sc (.int k (a.tmod b))))
 |.and=>K (.d (.sc (.int k (gj .and k a b))))
 |.or=>K (.d (.sc (.int k (gj .or k a b))))
 |.xor=>K (.d (.sc (.int k (gj .xor k a b))))
 |.eql=>K (.d (.sc (.bool (decide (a=b)))))
 |.neq=>K (.d (.sc (.bool (!decide (a=b)))))
 |.lss=>K (.d (.sc (.bool (decide (a<b)))))
 |.leq=>K (.d (.sc (.bool (decide (a≤b)))))
 |.gtr=>K (.d (.sc (.bool (decide (b<a)))))
 |.geq=>K (.d (.sc (.bool (decide (b≤a)))))
 |_=>False
def my (s:List Obj):V→Prop
 |.d (.el _)=>True
 |.rf id g _ _=>qZ s id g fun _=>True
 |.pp id g _ _ _ _=>qZ s id g fun _=>True
 |_=>False
def Ld (P:Program) (t:TypeId):Option (Nat×IntKind) :=
 match P.underlying t with
 |some (.array n e)=>match P.underlying e with
  |some (.int k)=>if (P.info? e).isSome=true∧P.cellsOf e=1∧P.eqGuardType P.depth t=false then some (n,k) else none
  |_=>none
 |_=>none
def LS (P:Program) (t:TypeId):Option IntKind :=
 match P.underlying t with
 |some (.struct fields)=>match fields.toList with
  |[a,b,c]=>match P.underlying a.type,P.underlying b.type,P.underlying c.type with
   | some (.int k), some (.int k'), some (.int Wg) => if (k' = k ∧ Wg = k ∧ a.offset = 0 ∧ b.offset = 1 ∧ c.offset = 2) ∧ (a.name ≠ "_" ∧ b.name ≠ "_" ∧ c.name ≠ "_") ∧ P.stoodInHeld t = false ∧ P.eqGuardType P.depth t = false then some k else none
   |_,_,_=>none
  |_=>none
 |_=>none
def gS (P:Program) (op:BinOp) (t:TypeId) (xs ys:List V) (K:V→Prop):Prop :=
 match xs,ys with
 |[.d (.sc (.int k1 a)),.d (.sc (.int k2 b))],[.d (.sc (.int k3 c)),.d (.sc (.int k4 d))]=>(Ld P t=some (2,k1)∧k2=k1∧k3=k1∧k4=k1)∧match op with
  |.eql=>K (.d (.sc (.bool (a == c&&b == d))))
  |.neq=>K (.d (.sc (.bool (!(a == c&&b == d)))))
  |_=>False
 |[.d (.sc (.int k1 a)),.d (.sc (.int k2 b)),.d (.sc (.int k3 c))],[.d (.sc (.int k4 a')),.d (.sc (.int k5 b')),.d (.sc (.int k6 c'))]=>(LS P t=some k1∧k2=k1∧k3=k1∧k4=k1∧k5=k1∧k6=k1)∧match op with
  |.eql=>K (.d (.sc (.bool (a == a'&&(b == b'&&c == c')))))
  |_=>False
 |_,_=>False
def dy (P:Program) (op:BinOp) (t:TypeId) (s:List Obj) (x y:V) (K:V→Prop):Prop :=
 match x,y with
 |.d (.sc (.int k a)),.d (.sc (.int k' b))=>k=k'∧eK op k a b K
 |.d (.sc (.bool a)),.d (.sc (.bool b))=>P.underlying t=some .bool∧match op with
  |.eql=>K (.d (.sc (.bool (a == b))))
  |.neq=>K (.d (.sc (.bool (!(a == b)))))
  |_=>False
 |.d (.sc (.pointer none)),.d (.sc (.pointer none))=>(∃e,P.underlying t=some (.pointer e))∧match op with
  |.eql=>K (.d (.sc (.bool true)))
  |.neq=>K (.d (.sc (.bool false)))
  |_=>False
 |.ag xs,.ag ys=>gS P op t xs ys K
 |p,.d (.sc (.pointer none))=>my s p∧(∃e,P.underlying t=some (.pointer e))∧match op with
  |.eql=>K (.d (.sc (.bool false)))
  |.neq=>K (.d (.sc (.bool true)))
  |_=>False
 |_,_=>False
def KC:Operand→Bool
 |.const (.slice none 0 0)=>true
 |_=>false
def gf (P:Program) (op:BinOp) (t:TypeId) (x:V) (K:V→Prop):Prop :=
 (∃e,P.underlying t=some (.slice e))∧op=.eql∧match x with
  |.d (.sl [])=>K (.d .ub)
  |.d (.sl (_::_))=>K (.d (.sc (.bool false)))
  |.fu []=>K (.d .ub)
  |.fu (_::_)=>K (.d (.sc (.bool false)))
  |_=>False
theorem Fm {σ:Gh}{s:List Obj}{w:World}{p:V}{u:Value} (hp:aI σ s w p u) (h:my s p):∃a,u=.pointer (some a):=by
 unfold my at h
 split at h
 ·cases hp with|d hx=>?_
  cases hx with|el _ a _ _ _ _=>exact⟨a,rfl⟩
 ·obtain⟨o,ho,hg,_⟩:=eD h
  obtain⟨b,base,_,_,rfl⟩:=FC hp ho hg
  exact⟨_,rfl⟩
 ·exact⟨_,hp.xl⟩
 ·exact h.elim
theorem run_equal_bool {P:Program}{t:TypeId} (hu:P.underlying t=some .bool) (a b:Bool) (w:World):(Op.equal t (.bool a) (.bool b)).run P w=.ok (a == b) w:=by
 have h:∀d:Nat,(Op.equalIn (d+1) t (.bool a) (.bool b)).run P w=.ok (a == b) w:=fun d=>by simp [Op.equalIn,run_underlying hu]
 exact h 9999
theorem zn {P:Program}{t e:TypeId} (hu:P.underlying t=some (.pointer e)) (w:World):(Op.equal t (.pointer none) (.pointer none)).run P w=.ok true w:=by
 have h:∀d:Nat,(Op.equalIn (d+1) t (.pointer none) (.pointer none)).run P w=.ok true w:=fun d=>by simp [Op.equalIn,run_underlying hu]
 exact h 9999
theorem za {P:Program}{t e:TypeId} (hu:P.underlying t=some (.pointer e)) (a:Addr) (w:World):(Op.equal t (.pointer (some a)) (.pointer none)).run P w=.ok false w:=by
 have h:∀d:Nat,(Op.equalIn (d+1) t (.pointer (some a)) (.pointer none)).run P w=.ok false w:=fun d=>by simp [Op.equalIn,run_underlying hu]
 exact h 9999
theorem s6 {P:Program}{t:TypeId} (hu:P.underlying t=some .bool) (a b:Bool) (w:World) (xo yo:Operand) :
  (do eqGuard .eql t xo yo (.bool a) (.bool b);binOp .eql t (.bool a) (.bool b):Sem Value).run P w=.ok (.bool (a == b)) w ∧
  (do eqGuard .neq t xo yo (.bool a) (.bool b);binOp .neq t (.bool a) (.bool b):Sem Value).run P w=.ok (.bool (!(a == b))) w:=by
 have h:=run_equal_bool hu a b w
 constructor <;> simp only[eqGuard,binOp,Sem.run_bind,Sem.run_pure,h,Result.andThen_ok,WY,W2,if_false]
theorem vD {P:Program}{t e:TypeId} (hu:P.underlying t=some (.pointer e)) (w:World) (xo yo:Operand) :
  (do eqGuard .eql t xo yo (.pointer none) (.pointer none);binOp .eql t (.pointer none) (.pointer none):Sem Value).run P w=.ok (.bool true) w ∧
  (do eqGuard .neq t xo yo (.pointer none) (.pointer none);binOp .neq t (.pointer none) (.pointer none):Sem Value).run P w=.ok (.bool false) w:=by
 have h:=zn hu w
 constructor <;> simp only[eqGuard,binOp,Sem.run_bind,Sem.run_pure,h,Result.andThen_ok,WY,W2,if_false]
theorem vo {P:Program}{t e:TypeId} (hu:P.underlying t=some (.pointer e)) (a:Addr) (w:World) (xo yo:Operand) :
  (do eqGuard .eql t xo yo (.pointer (some a)) (.pointer none);binOp .eql t (.pointer (some a)) (.pointer none):Sem Value).run P w=.ok (.bool false) w ∧
  (do eqGuard .neq t xo yo (.pointer (some a)) (.pointer none);binOp .neq t (.pointer (some a)) (.pointer none):Sem Value).run P w=.ok (.bool true) w:=by
 have h:=za hu a w
 constructor <;> simp only[eqGuard,binOp,Sem.run_bind,Sem.run_pure,h,Result.andThen_ok,WY,W2,if_false,W0]
theorem vP {P:Program}{t e:TypeId} (hu:P.underlying t=some (.slice e)) (a:Option Addr) (n c:Nat) (w:World):(Op.equal t (.slice a n c) (.slice none 0 0)).run P w=.ok a.isNone w:=by
 have h:∀d:Nat,(Op.equalIn (d+1) t (.slice a n c) (.slice none 0 0)).run P w=.ok a.isNone w:=fun d=>by cases a <;> simp [Op.equalIn,run_underlying hu]
 exact h 9999
theorem iw {P:Program}{t e:TypeId} (hu:P.underlying t=some (.slice e)) (a:Option Addr) (n c:Nat) (w:World) (xo yo:Operand) :
  (do eqGuard .eql t xo yo (.slice a n c) (.slice none 0 0);binOp .eql t (.slice a n c) (.slice none 0 0):Sem Value).run P w=.ok (.bool a.isNone) w:=by
 have h:=vP hu a n c w
 simp only[eqGuard,binOp,Sem.run_bind,Sem.run_pure,h,Result.andThen_ok,WY,W2,if_false]
theorem DX {P:Program}{op:BinOp}{t:TypeId}{xo yo:Operand}{x:V}{ux:Value}{σ:Gh}{s:List Obj}{w:World}{K:V→Prop} (hx:aI σ s w x ux) (h:gf P op t x K) :
  ∃v c,(do eqGuard op t xo yo ux (.slice none 0 0);binOp op t ux (.slice none 0 0):Sem Value).run P w=.ok c w∧aI σ s w v c∧K v:=by
 obtain⟨⟨e,hu⟩,rfl,h⟩:=h
 split at h
 ·cases hx with|d hx=>?_
  cases hx with
  |nil=>exact⟨_,_,iw hu _ _ _ w xo yo,.d (.ub _),h⟩
  |sl _ a cap sz f h1 h2 h3 h4 h5=>exact⟨_,_,iw hu _ _ _ w xo yo,.d (.ub _),h⟩
 ·cases hx with|d hx=>?_
  cases hx with
  |sl _ a cap sz f h1 h2 h3 h4 h5=>exact⟨_,_,iw hu _ _ _ w xo yo,.d (.sc _ rfl),h⟩
 ·cases hx with|fu hx=>?_
  exact⟨_,_,iw hu _ _ _ w xo yo,.d (.ub _),h⟩
 ·cases hx with|fu hx=>?_
  cases hx with
  |sl _ a cap sz f h1 h2 h3 h4 h5=>exact⟨_,_,iw hu _ _ _ w xo yo,.d (.sc _ rfl),h⟩
 ·exact h.elim
theorem Ah {P:Program}{t:TypeId}{n:Nat}{k:IntKind} (h:Ld P t=some (n,k)):∃e i,P.underlying t=some (.array n e)∧P.underlying e=some (.int k)∧P.info? e=some i∧P.cellsOf e=1∧P.eqGuardType P.depth t=false:=by
 unfold Ld at h
 split at h
 ·rename_i n' e hu
  split at h
  ·rename_i k' hk
   split at h
   ·rename_i hc
    cases h
    obtain⟨i,hi⟩:=Option.isSome_iff_exists.1 hc.1
    exact⟨e,i,hu,hk,hi,hc.2.1,hc.2.2⟩
   ·cases h
  ·cases h
 ·cases h
theorem zd {P:Program}{t:TypeId}{k:IntKind} (ha:Ld P t=some (2,k)) (a b c d:Int) (w:World) :
  (Op.equal t (.agg #[.int k a,.int k b]) (.agg #[.int k c,.int k d])).run P w=.ok (a == c&&b == d) w:=by
 obtain⟨e,i,h1,h2,h3,h4,_⟩:=Ah ha
 have h:∀n:Nat,(Op.equalIn (n+2) t (.agg #[.int k a,.int k b]) (.agg #[.int k c,.int k d])).run P w=.ok (a == c&&b == d) w:=by
  intro n
  rw[run_equalIn_array w (n+1) _ _ h1 h3,h4]
  have hi:∀(x y:Int),(Op.equalIn (n+1) e (.int k x) (.int k y)).run P w=.ok (x == y) w:=fun x y=>by simp [Op.equalIn,run_underlying h2]
  have hp:∀(xs:Array Value) (j:Nat) (v:Value),xs[j]?=some v→(part e xs j).run P w=.ok v w:=fun xs j v hv=>by simp [part,isAgg,run_underlying h2,hv]
  have r2:List.range 2=[0,1]:=rfl
  rw[r2]
  have p0:=hp #[.int k a,.int k b] 0 (.int k a) rfl
  have p1:=hp #[.int k a,.int k b] 1 (.int k b) rfl
  have q0:=hp #[.int k c,.int k d] 0 (.int k c) rfl
  have q1:=hp #[.int k c,.int k d] 1 (.int k d) rfl
  simp only[Op.eqItems,Sem.run_bind,Nat.zero_mul,Nat.one_mul,p0,q0,hi,Result.andThen_ok]
  cases Wu:(a == c)
  ·simp
  ·simp only[WY,W2,if_false,Sem.run_bind,p1,q1,hi,Result.andThen_ok]
   cases RS:(b == d) <;> simp
 exact h 9998
theorem Av {P:Program}{t:TypeId}{k:IntKind} (h:LS P t=some k):∃fields a b c,P.underlying t=some (.struct fields)∧fields.toList=[a,b,c]∧P.underlying a.type=some (.int k)∧P.underlying b.type=some (.int k)∧P.underlying c.type=some (.int k) ∧
  (a.offset = 0 ∧ b.offset = 1 ∧ c.offset = 2) ∧ (a.name ≠ "_" ∧ b.name ≠ "_" ∧ c.name ≠ "_") ∧ P.stoodInHeld t = false ∧ P.eqGuardType P.depth t = false := by
 unfold LS at h
 split at h
 ·rename_i fields hu
  split at h
  ·rename_i a b c hl
   split at h
   ·rename_i k1 k2 k3 ha hb hc
    split at h
    ·rename_i hh
     cases h
     obtain⟨⟨rfl,rfl,o⟩,n,s1,s2⟩:=hh
     exact⟨fields,a,b,c,hu,hl,ha,hb,hc,o,n,s1,s2⟩
    ·cases h
   ·cases h
  ·cases h
 ·cases h
theorem zp {P:Program}{t:TypeId}{k:IntKind} (ht:LS P t=some k) (a b c a' b' c':Int) (w:World) :
  (Op.equal t (.agg #[.int k a,.int k b,.int k c]) (.agg #[.int k a',.int k b',.int k c'])).run P w=.ok (a == a'&&(b == b'&&c == c')) w:=by
 obtain⟨fields,fa,fb,fc,h1,h2,h3,h4,h5,⟨o1,o2,o3⟩,⟨n1,n2,n3⟩,s1,_⟩:=Av ht
 have hf:fields=#[fa,fb,fc]:=by rw[← h2]
 have h:∀n:Nat,(Op.equalIn (n+2) t (.agg #[.int k a,.int k b,.int k c]) (.agg #[.int k a',.int k b',.int k c'])).run P w=.ok (a == a'&&(b == b'&&c == c')) w:=by
  intro n
  have hi:∀(e:TypeId) (x y:Int),P.underlying e=some (.int k)→(Op.equalIn (n+1) e (.int k x) (.int k y)).run P w=.ok (x == y) w:=fun e x y he=>by simp [Op.equalIn,run_underlying he]
  have hp:∀(e:TypeId) (xs:Array Value) (j:Nat) (v:Value),P.underlying e=some (.int k)→xs[j]?=some v→(part e xs j).run P w=.ok v w:=fun e xs j v he hv=>by simp [part,isAgg,run_underlying he,hv]
  have p0:=hp fa.type #[.int k a,.int k b,.int k c] 0 (.int k a) h3 rfl
  have p1:=hp fb.type #[.int k a,.int k b,.int k c] 1 (.int k b) h4 rfl
  have p2:=hp fc.type #[.int k a,.int k b,.int k c] 2 (.int k c) h5 rfl
  have q0:=hp fa.type #[.int k a',.int k b',.int k c'] 0 (.int k a') h3 rfl
  have q1:=hp fb.type #[.int k a',.int k b',.int k c'] 1 (.int k b') h4 rfl
  have q2:=hp fc.type #[.int k a',.int k b',.int k c'] 2 (.int k c') h5 rfl
  have e0:=hi fa.type a a' h3
  have e1:=hi fb.type b b' h4
  have e2:=hi fc.type c c' h5
  rw[show n+2=(n+1)+1 from rfl,Op.equalIn]
  subst hf
  generalize (a == a')=r0 at e0 ⊢
  generalize (b == b')=r1 at e1 ⊢
  generalize (c == c')=r2 at e2 ⊢
  simp [run_underlying h1,Sem.run_bind,s1,n1,n2,n3,o1,o2,o3,p0,p1,p2,q0,q1,q2,e0,e1,e2]
  cases r0 <;> cases r1 <;> cases r2 <;> simp
 exact h 9998
theorem HD {P:Program}{op:BinOp}{t:TypeId}{xo yo:Operand}{xs ys:List V}{ux uy:Value}{σ:Gh}{s:List Obj}{w:World}{K:V→Prop} (hx:aI σ s w (.ag xs) ux) (hy:aI σ s w (.ag ys) uy) (h:gS P op t xs ys K) :
  ∃v c,(do eqGuard op t xo yo ux uy;binOp op t ux uy:Sem Value).run P w=.ok c w∧aI σ s w v c∧K v:=by
 unfold gS at h
 split at h
 ·rename_i k1 a k2 b k3 c k4 d
  obtain⟨⟨ha,rfl,rfl,rfl⟩,h⟩:=h
  have two:∀{k:IntKind}{a b:Int}{u:Value},aI σ s w (.ag [.d (.sc (.int k a)),.d (.sc (.int k b))]) u→u=.agg #[.int k a,.int k b]:=by
   intro k a b u hu
   cases hu with|ag h1 h2 h3=>?_
   rename_i arr
   have e0:=h3 0 _ rfl
   have e1:=h3 1 _ rfl
   generalize Tn:arr.getD 0 undef=v0 at e0
   generalize TY:arr.getD 1 undef=v1 at e1
   cases e0 with|d e0=>?_
   cases e0 with|sc _ _=>?_
   cases e1 with|d e1=>?_
   cases e1 with|sc _ _=>?_
   congr 1
   have iB:arr.size=2:=h1
   apply Array.ext
   ·rw[iB];rfl
   ·intro i e7 QT
    have hi:i=0∨i=1:=by omega
    rcases hi with rfl|rfl
    ·have:arr[0]=arr.getD 0 undef:=by simp [Array.getD,iB]
     rw[this,Tn];rfl
    ·have:arr[1]=arr.getD 1 undef:=by simp [Array.getD,iB]
     rw[this,TY];rfl
  rw[two hx,two hy]
  obtain⟨e,i,h1,h2,h3,h4,h5⟩:=Ah ha
  have hr:=zd ha a b c d w
  split at h
  ·refine⟨_,_,?_,.d (.sc _ rfl),h⟩
   simp [eqGuard,binOp,Sem.run_bind,hr,Result.andThen_ok,h5]
  ·refine⟨_,_,?_,.d (.sc _ rfl),h⟩
   simp [eqGuard,binOp,Sem.run_bind,hr,Result.andThen_ok,h5]
  ·exact h.elim
 ·rename_i k1 a k2 b k3 c k4 a' k5 b' k6 c'
  obtain⟨⟨ht,rfl,rfl,rfl,rfl,rfl⟩,h⟩:=h
  have three:∀{k:IntKind}{a b c:Int}{u:Value},aI σ s w (.ag [.d (.sc (.int k a)),.d (.sc (.int k b)),.d (.sc (.int k c))]) u→u=.agg #[.int k a,.int k b,.int k c]:=by
   intro k a b c u hu
   cases hu with|ag h1 h2 h3=>?_
   rename_i arr
   have e0:=h3 0 _ rfl
   have e1:=h3 1 _ rfl
   have e2:=h3 2 _ rfl
   generalize Tn:arr.getD 0 undef=v0 at e0
   generalize TY:arr.getD 1 undef=v1 at e1
   generalize VA:arr.getD 2 undef=v2 at e2
   cases e0 with|d e0=>?_
   cases e0 with|sc _ _=>?_
   cases e1 with|d e1=>?_
   cases e1 with|sc _ _=>?_
   cases e2 with|d e2=>?_
   cases e2 with|sc _ _=>?_
   congr 1
   have iB:arr.size=3:=h1
   apply Array.ext
   ·rw[iB];rfl
   ·intro i e7 QT
    have hi:i=0∨i=1∨i=2:=by omega
    rcases hi with rfl|rfl|rfl
    ·have:arr[0]=arr.getD 0 undef:=by simp [Array.getD,iB]
     rw[this,Tn];rfl
    ·have:arr[1]=arr.getD 1 undef:=by simp [Array.getD,iB]
     rw[this,TY];rfl
    ·have:arr[2]=arr.getD 2 undef:=by simp [Array.getD,iB]
     rw[this,VA];rfl
  rw[three hx,three hy]
  obtain⟨_,_,_,_,_,_,_,_,_,_,_,_,h5⟩:=Av ht
  have hr:=zp ht a b c a' b' c' w
  split at h
  ·refine⟨_,_,?_,.d (.sc _ rfl),h⟩
   simp [eqGuard,binOp,Sem.run_bind,hr,Result.andThen_ok,h5]
  ·exact h.elim
 ·exact h.elim
theorem FG {P:Program}{op:BinOp}{t:TypeId}{xo yo:Operand}{x y:V}{ux uy:Value}{σ:Gh}{s:List Obj}{w:World}{K:V→Prop} (hx:aI σ s w x ux) (hy:aI σ s w y uy) (h:dy P op t s x y K) :
  ∃v c,(do eqGuard op t xo yo ux uy;binOp op t ux uy:Sem Value).run P w=.ok c w∧aI σ s w v c∧K v:=by
 have bl:∀(b:Bool),K (.d (.sc (.bool b)))→(do eqGuard op t xo yo ux uy;binOp op t ux uy:Sem Value).run P w=.ok (.bool b) w →
   ∃v c,(do eqGuard op t xo yo ux uy;binOp op t ux uy:Sem Value).run P w=.ok c w∧aI σ s w v c∧K v:=fun b hk hr=>⟨_,_,hr,.d (.sc _ rfl),hk⟩
 unfold dy at h
 split at h
 ·rename_i k a k' b
  obtain⟨rfl,h⟩:=h
  cases hx with|d hx=>?_
  cases hx with|sc _ _=>?_
  cases hy with|d hy=>?_
  cases hy with|sc _ _=>?_
  have it:∀(n:Int),K (.d (.sc (.int k n)))→(do eqGuard op t xo yo (.int k a) (.int k b);binOp op t (.int k a) (.int k b):Sem Value).run P w=.ok (.int k n) w →
   ∃v c,(do eqGuard op t xo yo (.int k a) (.int k b);binOp op t (.int k a) (.int k b):Sem Value).run P w=.ok c w∧aI σ s w v c∧K v:=fun n hk hr=>⟨_,_,hr,.d (.sc _ rfl),hk⟩
  cases op <;> simp only[eK]at h
  case add=>exact it _ h (by simp [eqGuard,binOp,Op.intArith])
  case sub=>exact it _ h (by simp [eqGuard,binOp,Op.intArith])
  case mul=>exact it _ h (by simp [eqGuard,binOp,Op.intArith])
  case quo=>exact it _ h.2 (by simp [eqGuard,binOp,Op.intDiv,h.1])
  case rem=>exact it _ h.2 (by simp [eqGuard,binOp,Op.intDiv,h.1])
  case and=>exact it _ h (by simp [eqGuard,binOp,Op.intBits,gj])
  case or=>exact it _ h (by simp [eqGuard,binOp,Op.intBits,gj])
  case xor=>exact it _ h (by simp [eqGuard,binOp,Op.intBits,gj])
  case eql=>exact bl _ h (by simp [eqGuard,binOp,Op.intCmp];rfl)
  case neq=>exact bl _ h (by simp [eqGuard,binOp,Op.intCmp];rfl)
  case lss=>exact bl _ h (by simp [eqGuard,binOp,Op.intCmp])
  case leq=>exact bl _ h (by simp [eqGuard,binOp,Op.intCmp])
  case gtr=>exact bl _ h (by simp [eqGuard,binOp,Op.intCmp])
  case geq=>exact bl _ h (by simp [eqGuard,binOp,Op.intCmp])
 ·rename_i a b
  obtain⟨hu,h⟩:=h
  cases hx with|d hx=>?_
  cases hx with|sc _ _=>?_
  cases hy with|d hy=>?_
  cases hy with|sc _ _=>?_
  split at h
  ·exact bl _ h (s6 hu a b w xo yo).1
  ·exact bl _ h (s6 hu a b w xo yo).2
  ·exact h.elim
 ·obtain⟨⟨e,hu⟩,h⟩:=h
  cases hx with|d hx=>?_
  cases hx with|sc _ _=>?_
  cases hy with|d hy=>?_
  cases hy with|sc _ _=>?_
  split at h
  ·exact bl _ h (vD hu w xo yo).1
  ·exact bl _ h (vD hu w xo yo).2
  ·exact h.elim
 ·exact HD hx hy h
 ·obtain⟨hp,⟨e,hu⟩,h⟩:=h
  obtain⟨ad,rfl⟩:=Fm hx hp
  cases hy with|d hy=>?_
  cases hy with|sc _ _=>?_
  split at h
  ·exact bl _ h (vo hu ad w xo yo).1
  ·exact bl _ h (vo hu ad w xo yo).2
  ·exact h.elim
 ·exact h.elim
def m6:BinOp→Bool
 |.shl=>true
 |.shr=>true
 |_=>false
def Tb (op:BinOp) (k:IntKind) (a b:Int):Int :=
 match op with
 |.shl=>k.wrap (a*2 ^ min b.toNat k.bits)
 |_=>a.fdiv (2 ^ min b.toNat k.bits)
def oP (op:BinOp) (x y:V) (K:V→Prop):Prop :=
 match x,y with
 |.d (.sc (.int k a)),.d (.sc (.int _ b))=>0≤b∧K (.d (.sc (.int k (Tb op k a b))))
 |_,_=>False
def mM (P:Program) (op:BinOp) (t:TypeId) (s:List Obj) (x y:V) (K:V→Prop):Prop :=
 match m6 op with
 |true=>oP op x y K
 |false=>dy P op t s x y K
theorem Hu {P:Program}{op:BinOp}{t:TypeId}{xo yo:Operand}{x y:V}{ux uy:Value}{σ:Gh}{s:List Obj}{w:World}{K:V→Prop} (hx:aI σ s w x ux) (hy:aI σ s w y uy) (h:mM P op t s x y K) :
  ∃v c,(do eqGuard op t xo yo ux uy;binOp op t ux uy:Sem Value).run P w=.ok c w∧aI σ s w v c∧K v:=by
 unfold mM at h
 split at h
 ·rename_i hs
  unfold oP at h
  split at h
  ·rename_i k a k' b
   obtain⟨hb,h⟩:=h
   cases hx with|d hx=>?_
   cases hx with|sc _ _=>?_
   cases hy with|d hy=>?_
   cases hy with|sc _ _=>?_
   have Lq:¬b<0:=by omega
   cases op <;> simp only[m6,W2]at hs
   ·exact⟨_,_,by simp [eqGuard,binOp,Op.shift,Lq,Tb],.d (.sc _ rfl),h⟩
   ·exact⟨_,_,by simp [eqGuard,binOp,Op.shift,Lq,Tb],.d (.sc _ rfl),h⟩
  ·exact h.elim
 ·exact FG hx hy h
def vX (op:UnOp) (x:V) (K:V→Prop):Prop :=
 match op,x with
 |.neg,.d (.sc (.int k n))=>K (.d (.sc (.int k (k.wrap (0-n)))))
 |.not,.d (.sc (.bool b))=>K (.d (.sc (.bool !b)))
 |_,_=>False
theorem Js {P:Program}{op:UnOp}{x:V}{ux:Value}{σ:Gh}{s:List Obj}{w:World}{K:V→Prop} (hx:aI σ s w x ux) (h:vX op x K) :
  ∃v c,(Op.unary op ux).run P w=.ok c w∧aI σ s w v c∧K v:=by
 unfold vX at h
 split at h
 ·cases hx with|d hx=>?_
  cases hx with|sc _ _=>?_
  exact⟨_,_,by simp [Op.unary,Op.intArith],.d (.sc _ rfl),h⟩
 ·cases hx with|d hx=>?_
  cases hx with|sc _ _=>?_
  exact⟨_,_,by simp [Op.unary],.d (.sc _ rfl),h⟩
 ·exact h.elim
def nm (P:Program) (src dst:TypeId) (x:V) (K:V→Prop):Prop :=
 match x with
 |.d (.sc (.int _ n))=>match P.underlying src,P.underlying dst with
  |some (.int _),some (.int k)=>K (.d (.sc (.int k (k.wrap n))))
  |_,_=>False
 |_=>False
theorem FF {P:Program}{src dst:TypeId}{x:V}{ux:Value}{σ:Gh}{s:List Obj}{w:World}{K:V→Prop} (hx:aI σ s w x ux) (h:nm P src dst x K) :
  ∃v c,(convert src dst ux).run P w=.ok c w∧aI σ s w v c∧K v:=by
 unfold nm at h
 split at h
 case h_2=>exact h.elim
 cases hx with|d hx=>?_
 cases hx with|sc _ _=>?_
 split at h
 case h_2=>exact h.elim
 rename_i h1 h2
 exact⟨_,_,by simp [convert,run_underlying h1,run_underlying h2,Conv.intToInt],.d (.sc _ rfl),h⟩
def eQ (mn:Bool) (acc:V):List V→(V→Prop)→Prop
 |[],K=>K acc
 |y::rest,K=>match acc,y with
  |.d (.sc (.int k a)),.d (.sc (.int _ b))=>eQ mn (.d (.sc (.int k (if mn then min a b else max a b)))) rest K
  |_,_=>False
theorem oh {P:Program}{mn:Bool}{σ:Gh}{s:List Obj}{w:World}:∀(ys:List V) (us:List Value) (acc:V) (c:Value) (K:V→Prop),aI σ s w acc c→us.length=ys.length →
  (∀(i:Nat) (y:V),ys[i]?=some y→∃u,us[i]?=some u∧aI σ s w y u)→eQ mn acc ys K →
  ∃v r,(us.foldlM (if mn then Builtin.min2 else Builtin.max2) c).run P w=.ok r w∧aI σ s w v r∧K v
 |[],[],acc,c,K,hr,_,_,h=>⟨acc,c,by simp,hr,h⟩
 |[],_::_,_,_,_,_,hl,_,_=>by simp at hl
 |_::_,[],_,_,_,_,hl,_,_=>by simp at hl
 |y::ys,u::us,acc,c,K,hr,hl,hy,h=>by
  obtain⟨u',hu,Kt⟩:=hy 0 y rfl
  simp only[W9,WX]at hu
  subst hu
  unfold eQ at h
  split at h
  ·cases hr with|d hr=>?_
   cases hr with|sc _ _=>?_
   cases Kt with|d Kt=>?_
   cases Kt with|sc _ _=>?_
   rename_i k a k' b _ _
   obtain⟨v,r,h1,h2,h3⟩:=oh (P:=P) (mn:=mn) ys us _ (.int k (if mn then min a b else max a b)) K (.d (.sc _ rfl)) (by simpa using hl) (fun i z hz=>hy (i+1) z (by simpa using hz)) h
   refine⟨v,r,?_,h2,h3⟩
   rw[List.foldlM_cons]
   cases mn
   ·have:(if b>a then b else a)=max a b:=by omega
    simp only[W2,if_false]at h1 ⊢
    simp [Builtin.max2,this,h1]
   ·have:(if b<a then b else a)=min a b:=by omega
    simp only[if_true]at h1 ⊢
    simp [Builtin.min2,this,h1]
  ·exact h.elim
def At (e0:V) (b a:Nat):V :=
 match e0 with
 |.pp id g i off b' a'=>if b'=b∧a'=a then .pp id g i off b' a' else .d (.sc (.pointer (some ⟨b,a,none⟩)))
 |_=>.d (.sc (.pointer (some ⟨b,a,none⟩)))
def cX (e0:V):D→V
 |.sc (.pointer (some ⟨b,a,none⟩))=>At e0 b a
 |.el [x]=>.bx (cX e0 x)
 |.cl fn first ak=>.cl fn (go first) (go ak)
 |x=>.d x
where go:List D→List V
 |[]=>[]
 |x::l=>cX e0 x::go l
theorem Cg (e0:V):∀l:List D,cX.go e0 l=l.map (cX e0)
 |[]=>rfl
 |x::l=>by simp [cX.go,Cg e0 l]
theorem E2 {σ:Gh}{s:List Obj}{w:World}{e0:V}{u0:Value} (h0:aI σ s w e0 u0) {x:D}{u:Value} (hr:dj (Own σ s) w x u):aI σ s w (cX e0 x) u:=by
 have g:∀(l:List D) (i:Nat) (y:V),(l.map (cX e0))[i]?=some y→∃x,l[i]?=some x∧cX e0 x=y:=fun l i y hy=>by
  rw[Xd]at hy
  exact Option.map_eq_some_iff.1 hy
 induction hr with
 |sc v hv =>
  have hd:aI σ s w (.d (.sc v)) v:=.d (.sc v hv)
  unfold cX
  split
  ·rename_i b a hx
   cases hx
   unfold At
   split
   ·split
    ·rename_i hc
     obtain⟨rfl,rfl⟩:=hc
     have:=h0.xl
     subst this
     exact h0
    ·exact hd
   ·exact hd
  ·rename_i hx;cases hx
  ·rename_i hx;cases hx
  ·exact hd
 |nil=>exact .d .nil
 |sl aV a cap sz f h1 h2 h3 h4 h5 _=>exact .d (.sl aV a cap sz f h1 h2 h3 h4 h5)
 |el cs a f h1 h2 h3 ih =>
  match cs,h2,h3,ih with
  |[],h2,h3,_=>exact .d (.el [] a f h1 h2 h3)
  |[x],h2,h3,ih =>
   simp only[cX]
   exact .bx h1 (h2 0 x rfl).1 (h2 0 x rfl).2 (h3 0 x rfl).one (ih 0 x rfl)
  |x::y::l,h2,h3,_=>exact .d (.el (x::y::l) a f h1 h2 h3)
 |cl h1 _ h3 _ wK fR =>
  simp only[cX,Cg]
  refine .cl (by simpa using h1) (fun i y hy=>?_) (by simpa using h3) (fun i y hy=>?_)
  ·obtain⟨x,hx,rfl⟩:=g _ i y hy;exact wK i x hx
  ·obtain⟨x,hx,rfl⟩:=g _ i y hy;exact fR i x hx
 |ub b=>exact .d (.ub b)
def zr (e0 x:V):V :=
 match x with
 |.d (.cl fn first ak)=>cX e0 (.cl fn first ak)
 |.d (.sc (.func fn ⟨[]⟩ ⟨[]⟩))=>.cl fn [] []
 |x=>x
theorem Hm {σ:Gh}{s:List Obj}{w:World}{e0 x:V}{u0 u:Value} (h0:aI σ s w e0 u0) (hx:aI σ s w x u):aI σ s w (zr e0 x) u:=by
 unfold zr
 split
 ·cases hx with|d hx=>exact E2 h0 hx
 ·cases hx with
  |d hx =>
   cases hx with
   |sc _ _=>exact .cl rfl (fun i x hx=>by simp at hx) rfl (fun i x hx=>by simp at hx)
 ·exact hx
def HP (P:Program) (f:FuncId):Bool :=
 match P.funcs[f]? with
 | some fn => fn.name != "runtime.NumGoroutine" && fn.body.isSome
 |none=>false
def av (P:Program) (f:FuncId) (args:List V) (s:List Obj) (K:V→List Obj→Prop):Prop :=
 HP P f=true∧∀(σ:Gh) (w:World) (vals:Array Value),Inv σ s w→vals.size=args.length→(∀(i:Nat) (x:V),args[i]?=some x→aI σ s w x (vals.getD i undef)) →
  Calls P f vals w fun e w'=>∃u v σ' s',e=.returned u∧aY σ s w σ' s' w'∧Inv σ' s' w'∧aI σ' s' w' v u∧K v s'
theorem Bl {P:Program}{f:FuncId} (h:HP P f=true) (args:Array Value) (w:World):(callFunc f args).run P w=.ok (.enter f args) w:=by
 unfold HP at h
 split at h
 ·rename_i fn hf
  simp only[W7,bne_iff_ne,ne_eq]at h
  obtain⟨h1,h2⟩:=h
  cases hb:fn.body with
  |none=>rw[hb]at h2;cases h2
  |some c=>simp [callFunc,hf,h1,hb]
 ·cases h
def gk (P:Program) (c:Call) (e:Nat→V) (s:List Obj) (K:V→List Obj→Prop):Prop :=
 match c.callee with
 |.value (.func f)=>av P f (c.args.toList.map (ev e)) s K
 |.value f=>match zr (e 0) (ev e f) with
  |.cl (.func g) first ak=>av P g (first++c.args.toList.map (ev e)++ak) s K
  |_=>False
 |.builtin b=>match b,c.args.toList,c.argTypes.toList with
  |.len,[x],[t]=>js P t (ev e x) s fun v=>K v s
  |.append,[a,x],[t,t']=>t=t'∧dG P t (ev e a) (ev e x) s K
  |.copy,[a,x],[t,t']=>t=t'∧pg P t (ev e a) (ev e x) s K
  |.clear,[x],[t]=>kU P t (ev e x) s K
  |.min,x::rest,_=>eQ true (ev e x) (rest.map (ev e)) fun v=>K v s
  |.max,x::rest,_=>eQ false (ev e x) (rest.map (ev e)) fun v=>K v s
  |_,_,_=>False
 |_=>False
def ic (s:List Obj) (x:V) (K:V→Prop):Prop :=
 match x with
 |.d (.el cs)=>K (.d (.el cs))
 |.rf id g i off=>qZ s id g fun _=>K (.rf id g i off)
 |.pp id g i off b a=>qZ s id g fun _=>K (.pp id g i off b a)
 |.d (.sc (.pointer (some ad)))=>K (.d (.sc (.pointer (some ad))))
 |.cl (.func f) first ak=>K (.cl (.func f) first ak)
 |_=>False
def x6 (e0:V) (b a:Nat):V :=
 match e0 with
 |.pp id g i off b' a'=>if b'=b∧a'≤a then .rf id g i (off+(a-a')) else .d (.sc (.pointer (some ⟨b,a,none⟩)))
 |_=>.d (.sc (.pointer (some ⟨b,a,none⟩)))
def rG (e0 p:V):V :=
 match p with
 |.d (.sc (.pointer (some ⟨b,a,none⟩)))=>x6 e0 b a
 |p=>p
theorem FQ {σ:Gh}{s:List Obj}{w:World}{e0 p:V}{u0 u:Value} (h0:aI σ s w e0 u0) (hp:aI σ s w p u):aI σ s w (rG e0 p) u:=by
 unfold rG
 split
 ·rename_i b a
  unfold x6
  split
  ·split
   ·rename_i id g i off b' a' hc
    obtain⟨rfl,hle⟩:=hc
    cases hp with|d hp=>?_
    cases hp with|sc _ _=>?_
    cases h0 with
    |pp o ho hg hk =>
     refine .rf o ho hg rfl fun he=>?_
     obtain⟨base,k1,k2,k3⟩:=hk he
     exact⟨b',base,k1,k2,by congr 3;omega⟩
   ·exact hp
  ·exact hp
 ·exact hp
def fN (x:V) (A B:Prop):Prop :=
 match x with
 |.d (.sc (.bool b))=>(b=true→A)∧(b=false→B)
 |_=>False
def sx (x:V) (i:Nat) (K:V→Prop):Prop :=
 match x with
 |.tu vs=>match vs[i]? with
  |some v=>K v
  |none=>False
 |_=>False
def da (P:Program) (o:Oper) (e:Nat→V) (s:List Obj) (K:V→List Obj→Prop):Prop :=
 match o.op with
 |.move x=>K (ev e x) s
 |.assign x=>K (ev e x) s
 |.pick c a b=>fN (ev e c) (K (ev e a) s) (K (ev e b) s)
 |.alloc t=>m5 P t s K
 |.box _ x=>vz s (ev e x) K
 |.build t parts=>m9 P t (parts.toList.map fun p=>(p.1,ev e p.2)) fun v=>K v s
 |.buildSlice t n parts=>eT P t n (parts.toList.map fun p=>(p.1,ev e p.2)) s K
 |.load t a=>jv P t s (rG (e 0) (ev e a)) fun v=>K v s
 |.store t a x=>fW P t s (ev e a) (ev e x) fun s'=>K .un s'
 |.nilCheck x=>ic s (ev e x) fun v=>K v s
 |.binOp op t x y _=>bif KC y then gf P op t (ev e x) (fun v=>K v s) else mM P op t s (ev e x) (ev e y) fun v=>K v s
 |.unOp op _ x=>vX op (ev e x) fun v=>K v s
 |.convert src dst x=>nm P src dst (ev e x) fun v=>K v s
 |.makeFunc fn first ak=>K (.cl fn (first.toList.map (ev e)) (ak.toList.map (ev e))) s
 |.makeSlice t l c=>fw P t (ev e l) (ev e c) s K
 |.slice t x lo hi mx=>jh P t (ev e x) (lo.map (ev e)) (hi.map (ev e)) (mx.map (ev e)) s fun v=>K v s
 |.fieldAddr t x f=>ez P t s (ev e x) f fun v=>K v s
 |.field t x f=>jU P t (ev e x) f fun v=>K v s
 |.indexAddr t x i=>dF P t s (ev e x) (ev e i) fun v=>K v s
 |.index t x i=>iz P t (ev e x) (ev e i) fun v=>K v s
 |.extract x i=>sx (ev e x) i fun v=>K v s
 |.call c=>gk P c e s K
 |.makeMap t r=>lj P t r s K
 |.lookup t x i ok=>bif ok then False else gJ P t s (ev e x) (ev e i) fun v=>K v s
 |.mapUpdate t m k x=>rv P t s (ev e m) (ev e k) (ev e x) fun s'=>K .un s'
 |.insert t m k x=>rv P t s (ev e m) (ev e k) (ev e x) fun s'=>K .un s'
 |_=>False
def fE (σ:Gh) (s:List Obj) (w:World) (N:Nat) (e:Nat→V) (a:Act):Prop :=
 a.defers=[]∧a.tmps.size=N∧∀t,aI σ s w (e t) (a.tmps.getD t undef)
theorem fE.ev {σ s w N e a} (h:fE σ s w N e a) (x:Operand):aI σ s w (ev e x) (a.eval x):=by
 cases x with
 |tmp t=>exact h.2.2 t
 |const v=>exact L0 v
 |global g=>exact .any
 |func f=>exact .cl rfl (fun i x hx=>by simp at hx) rfl (fun i x hx=>by simp at hx)
def rB (P:Program) (o:Oper) (σ:Gh) (s:List Obj) (w:World) (a:Act) (K:V→List Obj→Prop):Prop :=
 o.wp P a w (fun a' w'=>∃u v σ' s',a'=a.put o.dst u∧aY σ s w σ' s' w'∧Inv σ' s' w'∧aI σ' s' w' v u∧K v s') (fun _ _ _=>False)
theorem fO {P:Program}{o:Oper}{σ:Gh}{s:List Obj}{w:World}{a:Act}{K:V→List Obj→Prop}{u:Value}{v:V}{σ':Gh}{s':List Obj}{w':World} (hr:(execOp a.eval o).run P w=.ok (.value u) w')
  (hE:aY σ s w σ' s' w') (hI:Inv σ' s' w') (hv:aI σ' s' w' v u) (hK:K v s'):rB P o σ s w a K:=by
 unfold rB Oper.wp
 rw[hr,Oper.upon_value]
 exact⟨u,v,σ',s',rfl,hE,hI,hv,hK⟩
theorem wS {σ:Gh}{s:List Obj}{w:World}{N:Nat}{e:Nat→V}{a:Act} (h:fE σ s w N e a) (l:List Operand):∀(i:Nat) (x:V),(l.map (ev e))[i]?=some x→∃u,(l.map a.eval)[i]?=some u∧aI σ s w x u:=by
 intro i x hx
 rw[Xd]at hx ⊢
 obtain⟨y,hy,rfl⟩:=Option.map_eq_some_iff.1 hx
 rw[hy]
 exact⟨_,rfl,h.ev y⟩
theorem As {σ:Gh}{s:List Obj}{w:World}{N:Nat}{e:Nat→V}{a:Act} (h:fE σ s w N e a) (l:List (Nat×Operand)) :
  ∀(j:Nat) i x,(l.map fun p=>(p.1,ev e p.2))[j]?=some (i,x)→∃u,(l.map fun p=>(p.1,a.eval p.2))[j]?=some (i,u)∧aI σ s w x u:=by
 intro j i x hx
 rw[Xd]at hx ⊢
 obtain⟨y,hy,h'⟩:=Option.map_eq_some_iff.1 hx
 simp only[Xs]at h'
 obtain⟨rfl,rfl⟩:=h'
 rw[hy]
 exact⟨_,rfl,h.ev y.2⟩
theorem DT {P:Program}{o:Oper}{σ:Gh}{s:List Obj}{w:World}{a:Act}{K:V→List Obj→Prop}{f:FuncId}{vals:Array Value}{args:List V} (hr:(execOp a.eval o).run P w=(callFunc f vals).run P w)
  (hI:Inv σ s w) (hl:vals.size=args.length) (hv:∀(i:Nat) (x:V),args[i]?=some x→aI σ s w x (vals.getD i undef)) (h:av P f args s K):rB P o σ s w a K:=by
 unfold rB Oper.wp
 rw[hr,Bl h.1,Oper.upon_enter]
 refine(h.2 σ w vals hI hl hv).mono fun e w' ⟨u,v,σ',s',he,hE,jN,hR,hK⟩=>?_
 subst he
 exact⟨u,v,σ',s',rfl,hE,jN,hR,hK⟩
theorem oq {l:List Value}{i:Nat}{u:Value} (h:l[i]?=some u) (d:Value):l.toArray.getD i d=u:=by
 have aS:=(List.getElem?_eq_some_iff.1 h).1
 have:=(List.getElem?_eq_some_iff.1 h).2
 simp [Array.getD,aS,this]
theorem w5 {P:Program}{N:Nat}{o:Oper}{σ:Gh}{s:List Obj}{w:World}{e:Nat→V}{a:Act}{K:V→List Obj→Prop} (hI:Inv σ s w) (hR:fE σ s w N e a) (h:da P o e s K):rB P o σ s w a K:=by
 obtain⟨dst,op,ty,pos,after,guard⟩:=o
 have ro:∀{v:V}{c:Value}{s1:Sem Value},s1.run P w=.ok c w→(do pure (Next.value (← s1)):Sem Next).run P w=.ok (.value c) w:=fun h=>by simp [h]
 have r1:∀{c:Value}{w':World}{s1:Sem Value},s1.run P w=.ok c w'→(do pure (Next.value (← s1)):Sem Next).run P w=.ok (.value c) w':=fun h=>by simp [h]
 have same:∀{v:V}{c:Value},(execOp a.eval ⟨dst,op,ty,pos,after,guard⟩).run P w=.ok (.value c) w→aI σ s w v c→K v s→rB P ⟨dst,op,ty,pos,after,guard⟩ σ s w a K :=
  fun hr hv hk=>fO hr (aY.refl _ _ _) hI hv hk
 cases op <;> simp only[da]at h
 case move x=>exact same (by simp [execOp]) (hR.ev x) h
 case assign x=>exact same (by simp [execOp]) (hR.ev x) h
 case pick c x y =>
  unfold fN at h
  split at h
  ·rename_i b hb
   have hc:=hR.ev c
   rw[hb]at hc
   generalize su:a.eval c=OZ at hc
   cases hc with|d hc=>?_
   cases hc with|sc _ _=>?_
   cases b
   ·exact same (c:=a.eval y) (by simp [execOp,su,asBool]) (hR.ev y) (h.2 rfl)
   ·exact same (c:=a.eval x) (by simp [execOp,su,asBool]) (hR.ev x) (h.1 rfl)
  ·exact h.elim
 case alloc t =>
  obtain⟨v,c,σ',s',w',k1,k2,k3,k4,k5⟩:=Cl hI h
  exact fO (by simp only[execOp];exact r1 k1) k2 k3 k4 k5
 case box t x =>
  obtain⟨v,c,σ',s',w',k1,k2,k3,k4,k5⟩:=Hw (P:=P) (t:=t) hI (hR.ev x) h
  exact fO (by simp only[execOp];exact r1 k1) k2 k3 k4 k5
 case build t parts =>
  obtain⟨v,c,k1,k2,k3⟩:=B7 (by simp) (As hR parts.toList) h
  refine same (c:=c) ?_ k2 k3
  simp only[execOp]
  refine r1 ?_
  rw[← List.map_toArray]at k1
  simpa using k1
 case buildSlice t n parts =>
  obtain⟨v,c,σ',s',w',k1,k2,k3,k4,k5⟩:=u4 hI (by simp) (As hR parts.toList) h
  refine fO ?_ k2 k3 k4 k5
  simp only[execOp]
  refine r1 ?_
  rw[← List.map_toArray]at k1
  simpa using k1
 case load t x =>
  obtain⟨v,c,k1,k2,k3⟩:=x3 hI (FQ (hR.2.2 0) (hR.ev x)) h
  exact same (by simp only[execOp];exact r1 k1) k2 k3
 case store t x y =>
  obtain⟨s',w',k1,k2,k3,k4⟩:=D8 hI (hR.ev x) (hR.ev y) h
  unfold rB Oper.wp
  simp only[execOp,Sem.run_bind,k1,Result.andThen_ok,Sem.run_pure,Oper.upon_skip]
  exact⟨undef,.un,σ,s',rfl,k2,k3,.un,k4⟩
 case nilCheck x =>
  unfold ic at h
  have hx:=hR.ev x
  split at h
  ·rename_i rV
   rw[rV]at hx
   generalize su:a.eval x=OZ at hx
   cases hx with|d hx=>?_
   cases hx with|el _ ad f h1 h2 h3=>?_
   exact same (c:=.pointer (some ad)) (by simp [execOp,su]) (.d (.el _ ad f h1 h2 h3)) h
  ·rename_i rV
   obtain⟨o,ho,hg,h⟩:=eD h
   rw[rV]at hx
   obtain⟨b,base,_,_,hp⟩:=FC hx ho hg
   exact same (c:=a.eval x) (by simp [execOp,hp]) hx h
  ·rename_i rV
   obtain⟨o,ho,hg,h⟩:=eD h
   rw[rV]at hx
   have hp:=hx.xl
   exact same (c:=a.eval x) (by simp [execOp,hp]) hx h
  ·rename_i rV
   rw[rV]at hx
   generalize su:a.eval x=OZ at hx
   cases hx with|d hx=>?_
   cases hx with|sc _ hv=>?_
   exact same (by simp [execOp,su]) (.d (.sc _ hv)) h
  ·rename_i rV
   rw[rV]at hx
   generalize su:a.eval x=OZ at hx
   cases hx with|cl h1 h2 h3 h4=>?_
   exact same (c:=.func _ _ _) (by simp [execOp,su]) (.cl h1 h2 h3 h4) h
  ·exact h.elim
 case binOp op t x y yt =>
  cases hn:KC y with
  |true =>
   simp only[hn,cond_true]at h
   have hy:y=.const (.slice none 0 0):=by
    unfold KC at hn
    split at hn
    ·rfl
    ·cases hn
   subst hy
   obtain⟨v,c,k1,k2,k3⟩:=DX (xo:=x) (yo:=.const (.slice none 0 0)) (hR.ev x) h
   exact same (by simp only[execOp];exact r1 k1) k2 k3
  |false =>
   simp only[hn,cond_false]at h
   obtain⟨v,c,k1,k2,k3⟩:=Hu (xo:=x) (yo:=y) (hR.ev x) (hR.ev y) h
   exact same (by simp only[execOp];exact r1 k1) k2 k3
 case unOp op t x =>
  obtain⟨v,c,k1,k2,k3⟩:=Js (P:=P) (hR.ev x) h
  exact same (by simp only[execOp];exact r1 k1) k2 k3
 case convert src d x =>
  obtain⟨v,c,k1,k2,k3⟩:=FF (hR.ev x) h
  exact same (by simp only[execOp];exact r1 k1) k2 k3
 case makeFunc fn first ak =>
  have key:∀(l:Array Operand) (i:Nat) (x:V),(l.toList.map (ev e))[i]?=some x→aI σ s w x ((l.map a.eval).getD i undef):=by
   intro l i x hx
   obtain⟨u,h1,h2⟩:=wS hR l.toList i x hx
   have:=oq h1 undef
   rw[← List.map_toArray]at this
   simp only[Array.toArray_toList]at this
   rw[this];exact h2
  refine same (c:=.func fn (first.map a.eval) (ak.map a.eval)) (by simp [execOp,Instr.makeFunc]) (.cl (by simp) (key first) (by simp) (key ak)) h
 case makeSlice t l c =>
  obtain⟨v,r,σ',s',w',k1,k2,k3,k4,k5⟩:=vH hI (hR.ev l) (hR.ev c) h
  exact fO (by simp only[execOp];exact r1 k1) k2 k3 k4 k5
 case slice t x lo hi mx =>
  have opt:∀(y:Option Operand) (v:V),y.map (ev e)=some v→∃c,y.map a.eval=some c∧aI σ s w v c:=by
   intro y v hv
   cases y with
   |none=>cases hv
   |some y=>simp only[XE,WX]at hv;subst hv;exact⟨_,rfl,hR.ev y⟩
  have N8:∀(y:Option Operand),y.map (ev e)=none→y.map a.eval=none:=by
   intro y hv
   cases y with
   |none=>rfl
   |some y=>cases hv
  obtain⟨v,c,k1,k2,k3⟩:=Dz (hR.ev x) (opt lo) (N8 lo) (opt hi) (N8 hi) (opt mx) (N8 mx) h
  exact same (by simp only[execOp];exact r1 k1) k2 k3
 case fieldAddr t x f =>
  obtain⟨v,c,k1,k2,k3⟩:=vK (hR.ev x) h
  exact same (by simp only[execOp];exact r1 k1) k2 k3
 case field t x f =>
  obtain⟨v,c,k1,k2,k3⟩:=CG (hR.ev x) h
  exact same (by simp only[execOp];exact r1 k1) k2 k3
 case indexAddr t x i =>
  obtain⟨v,c,k1,k2,k3⟩:=vL (hR.ev x) (hR.ev i) h
  exact same (by simp only[execOp];exact r1 k1) k2 k3
 case index t x i =>
  obtain⟨v,c,k1,k2,k3⟩:=DK (hR.ev x) (hR.ev i) h
  exact same (by simp only[execOp];exact r1 k1) k2 k3
 case extract x i =>
  unfold sx at h
  have hx:=hR.ev x
  split at h
  case h_2=>exact h.elim
  rename_i vs rV
  rw[rV]at hx
  split at h
  case h_2=>exact h.elim
  rename_i v hv
  generalize su:a.eval x=OZ at hx
  cases hx with|tu h1 h2=>?_
  rename_i arr
  have aS:=(List.getElem?_eq_some_iff.1 hv).1
  obtain⟨c,hc⟩:∃c,arr[i]?=some c:=⟨arr[i]'(by omega),by rw[Array.getElem?_eq_getElem]⟩
  have hd:arr.getD i undef=c:=by rw[Xc,hc];rfl
  exact same (c:=c) (by simp [execOp,su,Instr.extract,hc]) (by rw[← hd];exact h2 i v hv) h
 case makeMap t r =>
  obtain⟨v,c,σ',s',w',k1,k2,k3,k4,k5⟩:=y8 (P:=P) hI h
  have hr:r=none:=h.1
  subst hr
  exact fO (by simp only[execOp,Option.map_none];exact r1 k1) k2 k3 k4 k5
 case lookup t x i ok =>
  cases ok with
  |true=>exact h.elim
  |false =>
   simp only[cond_false]at h
   obtain⟨v,c,k1,k2,k3⟩:=Bx hI (hR.ev x) (hR.ev i) h
   exact same (by simp only[execOp];exact r1 k1) k2 k3
 case mapUpdate t x y z =>
  obtain⟨s',w',k1,k2,k3,k4⟩:=zx hI (hR.ev x) (hR.ev y) (hR.ev z) h
  unfold rB Oper.wp
  simp only[execOp,Sem.run_bind,k1,Result.andThen_ok,Sem.run_pure,Oper.upon_skip]
  exact⟨undef,.un,σ,s',rfl,k2,k3,.un,k4⟩
 case insert t x y z =>
  obtain⟨s',w',k1,k2,k3,k4⟩:=zx hI (hR.ev x) (hR.ev y) (hR.ev z) h
  unfold rB Oper.wp
  simp only[execOp,Sem.run_bind,k1,Result.andThen_ok,Sem.run_pure,Oper.upon_skip]
  exact⟨undef,.un,σ,s',rfl,k2,k3,.un,k4⟩
 case call c =>
  obtain⟨callee,args,argTypes⟩:=c
  unfold gk at h
  have F4:∀(l:List Operand),l=args.toList→∀(i:Nat) (x:V),(l.map (ev e))[i]?=some x→∃u,(args.map a.eval).toList[i]?=some u∧aI σ s w x u:=by
   rintro l rfl i x hx
   obtain⟨u,h1,h2⟩:=wS hR args.toList i x hx
   exact⟨u,by simpa using h1,h2⟩
  split at h
  ·rename_i f hf
   simp only at hf
   subst hf
   refine DT (f:=f) (vals:=args.map a.eval) (by
    rw[execOp_call_go,Array.empty_append,Array.append_empty]) hI (by simp) (fun i x hx=>?_) h
   obtain⟨u,h1,h2⟩:=F4 _ rfl i x hx
   have:=oq h1 undef
   simp only[Array.toArray_toList]at this
   rw[this];exact h2
  ·rename_i f _ hf
   simp only at hf
   subst hf
   split at h
   ·rename_i g first ak cK
    have hx:=Hm (hR.2.2 0) (hR.ev f)
    rw[cK]at hx
    generalize su:a.eval f=OZ at hx
    cases hx with|cl h1 h2 h3 h4=>?_
    rename_i f' c'
    refine DT (f:=g) (vals:=f'++args.map a.eval++c') (by
     simp [execOp,resolve,su,Deferred.ofValue,invoke]) hI (by simp [h1,h3]) (fun i x hx=>?_) h
    have gd:∀(arr:Array Value) (j:Nat),j<arr.size→arr[j]?=some (arr.getD j undef):=fun arr j hj=>by simp [Array.getD,hj]
    by_cases e7:i<first.length
    ·rw[Xx,Xg e7]at hx
     have:(f'++args.map a.eval++c').getD i undef=f'.getD i undef:=by
      rw[Xc,Array.append_assoc,Array.getElem?_append_left (by omega),Xc]
     rw[this];exact h2 i x hx
    ·rw[Xx,Xm (by omega)]at hx
     simp only at hx
     by_cases QT:i-first.length<(args.toList.map (ev e)).length
     ·rw[Xg QT]at hx
      obtain⟨u,k1,k2⟩:=F4 _ rfl _ x hx
      have:(f'++args.map a.eval++c').getD i undef=u:=by
       rw[Xc,Array.append_assoc,Array.getElem?_append_right (by omega),Array.getElem?_append_left (by simp at QT ⊢;omega),h1]
       rw[XF]at k1
       rw[k1];rfl
      rw[this];exact k2
     ·rw[Xm (by omega)]at hx
      have:(f'++args.map a.eval++c').getD i undef=c'.getD (i-first.length-(args.toList.map (ev e)).length) undef:=by
       rw[Xc,Array.append_assoc,Array.getElem?_append_right (by omega),Array.getElem?_append_right (by simp at QT ⊢;omega),Xc]
       congr 2
       simp [h1]
      rw[this];exact h4 _ x hx
   ·exact h.elim
  ·rename_i b hb
   simp only at hb
   subst hb
   have iP:∀(l:List Operand),args.toList=l→args=l.toArray:=fun l hl=>by rw[← hl]
   have Mx:∀(l:List TypeId),argTypes.toList=l→argTypes=l.toArray:=fun l hl=>by rw[← hl]
   split at h
   ·rename_i x t h1 h2
    have e1:=iP _ h1
    have e2:=Mx _ h2
    subst e1;subst e2
    obtain⟨v,c,k1,k2,k3⟩:=HW (ty:=ty) (hR.ev x) h
    exact same (by simp [execOp,resolve,invoke,builtin,k1]) k2 k3
   ·rename_i x y t t' h1 h2
    have e1:=iP _ h1
    have e2:=Mx _ h2
    subst e1;subst e2
    obtain⟨rfl,h⟩:=h
    obtain⟨v,r,σ',s',w',k1,k2,k3,k4,k5⟩:=BD (ty:=ty) hI (hR.ev x) (hR.ev y) h
    exact fO (by simp [execOp,resolve,invoke,builtin,k1]) k2 k3 k4 k5
   ·rename_i x y t t' h1 h2
    have e1:=iP _ h1
    have e2:=Mx _ h2
    subst e1;subst e2
    obtain⟨rfl,h⟩:=h
    obtain⟨v,r,s',w',k1,k2,k3,k4,k5⟩:=Ft (ty:=ty) hI (hR.ev x) (hR.ev y) h
    exact fO (by simp [execOp,resolve,invoke,builtin,k1]) k2 k3 k4 k5
   ·rename_i x t h1 h2
    have e1:=iP _ h1
    have e2:=Mx _ h2
    subst e1;subst e2
    obtain⟨v,r,s',w',k1,k2,k3,k4,k5⟩:=Dx (ty:=ty) hI (hR.ev x) h
    exact fO (by simp [execOp,resolve,invoke,builtin,k1]) k2 k3 k4 k5
   ·rename_i x rest h1
    have e1:=iP _ h1
    subst e1
    obtain⟨v,r,k1,k2,k3⟩:=oh (P:=P) (mn:=true) (rest.map (ev e)) (rest.map a.eval) (ev e x) (a.eval x) _ (hR.ev x) (by simp) (wS hR rest) h
    simp only[if_true]at k1
    exact same (by simp [execOp,resolve,invoke,builtin,Builtin.min_,k1]) k2 k3
   ·rename_i x rest h1
    have e1:=iP _ h1
    subst e1
    obtain⟨v,r,k1,k2,k3⟩:=oh (P:=P) (mn:=false) (rest.map (ev e)) (rest.map a.eval) (ev e x) (a.eval x) _ (hR.ev x) (by simp) (wS hR rest) h
    simp only[W2,if_false]at k1
    exact same (by simp [execOp,resolve,invoke,builtin,Builtin.max_,k1]) k2 k3
   ·exact h.elim
  ·exact h.elim
abbrev Env:=Nat→V
def bW (e:Env) (d:Nat) (v:V):Env:=fun t=>if t=d then v else e t
def gE (e:Env) (d:Option Nat) (v:V):Env :=
 match d with
 |none=>e
 |some d=>bW e d v
def eg (N:Nat) (d:Option Nat):Prop :=
 match d with
 |none=>True
 |some d=>d<N
theorem fE.put {σ s w N e a} (h:fE σ s w N e a) {d:Option Nat} (hd:eg N d) {v:V}{u:Value} (hv:aI σ s w v u):fE σ s w N (gE e d v) (a.put d u):=by
 cases d with
 |none=>exact h
 |some d =>
  have RW:d<N:=hd
  refine⟨h.1,by simp [Act.put,h.2.1],fun t=>?_⟩
  simp only[Act.put,gE,bW]
  by_cases ht:t=d
  ·subst ht
   rw[if_pos rfl,Xc,Array.getElem?_setIfInBounds_self_of_lt (by rw[h.2.1];exact RW)]
   exact hv
  ·rw[if_neg ht,Xc,Array.getElem?_setIfInBounds_ne (Ne.symm ht),← Xc]
   exact h.2.2 t
def mX (M:Nat) (e:Env):Env:=fun t=>if (M >>> t) % 2=1 then e t else .any
theorem ba {M:Nat}{e:Env}{t:Nat}:mX M e t=if (M >>> t) % 2=1 then e t else .any:=(rfl)
theorem ll {M:Nat}{e:Env}{d:Nat}{v:V}:mX M (bW e d v)=if (M >>> d) % 2=1 then bW (mX M e) d v else mX M e:=by
 split <;> rename_i h <;> funext t <;> simp only[mX,bW]
 ·by_cases ht:t=d
  ·subst ht;simp [h]
  ·simp [ht]
 ·by_cases ht:t=d
  ·subst ht;simp [h]
  ·simp [ht]
theorem jO {M:Nat}{e:Env}:mX M (mX M e)=mX M e:=by
 funext t;simp only[mX];split <;> rfl
theorem fE.trim {σ s w N M e a} (h:fE σ s w N e a):fE σ s w N (mX M e) a:=by
 refine⟨h.1,h.2.1,fun t=>?_⟩
 unfold mX
 split
 ·exact h.2.2 t
 ·exact .any
theorem fE.bS {σ s w σ' s' w' N e a} (h:fE σ s w N e a) (hE:aY σ s w σ' s' w'):fE σ' s' w' N e a :=
 ⟨h.1,h.2.1,fun t=>(h.2.2 t).bS hE⟩
def jE (full:List Oper) (g:Nat):Option Nat :=
 match full[g]? with
 |some o=>o.dst
 |none=>none
def jr (d:Option Nat) (e:Env) (want:Bool) (A B:Env→Prop):Prop :=
 match d with
 |none=>False
 |some d=>match e d with
  |.d (.sc (.bool b))=>(b=want→A (bW e d (.d (.sc (.bool want)))))∧(b=(!want)→B (bW e d (.d (.sc (.bool (!want))))))
  |.un=>B e
  |_=>False
theorem fE.same {σ s w N e a} (h:fE σ s w N e a) {d:Nat}{v:V} (hv:e d=v):fE σ s w N (bW e d v) a:=by
 refine⟨h.1,h.2.1,fun t=>?_⟩
 unfold bW
 split
 ·rename_i ht;subst ht;rw[← hv];exact h.2.2 _
 ·exact h.2.2 t
theorem rQ {full:List Oper}{σ s w N e a} (h:fE σ s w N e a) {g:Nat}{want:Bool}{o:Oper} (ho:o.guard=some (g,want)) {A B:Env→Prop} (hg:jr (jE full g) e want A B) :
  ∃e',fE σ s w N e' a∧((Region.wanted o (yielded full.toArray a.tmps)=true∧A e')∨(Region.wanted o (yielded full.toArray a.tmps)=false∧B e')):=by
 unfold jr at hg
 unfold Region.wanted
 rw[ho]
 simp only
 split at hg
 case h_1=>exact hg.elim
 rename_i d hd
 unfold jE at hd
 split at hd
 case h_2=>cases hd
 rename_i og Pb
 have hr:=h.2.2 d
 split at hg
 ·rename_i b hb
  rw[hb]at hr
  generalize su:a.tmps.getD d undef=c at hr
  cases hr with|d hr=>?_
  cases hr with|sc _ _=>?_
  have J8:a.tmps[d]?=some (.bool b):=by
   rw[Xc]at su
   cases hx:a.tmps[d]? with
   |none=>rw[hx]at su;cases su
   |some y=>rw[hx]at su;simp only[Option.getD_some]at su;rw[su]
  have hy:yielded full.toArray a.tmps g=some b:=by simp [yielded,Pb,hd,J8]
  rw[hy]
  by_cases R4:b=want
  ·subst R4
   exact⟨_,h.same hb,.inl ⟨by simp,hg.1 rfl⟩⟩
  ·have Sc:b=!want:=by cases b <;> cases want <;> simp_all
   subst Sc
   exact⟨_,h.same hb,.inr ⟨by simp,hg.2 rfl⟩⟩
 ·rename_i hb
  rw[hb]at hr
  generalize su:a.tmps.getD d undef=c at hr
  cases hr
  have hy:yielded full.toArray a.tmps g=none:=by
   rw[Xc]at su
   cases hx:a.tmps[d]? with
   |none=>simp [yielded,Pb,hd,hx]
   |some y=>rw[hx]at su;simp only[Option.getD_some]at su;simp [yielded,Pb,hd,hx,su,undef]
  exact⟨e,h,.inr ⟨by rw[hy];rfl,hg⟩⟩
 ·exact hg.elim
def mu (P:Program) (N:Nat) (full:List Oper):List Oper→Env→List Obj→(Env→List Obj→Prop)→Prop
 |[],e,s,K=>K e s
 |o::rest,e,s,K=>eg N o.dst∧match o.guard with
  |none=>da P o e s fun v s'=>mu P N full rest (gE e o.dst v) s' K
  |some (g,want)=>jr (jE full g) e want (fun e=>da P o e s fun v s'=>mu P N full rest (gE e o.dst v) s' K) (fun e=>mu P N full rest (gE e o.dst .un) s K)
theorem Oper.Gd {P:Program}{o:Oper}{a:Act}{w:World}{K:Act→World→Prop}{Q:Exit→Act→World→Prop} (h:o.wp P a w K (fun _ _ _=>False)):o.wp P a w K Q:=by
 unfold Go.Oper.wp at *
 generalize (execOp a.eval o).run P w=r at *
 cases r with
 |ok n w' =>
  cases n <;> simp only[Oper.upon]at h ⊢ <;>
   first
    |exact h
    |exact Calls.mono h (fun e Tr he=>by
      cases e with
      |returned v=>exact he
      |panicked ch=>exact he.elim
      |outgrown=>obtain⟨_,_,h'⟩:=he;exact h'.elim)
 |halt x w'=>cases x <;> simp only[Oper.upon]at h ⊢
def QX (σ0:Gh) (s0:List Obj) (w0:World) (N:Nat) (Q:Exit→Env→List Obj→Prop):Exit→Act→World→Prop :=
 fun ex a w=>∃e σ s,aY σ0 s0 w0 σ s w∧Inv σ s w∧fE σ s w N e a∧Q ex e s
theorem pB {P:Program}{N:Nat}{full:List Oper}{σ0:Gh}{s0:List Obj}{w0:World}{Q:Exit→Env→List Obj→Prop}:∀(l:List Oper) (e:Env) (s:List Obj) (σ:Gh) (w:World) (a:Act),
  aY σ0 s0 w0 σ s w→Inv σ s w→fE σ s w N e a→mu P N full l e s (fun e s=>Q .normal e s)→wpList P full.toArray (QX σ0 s0 w0 N Q) l a w
 |[],e,s,σ,w,a,hE,hI,hR,h=>⟨e,σ,s,hE,hI,hR,h⟩
 |o::rest,e,s,σ,w,a,hE,hI,hR,h=>by
  obtain⟨hd,h⟩:=h
  have run:∀e,fE σ s w N e a→(da P o e s fun v s'=>mu P N full rest (gE e o.dst v) s' fun e s=>Q .normal e s)→o.wp P a w (wpList P full.toArray (QX σ0 s0 w0 N Q) rest) (QX σ0 s0 w0 N Q):=by
   intro e hR h
   refine Oper.wp_mono (fun a' w' ⟨u,v,σ',s',ha,x5,jN,rl,hK⟩=>?_) (Oper.Gd (w5 hI hR h))
   subst ha
   exact pB rest _ s' σ' w' _ (hE.trans x5) jN ((hR.bS x5).put hd rl) hK
  unfold wpList
  split at h
  ·rename_i hg
   rw[if_pos (by simp [Region.wanted,hg])]
   exact .inl (run e hR h)
  ·rename_i g want hg
   obtain⟨e',rl,⟨h1,h2⟩|⟨h1,h2⟩⟩:=rQ hR hg h
   ·rw[if_pos h1];exact .inl (run e' rl h2)
   ·rw[if_neg (by rw[h1];decide)]
    exact pB rest _ s σ w _ hE hI (rl.put hd .un) h2
def E0 (B:Env→List Obj→Prop) (Q:Exit→Env→List Obj→Prop):Exit→Env→List Obj→Prop
 |.normal,e,s=>B e s
 |x,e,s=>Q x e s
def HE (id:Nat) (Q:Exit→Env→List Obj→Prop):Exit→Env→List Obj→Prop
 |.exit i,e,s=>if i=id then Q .normal e s else Q (.exit i) e s
 |x,e,s=>Q x e s
def pA (x:V) (A B:Prop):Prop :=
 match x with
 |.d .ub=>A∧B
 |_=>fN x A B
def uB (P:Program) (N:Nat) (ops:List Oper) (e:Env) (s:List Obj) (K:Env→List Obj→Prop):Prop :=
 ∀(σ0:Gh) (s0:List Obj) (w0:World) (Q:Exit→Env→List Obj→Prop),(∀e s,K e s→Q .normal e s)→∀(σ:Gh) (w:World) (a:Act) (id:Nat),
  aY σ0 s0 w0 σ s w→Inv σ s w→fE σ s w N e a→(Code.region id ops.toArray true).wp P (QX σ0 s0 w0 N Q) a w
def dw (L:Nat) (e:Env) (s:List Obj) (e':Env) (s':List Obj):Prop :=
 ∀(σ0:Gh) (s0:List Obj) (w0:World) (σ:Gh) (w:World) (N:Nat) (a:Act),s0.length≤L→aY σ0 s0 w0 σ s w→Inv σ s w→fE σ s w N e a→∃σ',aY σ0 s0 w0 σ' s' w∧Inv σ' s' w∧fE σ' s' w N e' a
theorem dw.refl {L:Nat}{e:Env}{s:List Obj}:dw L e s e s:=fun _ _ _ σ _ _ _ _ hE hI hR=>⟨σ,hE,hI,hR⟩
theorem dw.trans {L:Nat}{e e' Rv:Env}{s s' Ar:List Obj} (h:dw L e s e' s') (k:dw L e' s' Rv Ar):dw L e s Rv Ar:=fun σ0 s0 w0 σ w N a hL hE hI hR =>
 let ⟨σ',h1,h2,h3⟩:=h σ0 s0 w0 σ w N a hL hE hI hR
 k σ0 s0 w0 σ' w N a hL h1 h2 h3
def N3 (L:Nat) (body:(Exit→Env→List Obj→Prop)→Env→List Obj→Prop) (Q:Exit→Env→List Obj→Prop) (e:Env) (s:List Obj):Prop :=
 ∃I:Nat→Env→List Obj→Prop,(∃n e1 s1,dw L e s e1 s1∧I n e1 s1)∧∀n e s,I n e s→body (E0 (fun e s=>∃m e1 s1,m<n∧dw L e s e1 s1∧I m e1 s1) Q) e s
def Ks (Q:Exit→Env→List Obj→Prop):Exit→Env→List Obj→Prop
 |.goto _,_,_=>False
 |ex,e,s=>Q ex e s
def codeWp (P:Program) (N L M:Nat):Code→(Exit→Env→List Obj→Prop)→Env→List Obj→Prop
 |.skip,Q,e,s=>Q .normal e s
 |.region _ ops draw,Q,e,s=>match draw with
  |false=>mu P N ops.toList ops.toList e s fun e s=>Q .normal e s
  |true=>uB P N ops.toList e s fun e s=>Q .normal e s
 |.seq a b,Q,e,s=>codeWp P N L M a (E0 (codeWp P N L M b Q) Q) e s
 |.cond c a b,Q,e,s=>pA (ev e c) (codeWp P N L M a Q (mX M e) s) (codeWp P N L M b Q (mX M e) s)
 |.block id c,Q,e,s=>codeWp P N L M c (HE id Q) e s
 |.loop c,Q,e,s=>N3 L (codeWp P N L M c) Q e s
 |.exit id,Q,e,s=>Q (.exit id) e s
 |.ret,Q,e,s=>Q .ret e s
 |.scope c,Q,e,s=>codeWp P N L M c (Ks Q) e s
 |.label _,Q,e,s=>Q .normal e s
 |_,_,_,_=>False
def Qn (Q:Exit→Env→List Obj→Prop) (e:Env) (s:List Obj):Prop:=Q .normal e s
def cont (P:Program) (N:Nat) (full rest:List Oper) (e:Env) (d:Option Nat) (K:Env→List Obj→Prop) (v:V) (s:List Obj):Prop:=mu P N full rest (gE e d v) s K
theorem tD {P:Program}{N:Nat}{full rest:List Oper}{e:Env}{d:Option Nat}{K:Env→List Obj→Prop}{v:V}{s:List Obj}:cont P N full rest e d K v s=mu P N full rest (gE e d v) s K:=(rfl)
theorem Bh {Q:Exit→Env→List Obj→Prop}{e:Env}{s:List Obj}:Qn Q e s=Q .normal e s:=(rfl)
theorem qD {P:Program}{N:Nat}{full:List Oper}{e:Env}{s:List Obj}{K:Env→List Obj→Prop}:mu P N full [] e s K=K e s:=(rfl)
theorem mF {P:Program}{N L M:Nat}{Q:Exit→Env→List Obj→Prop}{e:Env}{s:List Obj}:codeWp P N L M .skip Q e s=Q .normal e s:=(rfl)
theorem kj {P:Program}{N L M:Nat}{Q:Exit→Env→List Obj→Prop}{e:Env}{s:List Obj}{id:Nat}{ops:Array Oper}:codeWp P N L M (.region id ops false) Q e s=mu P N ops.toList ops.toList e s (Qn Q):=(rfl)
theorem mU {P:Program}{N L M:Nat}{Q:Exit→Env→List Obj→Prop}{e:Env}{s:List Obj}{id:Nat}{ops:Array Oper}:codeWp P N L M (.region id ops true) Q e s=uB P N ops.toList e s (Qn Q):=(rfl)
theorem oe {P:Program}{N L M:Nat}{Q:Exit→Env→List Obj→Prop}{e:Env}{s:List Obj}{a b:Code}:codeWp P N L M (.seq a b) Q e s=codeWp P N L M a (E0 (codeWp P N L M b Q) Q) e s:=(rfl)
theorem kQ {P:Program}{N L M:Nat}{Q:Exit→Env→List Obj→Prop}{e:Env}{s:List Obj}{id:Nat}{c:Code}:codeWp P N L M (.block id c) Q e s=codeWp P N L M c (HE id Q) e s:=(rfl)
theorem mN {P:Program}{N L M:Nat}{Q:Exit→Env→List Obj→Prop}{e:Env}{s:List Obj}{id:Nat}:codeWp P N L M (.exit id) Q e s=Q (.exit id) e s:=(rfl)
theorem oC {P:Program}{N L M:Nat}{Q:Exit→Env→List Obj→Prop}{e:Env}{s:List Obj}:codeWp P N L M .ret Q e s=Q .ret e s:=(rfl)
theorem mV {B:Env→List Obj→Prop}{Q:Exit→Env→List Obj→Prop}{e:Env}{s:List Obj}:E0 B Q .normal e s=B e s:=(rfl)
theorem sV {B:Env→List Obj→Prop}{Q:Exit→Env→List Obj→Prop}{e:Env}{s:List Obj}:E0 B Q .ret e s=Q .ret e s:=(rfl)
theorem qN {B:Env→List Obj→Prop}{Q:Exit→Env→List Obj→Prop}{e:Env}{s:List Obj}{i:Nat}:E0 B Q (.exit i) e s=Q (.exit i) e s:=(rfl)
theorem mC {Q:Exit→Env→List Obj→Prop}{e:Env}{s:List Obj}{i:Nat}:HE i Q .normal e s=Q .normal e s:=(rfl)
theorem tS {Q:Exit→Env→List Obj→Prop}{e:Env}{s:List Obj}{i:Nat}:HE i Q .ret e s=Q .ret e s:=(rfl)
theorem qL {Q:Exit→Env→List Obj→Prop}{e:Env}{s:List Obj}{i j:Nat}:HE i Q (.exit j) e s=if j=i then Q .normal e s else Q (.exit j) e s:=(rfl)
def Nc (L:Nat) (I:Nat→Env→List Obj→Prop) (n:Nat) (e:Env) (s:List Obj):Prop:=∃m e1 s1,m<n∧dw L e s e1 s1∧I m e1 s1
theorem aX {P:Program}{N L M:Nat}{c:Code}{Q:Exit→Env→List Obj→Prop}{e:Env}{s:List Obj} (I:Nat→Env→List Obj→Prop) (h0:∃n e1 s1,dw L e s e1 s1∧I n e1 s1) (h:∀n e s,I n e s→codeWp P N L M c (E0 (Nc L I n) Q) e s) :
  codeWp P N L M (.loop c) Q e s:=⟨I,h0,h⟩
theorem dB {P:Program}{N L M:Nat}{σ0:Gh}{s0:List Obj}{w0:World} (hL:s0.length≤L):∀(c:Code) (Q:Exit→Env→List Obj→Prop) (e:Env) (s:List Obj) (σ:Gh) (w:World) (a:Act),
  aY σ0 s0 w0 σ s w→Inv σ s w→fE σ s w N e a→codeWp P N L M c Q e s→c.wp P (QX σ0 s0 w0 N Q) a w
 |.skip,Q,e,s,σ,w,a,hE,hI,hR,h=>wp_skip ⟨e,σ,s,hE,hI,hR,h⟩
 |.region id ops false,Q,e,s,σ,w,a,hE,hI,hR,h=>by
  refine wp_region_list ?_
  have:=pB (Q:=Q) ops.toList e s σ w a hE hI hR h
  simpa using this
 |.region id ops true,Q,e,s,σ,w,a,hE,hI,hR,h=>by
  have:=h σ0 s0 w0 Q (fun _ _ h=>h) σ w a id hE hI hR
  simpa using this
 |.seq x y,Q,e,s,σ,w,a,hE,hI,hR,h=>by
  refine wp_seq (wp_mono (dB hL x _ e s σ w a hE hI hR h) fun ex a' w' ⟨e',σ',s',x5,jN,rl,hq⟩=>?_)
  cases ex with
  |normal=>exact dB hL y Q e' s' σ' w' a' x5 jN rl hq
  |_=>exact⟨e',σ',s',x5,jN,rl,hq⟩
 |.cond c x y,Q,e,s,σ,w,a,hE,hI,hR,h=>by
  simp only[codeWp,pA]at h
  split at h
  ·rename_i hb
   have hc:=hR.ev c
   rw[hb]at hc
   generalize su:a.eval c=OZ at hc
   cases hc with|d hc=>?_
   cases hc with|ub b=>?_
   refine wp_cond_split su (fun ht=>?_) (fun hf=>?_)
   ·exact dB hL x Q _ s σ w a hE hI hR.trim h.1
   ·exact dB hL y Q _ s σ w a hE hI hR.trim h.2
  unfold fN at h
  split at h
  ·rename_i b hb
   have hc:=hR.ev c
   rw[hb]at hc
   generalize su:a.eval c=OZ at hc
   cases hc with|d hc=>?_
   cases hc with|sc _ _=>?_
   refine wp_cond_split su (fun ht=>?_) (fun hf=>?_)
   ·exact dB hL x Q _ s σ w a hE hI hR.trim (h.1 ht)
   ·exact dB hL y Q _ s σ w a hE hI hR.trim (h.2 hf)
  ·exact h.elim
 |.block id c,Q,e,s,σ,w,a,hE,hI,hR,h=>by
  refine wp_block (wp_mono (dB hL c _ e s σ w a hE hI hR h) fun ex a' w' ⟨e',σ',s',x5,jN,rl,hq⟩=>?_)
  cases ex with
  |exit i =>
   simp only[Exit.inBlock]
   simp only[HE]at hq
   split
   ·rename_i hi;rw[if_pos hi]at hq;exact⟨e',σ',s',x5,jN,rl,hq⟩
   ·rename_i hi;rw[if_neg hi]at hq;exact⟨e',σ',s',x5,jN,rl,hq⟩
  |_=>exact⟨e',σ',s',x5,jN,rl,hq⟩
 |.loop c,Q,e,s,σ,w,a,hE,hI,hR,h=>by
  obtain⟨I,⟨n0,e0,V9,IL,h0⟩,db⟩:=h
  obtain⟨σ,hE,hI,hR⟩:=IL σ0 s0 w0 σ w N a hL hE hI hR
  let J:Nat→Act→World→Prop:=fun n a w=>∃e σ s,aY σ0 s0 w0 σ s w∧Inv σ s w∧fE σ s w N e a∧I n e s
  have least:∀a w,(∃n,J n a w)→∃n,J n a w∧∀m,J m a w→n≤m:=by
   intro a w ⟨n,hn⟩
   induction n using Nat.strongRecOn with
   |_ n ih =>
    by_cases hm:∃m,m<n∧J m a w
    ·obtain⟨m,rF,ss⟩:=hm;exact ih m rF ss
    ·exact⟨n,hn,fun m hj=>by
      rcases Xw m n with h'|h'
      ·exact absurd ⟨m,h',hj⟩ hm
      ·exact h'⟩
  classical
  let μ:Act→World→Nat:=fun a w=>if h:∃n,J n a w then Classical.choose (least a w h) else 0
  have hμ:∀a w,(∃n,J n a w)→J (μ a w) a w∧∀m,J m a w→μ a w≤m:=by
   intro a w h
   simp only[μ,dif_pos h]
   exact Classical.choose_spec (least a w h)
  refine wp_loop (fun a w=>∃n,J n a w) μ ⟨n0,e0,σ,V9,hE,hI,hR,h0⟩ fun a w hJ=>?_
  obtain⟨⟨e1,σ1,s1,Ls,VS,VH,hi⟩,_⟩:=hμ a w hJ
  refine wp_mono (dB hL c _ e1 s1 σ1 w a Ls VS VH (db _ _ _ hi)) fun ex a' w' ⟨e',σ',s',x5,jN,rl,hq⟩=>?_
  cases ex with
  |normal =>
   obtain⟨m,e2,s2,hm,hc,hi'⟩:=hq
   obtain⟨σ',x5,jN,rl⟩:=hc σ0 s0 w0 σ' w' N a' hL x5 jN rl
   have hj:J m a' w':=⟨e2,σ',s2,x5,jN,rl,hi'⟩
   exact⟨⟨m,hj⟩,Nat.lt_of_le_of_lt ((hμ a' w' ⟨m,hj⟩).2 m hj) hm⟩
  |_=>exact⟨e',σ',s',x5,jN,rl,hq⟩
 |.exit id,Q,e,s,σ,w,a,hE,hI,hR,h=>wp_exit ⟨e,σ,s,hE,hI,hR,h⟩
 |.ret,Q,e,s,σ,w,a,hE,hI,hR,h=>wp_ret ⟨e,σ,s,hE,hI,hR,h⟩
 |.rangeFunc ..,_,_,_,_,_,_,_,_,_,h=>h.elim
 |.scope c,Q,e,s,σ,w,a,hE,hI,hR,h=>by
  refine wp_scope_straight (wp_mono (dB hL c (Ks Q) e s σ w a hE hI hR h) fun ex a' w' ⟨e',σ',s',x5,jN,rl,hq⟩=>?_)
  cases ex with
  |goto l=>exact hq
  |_=>exact⟨e',σ',s',x5,jN,rl,hq⟩
 |.label _,Q,e,s,σ,w,a,hE,hI,hR,h=>wp_label ⟨e,σ,s,hE,hI,hR,h⟩
 |.goto _,_,_,_,_,_,_,_,_,_,h=>h.elim
 |.refuse _,_,_,_,_,_,_,_,_,_,h=>h.elim
def bN:Nat→Nat→List Obj→V→Option D
 |_,_,_,.d x=>some x
 |_,_,_,.fu aV=>some (.sl aV)
 |n+1,cE,s,.so id g lo m=>match s[id]? with
  |some o=>if o.g=g∧lo+m≤o.aV.length∧(cE≤id∨o.live=false) then
    (((o.aV.drop lo).take m).mapM fun (e:List V)=>e.mapM (bN n cE s)).map .sl else none
  |none=>none
 |n+1,cE,s,.rf id g k off=>match s[id]? with
  |some o=>if o.g=g∧(cE≤id∨o.live=false) then
    (match o.aV[k]? with
    |some e=>((e.drop off).mapM (bN n cE s)).map .el
    |none=>none) else none
  |none=>none
 |_,_,_,.pp _ _ _ _ b a=>some (.sc (.pointer (some ⟨b,a,none⟩)))
 |n+1,cE,s,.bx v=>(bN n cE s v).map fun x=>.el [x]
 |n+1,cE,s,.cl fn first ak=>match first.mapM (bN n cE s),ak.mapM (bN n cE s) with
  |some f,some c=>some (.cl fn f c)
  |_,_=>none
 |_,_,_,_=>none
theorem qb {σ:Gh}{s:List Obj}{w:World} (hI:Inv σ s w) (cE:Nat):∀(n:Nat) (x:V) (u:Value) (y:D),aI σ s w x u→bN n cE s x=some y→dj (Own σ (s.take cE)) w y u:=by
 have gN:∀b,Own σ (s.take cE) b→Own σ s b:=by
  rintro b (h|⟨id,o,base,h1,h2,h3⟩)
  ·exact .inl h
  ·rw[Xr]at h1
   split at h1
   ·exact .inr ⟨id,o,base,h1,h2,h3⟩
   ·cases h1
 intro n
 induction n with
 |zero =>
  intro x u y hr h
  cases hr <;> simp only[bN,WX]at h <;> first|(cases h;done)|(subst h;exact dj.own gN (by assumption))|(subst h;exact .sc _ rfl)
 |succ n ih =>
  intro x u y hr h
  cases hr with
  |d h'=>simp only[bN,WX]at h;subst h;exact dj.own gN h'
  |fu h'=>simp only[bN,WX]at h;subst h;exact dj.own gN h'
  |pp o ho hg hk=>simp only[bN,WX]at h;subst h;exact .sc _ rfl
  |bx h1 h2 h3 hu h4 =>
   simp only[bN]at h
   obtain⟨z,hz,rfl⟩:=Option.map_eq_some_iff.1 h
   rename_i v a u
   refine dj.el [z] a (fun _=>u) h1 (fun j x hx=>?_) (fun j x hx=>?_)
   ·cases j with
    |zero=>exact⟨h2,fun h'=>h3 (gN _ h')⟩
    |succ j=>simp at hx
   ·cases j with
    |zero=>simp at hx;subst hx;exact ih _ _ _ h4 hz
    |succ j=>simp at hx
  |cl h1 h2 h3 h4 =>
   simp only[bN]at h
   split at h
   case h_2=>cases h
   rename_i f c hf hc
   cases h
   obtain⟨f1,f2⟩:=iv hf
   obtain⟨c1,c2⟩:=iv hc
   refine .cl (by omega) (fun i x hx=>?_) (by omega) (fun i x hx=>?_)
   ·obtain⟨z,k1,k2⟩:=f2 i x hx
    exact ih _ _ _ (h2 i z k1) k2
   ·obtain⟨z,k1,k2⟩:=c2 i x hx
    exact ih _ _ _ (h4 i z k1) k2
  |so o ho hg hu hk =>
   rename_i id g lo m
   simp only[bN,ho]at h
   split at h
   case isFalse=>cases h
   rename_i hc
   obtain⟨sj,hlen,MP⟩:=hc
   obtain⟨aV,rk,rfl⟩:=Option.map_eq_some_iff.1 h
   obtain⟨m1,m2⟩:=iv rk
   have hl:aV.length=m:=by rw[m1];simp;omega
   rcases hk sj with ⟨ij,⟨a,rfl⟩,rfl,rfl⟩|⟨b,base,cap,E,arr,g1,g2,rfl,g4,g5⟩
   ·have:aV=[]:=Xb hl
    subst this
    cases a with
    |none=>exact .nil
    |some a=>exact dj.sl [] a 0 0 (fun _ _=>undef) (by simp) (by simp) (by simp) (by simp) (by simp)
   ·rcases hI.content _ o ho with h1|⟨b',cg,cZ,E',h1,h2,h3,h4,h5⟩
    ·exact(h1.EA g1 ⟨arr,E,g2⟩).elim
    rw[g1]at h1;cases h1
    rw[g2]at h2;cases h2
    have hO:¬Own σ (s.take cE) b:=by
     rintro (h|⟨jz,o',cg,k1,k2,k3⟩)
     ·exact hI.apart _ o b base ho g1 h
     ·rw[Xr]at k1
      split at k1
      ·rename_i aS
       have:=hI.inj jz id o' o b cg base k1 ho k2 k3 g1
       subst this
       rcases MP with h|h
       ·omega
       ·rw[ho]at k1;cases k1;rw[h]at k2;cases k2
      ·cases k1
    rw[← hl]
    refine dj.EP (sz:=o.sz) (by omega) (fun e he=>?_) hO (fun i j x hx=>?_)
    ·obtain⟨i,hi⟩:=List.mem_iff_getElem?.1 he
     obtain⟨e',k1,k2⟩:=m2 i e hi
     rw[(iv k2).1]
     exact h3 e' (List.mem_of_mem_drop (List.mem_of_mem_take (W6 k1)))
    ·cases hi:aV[i]? with
     |none=>rw[hi]at hx;cases hx
     |some e =>
      rw[hi]at hx
      obtain⟨e',k1,k2⟩:=m2 i e hi
      obtain⟨v,k3,k4⟩:=(iv k2).2 j x hx
      rw[Xr]at k1
      split at k1
      case isFalse=>cases k1
      rw[XL]at k1
      obtain⟨c,c1,c2,c3⟩:=h5 (lo+i) j v (by rw[k1];exact k3)
      refine⟨c,?_,ih v c x c3 k4⟩
      simp only[World.cell?,g2]
      rw[XO]at c1
      simpa [XX]using c1
  |rf o ho hg hu hk =>
   rename_i id g k off
   simp only[bN,ho]at h
   split at h
   case isFalse=>cases h
   rename_i hc
   obtain⟨sj,MP⟩:=hc
   split at h
   case h_2=>cases h
   rename_i e he
   obtain⟨cs,nI,rfl⟩:=Option.map_eq_some_iff.1 h
   obtain⟨m1,m2⟩:=iv nI
   obtain⟨b,base,g1,gC,rfl⟩:=hk sj
   rcases hI.content _ o ho with h1|⟨b',cg,cZ,E',h1,h2,h3,h4,h5⟩
   ·exact(h1.EA g1 gC).elim
   rw[g1]at h1;cases h1
   have hO:¬Own σ (s.take cE) b:=by
    rintro (h|⟨jz,o',cg,k1,k2,k3⟩)
    ·exact hI.apart _ o b base ho g1 h
    ·rw[Xr]at k1
     split at k1
     ·rename_i aS
      have:=hI.inj jz id o' o b cg base k1 ho k2 k3 g1
      subst this
      rcases MP with h|h
      ·omega
      ·rw[ho]at k1;cases k1;rw[h]at k2;cases k2
     ·cases k1
   have key:∀j x,cs[j]?=some x→∃c,w.cell? ⟨b,base+k*o.sz+off+j,none⟩=some c∧dj (Own σ (s.take cE)) w x c:=by
    intro j x hx
    obtain⟨v,k3,k4⟩:=m2 j x hx
    rw[XL]at k3
    obtain⟨c,c1,c2,c3⟩:=h5 k (off+j) v (by rw[he];exact k3)
    refine⟨c,?_,ih v c x c3 k4⟩
    simp only[World.cell?,h2]
    simpa [XX]using c1
   refine .el cs _ (fun j=>(w.cell? ⟨b,base+k*o.sz+off+j,none⟩).getD undef) rfl (fun j x hx=>⟨?_,hO⟩) (fun j x hx=>?_)
   ·obtain⟨c,h1,_⟩:=key j x hx
    simp only[h1,Option.getD_some]
   ·obtain⟨c,h1,VX⟩:=key j x hx
    simp only[h1,Option.getD_some]
    exact VX
  |_=>simp [bN]at h
def ao (cE:Nat):V→Bool
 |.d _|.fu _|.un=>true
 |.so id _ _ _=>decide (id<cE)
 |.rf id _ _ _=>decide (id<cE)
 |.pp id _ _ _ _ _=>decide (id<cE)
 |.mp id _=>decide (id<cE)
 |.ag cs=>go cs
 |.tu cs=>go cs
 |.bx v=>ao cE v
 |.cl _ first ak=>go first&&go ak
 |.any=>true
where go:List V→Bool
 |[]=>true
 |v::vs=>ao cE v&&go vs
theorem dx {cE:Nat}:∀{l:List V},ao.go cE l=true→∀(i:Nat) (x:V),l[i]?=some x→ao cE x=true
 |[],_,i,x,hx=>by simp at hx
 |v::vs,h,i,x,hx=>by
  simp only[ao.go,W7]at h
  cases i with
  |zero=>simp at hx;subst hx;exact h.1
  |succ i=>exact dx h.2 i x (by simpa using hx)
theorem aI.take {σ:Gh}{s:List Obj}{w:World}{cE:Nat}{x:V}{u:Value} (hr:aI σ s w x u) (h:ao cE x=true):aI σ (s.take cE) w x u:=by
 have gN:∀b,Own σ (s.take cE) b→Own σ s b:=by
  rintro b (h|⟨id,o,base,h1,h2,h3⟩)
  ·exact .inl h
  ·rw[Xr]at h1
   split at h1
   ·exact .inr ⟨id,o,base,h1,h2,h3⟩
   ·cases h1
 induction hr with
 |d hx=>exact .d (hx.own gN)
 |ag h1 h2 _ ih=>exact .ag h1 h2 fun i x hx=>ih i x hx (dx (by simpa only[ao]using h) i x hx)
 |tu h1 _ ih=>exact .tu h1 fun i x hx=>ih i x hx (dx (by simpa only[ao]using h) i x hx)
 |fu hx=>exact .fu (hx.own gN)
 |so o ho hg hu hk =>
  simp only[ao,decide_eq_true_eq]at h
  exact .so o (by rw[Xr,if_pos h];exact ho) hg hu hk
 |rf o ho hg hu hk =>
  simp only[ao,decide_eq_true_eq]at h
  exact .rf o (by rw[Xr,if_pos h];exact ho) hg hu hk
 |pp o ho hg hk =>
  simp only[ao,decide_eq_true_eq]at h
  exact .pp o (by rw[Xr,if_pos h];exact ho) hg hk
 |mp o ho hg hu hk =>
  simp only[ao,decide_eq_true_eq]at h
  exact .mp o (by rw[Xr,if_pos h];exact ho) hg hu hk
 |bx h1 h2 h3 hu _ ih=>exact .bx h1 h2 (fun h'=>h3 (gN _ h')) hu (ih (by simpa only[ao]using h))
 |cl h1 _ h3 _ wK fR =>
  simp only[ao,W7]at h
  exact .cl h1 (fun i x hx=>wK i x hx (dx h.1 i x hx)) h3 (fun i x hx=>fR i x hx (dx h.2 i x hx))
 |un=>exact .un
 |any=>exact .any
def aR (cE:Nat) (s:List Obj):V→Option V
 |.d x=>some (.d x)
 |.fu aV=>some (.d (.sl aV))
 |.so id g lo m=>match bN 8 cE s (.so id g lo m) with
  |some x=>some (.d x)
  |none=>if id<cE then some (.so id g lo m) else none
 |.rf id g i off=>match bN 8 cE s (.rf id g i off) with
  |some x=>some (.d x)
  |none=>if id<cE then some (.rf id g i off) else none
 |.pp id g i off b a=>if id<cE then some (.pp id g i off b a) else some (.d (.sc (.pointer (some ⟨b,a,none⟩))))
 |.mp id g=>if id<cE then some (.mp id g) else none
 |.ag cs=>(go cs).map .ag
 |.tu cs=>(go cs).map .tu
 |.bx v=>(bN 8 cE s (.bx v)).map .d
 |.cl fn first ak=>match bN 8 cE s (.cl fn first ak) with
  |some x=>some (.d x)
  |none=>if ao cE (.cl fn first ak) then some (.cl fn first ak) else none
 |.un=>some .un
 |.any=>some .any
where go:List V→Option (List V)
 |[]=>some []
 |v::vs=>match aR cE s v,go vs with
  |some v',some Un=>some (v'::Un)
  |_,_=>none
theorem oz {cE:Nat}{s:List Obj}:∀{l r:List V},aR.go cE s l=some r→r.length=l.length∧∀(i:Nat) (y:V),r[i]?=some y→∃x,l[i]?=some x∧aR cE s x=some y
 |[],r,h=>by simp [aR.go]at h;subst h;simp
 |v::vs,r,h=>by
  simp only[aR.go]at h
  split at h
  ·rename_i v' Un h1 h2
   simp only[WX]at h
   subst h
   obtain⟨k1,k2⟩:=oz h2
   refine⟨by simp [k1],fun i y hy=>?_⟩
   cases i with
   |zero=>simp at hy;subst hy;exact⟨v,rfl,h1⟩
   |succ i=>simpa using k2 i y (by simpa using hy)
  ·cases h
theorem lb {σ:Gh}{s:List Obj}{w:World} (hI:Inv σ s w) {cE:Nat}{x:V}{u:Value} (hr:aI σ s w x u):∀{y:V},aR cE s x=some y→aI σ (s.take cE) w y u:=by
 have gN:∀b,Own σ (s.take cE) b→Own σ s b:=by
  rintro b (h|⟨id,o,base,h1,h2,h3⟩)
  ·exact .inl h
  ·rw[Xr]at h1
   split at h1
   ·exact .inr ⟨id,o,base,h1,h2,h3⟩
   ·cases h1
 induction hr with
 |d hx=>intro y h;simp only[aR,WX]at h;subst h;exact .d (hx.own gN)
 |fu hx=>intro y h;simp only[aR,WX]at h;subst h;exact .d (hx.own gN)
 |so o ho hg hu hk =>
  intro y h
  simp only[aR]at h
  split at h
  ·rename_i z hz
   simp only[WX]at h
   subst h
   exact .d (qb hI cE 8 _ _ z (.so o ho hg hu hk) hz)
  ·split at h
   ·simp only[WX]at h
    subst h
    exact aI.take (.so o ho hg hu hk) (by simpa [ao]using ‹_›)
   ·cases h
 |rf o ho hg hu hk =>
  intro y h
  simp only[aR]at h
  split at h
  ·rename_i z hz
   simp only[WX]at h
   subst h
   exact .d (qb hI cE 8 _ _ z (.rf o ho hg hu hk) hz)
  ·split at h
   ·simp only[WX]at h
    subst h
    exact aI.take (.rf o ho hg hu hk) (by simpa [ao]using ‹_›)
   ·cases h
 |pp o ho hg hk =>
  intro y h
  simp only[aR]at h
  split at h
  ·simp only[WX]at h
   subst h
   exact aI.take (.pp o ho hg hk) (by simpa [ao]using ‹_›)
  ·simp only[WX]at h
   subst h
   exact .d (.sc _ rfl)
 |mp o ho hg hu hk =>
  intro y h
  simp only[aR]at h
  split at h
  ·simp only[WX]at h
   subst h
   exact aI.take (.mp o ho hg hu hk) (by simpa [ao]using ‹_›)
  ·cases h
 |ag h1 h2 _ ih =>
  intro y h
  simp only[aR]at h
  obtain⟨cs,nI,rfl⟩:=Option.map_eq_some_iff.1 h
  obtain⟨k1,k2⟩:=oz nI
  refine .ag (by omega) (fun i x hx=>?_) (fun i x hx=>?_)
  ·obtain⟨z,hz,_⟩:=k2 i x hx;exact h2 i z hz
  ·obtain⟨z,hz,Qc⟩:=k2 i x hx;exact ih i z hz Qc
 |tu h1 _ ih =>
  intro y h
  simp only[aR]at h
  obtain⟨cs,nI,rfl⟩:=Option.map_eq_some_iff.1 h
  obtain⟨k1,k2⟩:=oz nI
  refine .tu (by omega) (fun i x hx=>?_)
  obtain⟨z,hz,Qc⟩:=k2 i x hx;exact ih i z hz Qc
 |bx h1 h2 h3 hu h4 =>
  intro y h
  simp only[aR]at h
  obtain⟨z,hz,rfl⟩:=Option.map_eq_some_iff.1 h
  exact .d (qb hI cE 8 _ _ z (.bx h1 h2 h3 hu h4) hz)
 |cl h1 h2 h3 h4 =>
  intro y h
  simp only[aR]at h
  split at h
  ·rename_i z hz
   simp only[WX]at h
   subst h
   exact .d (qb hI cE 8 _ _ z (.cl h1 h2 h3 h4) hz)
  ·split at h
   ·simp only[WX]at h
    subst h
    exact aI.take (.cl h1 h2 h3 h4) (by assumption)
   ·cases h
 |un=>intro y h;simp only[aR,WX]at h;subst h;exact .un
 |any=>intro y h;simp only[aR,WX]at h;subst h;exact .any
def cU (cE:Nat) (o:Obj):Bool:=o.aV.all fun e=>e.all (ao cE)
def Gt (cE:Nat) (s:List Obj) (r:V) (K:V→List Obj→Prop):Prop :=
 (s.take cE).all (cU cE)=true∧match aR cE s r with
  |some r'=>K r' (s.take cE)
  |none=>False
theorem aY.take {σ s w σ' s' w'} (h:aY σ s w σ' s' w') {cE:Nat} (hl:s.length≤cE):aY σ s w σ' (s'.take cE) w':=by
 refine⟨h.os,h.tape,h.output,h.size,h.cb,h.shape,h.pD,fun b hb=>h.own b ?_,fun id o ho=>?_,h.base,h.ga⟩
 ·rcases hb with hb|⟨id,o,base,h1,h2,h3⟩
  ·exact .inl hb
  ·rw[Xr]at h1
   split at h1
   ·exact .inr ⟨id,o,base,h1,h2,h3⟩
   ·cases h1
 ·obtain⟨o',h1,h2⟩:=h.au id o ho
  have:=(List.getElem?_eq_some_iff.1 ho).1
  exact⟨o',by rw[Xr,if_pos (by omega)];exact h1,h2⟩
theorem Inv.take {σ:Gh}{s:List Obj}{w:World} (h:Inv σ s w) {cE:Nat} (ho:(s.take cE).all (cU cE)=true):Inv σ (s.take cE) w:=by
 have get:∀(id:Nat) (o:Obj),(s.take cE)[id]?=some o→s[id]?=some o:=by
  intro id o hh
  rw[Xr]at hh
  split at hh
  ·exact hh
  ·cases hh
 refine⟨fun id o hh=>?_,fun id jz o o' b base cg h1 h2=>h.inj id jz o o' b base cg (get _ _ h1) (get _ _ h2),h.low,fun id o b base h1=>h.apart id o b base (get _ _ h1)⟩
 rcases h.content id o (get _ _ hh) with h1|⟨b,base,arr,E,h1,h2,h3,h4,h5⟩
 ·exact .inl h1
 ·refine .inr ⟨b,base,arr,E,h1,h2,h3,h4,fun i j x hx=>?_⟩
  obtain⟨u,k1,k2,k3⟩:=h5 i j x hx
  refine⟨u,k1,k2,k3.take ?_⟩
  have hobj:=List.all_eq_true.1 ho o (W6 hh)
  cases xn:o.aV[i]? with
  |none=>rw[xn]at hx;cases hx
  |some e =>
   rw[xn]at hx
   exact List.all_eq_true.1 (List.all_eq_true.1 hobj e (W6 xn)) x (W6 hx)
def Fv (P:Program) (e:Env) (s:List Obj) (r:ResultVar) (K:V→Prop):Prop :=
 match r with
 |.tmp t=>K (e t)
 |.cell a t=>jv P t s (e a) K
def AJ (P:Program) (e:Env) (s:List Obj):List ResultVar→List V→(List V→Prop)→Prop
 |[],acc,K=>K acc
 |r::rs,acc,K=>Fv P e s r fun v=>AJ P e s rs (acc++[v]) K
def xf (P:Program) (rs:List ResultVar) (e:Env) (s:List Obj) (K:V→Prop):Prop :=
 AJ P e s rs [] fun vs=>match vs with
  |[v]=>K v
  |vs=>K (.tu vs)
def M3 (tmps:Array Value):ResultVar→Sem Value
 |.tmp t=>pure (tmps.getD t undef)
 |.cell x t=>do loadVar t (← asAddr (tmps.getD x undef))
theorem FK (fn:Func) (tmps:Array Value):results fn tmps=(do let vs ← fn.results.mapM (M3 tmps);pure (if h:vs.size=1 then vs[0] else .tuple vs)):=by
 unfold results
 congr 1
theorem EX {P:Program}{N:Nat}{σ:Gh}{s:List Obj}{w:World}{e:Env}{a:Act}{r:ResultVar}{K:V→Prop} (hI:Inv σ s w) (hR:fE σ s w N e a) (h:Fv P e s r K) :
  ∃v c,(M3 a.tmps r).run P w=.ok c w∧aI σ s w v c∧K v:=by
 cases r with
 |tmp t=>exact⟨e t,_,rfl,hR.2.2 t,h⟩
 |cell x t =>
  simp only[Fv]at h
  have hx:=hR.2.2 x
  generalize su:a.tmps.getD x undef=c at hx
  obtain⟨v,r,k1,k2,k3⟩:=x3 hI hx h
  have hp:∃ad,c=.pointer (some ad):=by
   unfold jv at h
   split at h
   ·exact h.elim
   ·split at h
    ·rename_i hh
     rw[hh]at hx
     cases hx with|d hx=>?_
     cases hx with|el _ ad _ _ _ _=>exact⟨ad,rfl⟩
    ·rename_i hh
     rw[hh]at hx
     cases hx with|bx _ _ _ _ _=>exact⟨_,rfl⟩
    ·rename_i hh
     rw[hh]at hx
     split at h
     ·exact h.elim
     ·rename_i o ho
      obtain⟨b,base,_,_,hp⟩:=FC hx ho h.1
      exact⟨_,hp⟩
    ·rename_i hh
     rw[hh]at hx
     exact⟨_,hx.xl⟩
    ·exact h.elim
  obtain⟨ad,rfl⟩:=hp
  refine⟨v,r,?_,k2,k3⟩
  simp only[M3,su,asAddr,Sem.run_bind,Sem.run_pure,Result.andThen_ok]
  simpa [Instr.loadAt,Instr.sureAddr]using k1
theorem xA {P:Program}{N:Nat}{σ:Gh}{s:List Obj}{w:World}{e:Env}{a:Act} (hI:Inv σ s w) (hR:fE σ s w N e a):∀(rs:List ResultVar) (acc:List V) (K:List V→Prop),AJ P e s rs acc K →
  ∃vs us,(rs.mapM (M3 a.tmps)).run P w=.ok us w∧us.length=vs.length ∧
   (∀(i:Nat) (x:V),vs[i]?=some x→∃u,us[i]?=some u∧aI σ s w x u)∧K (acc++vs)
 |[],acc,K,h=>⟨[],[],by simp,rfl,by simp,by simpa [AJ]using h⟩
 |r::rs,acc,K,h=>by
  simp only[AJ]at h
  obtain⟨v,c,k1,k2,k3⟩:=EX hI hR h
  obtain⟨vs,us,m1,m2,m3,m4⟩:=xA hI hR rs _ K k3
  refine⟨v::vs,c::us,?_,by simp [m2],fun i x hx=>?_,by simpa using m4⟩
  ·rw[X5,Sem.run_bind,k1,Result.andThen_ok,Sem.run_bind,m1,Result.andThen_ok]
   rfl
  ·cases i with
   |zero=>simp at hx;subst hx;exact⟨c,rfl,k2⟩
   |succ i=>simpa using m3 i x (by simpa using hx)
theorem ph {P:Program}{N:Nat}{σ:Gh}{s:List Obj}{w:World}{e:Env}{a:Act}{fn:Func}{K:V→Prop} (hI:Inv σ s w) (hR:fE σ s w N e a) (h:xf P fn.results.toList e s K) :
  ∃v c,(results fn a.tmps).run P w=.ok c w∧aI σ s w v c∧K v:=by
 obtain⟨vs,us,m1,m2,m3,m4⟩:=xA hI hR _ _ _ h
 have c8:(results fn a.tmps).run P w=.ok (if h:us.toArray.size=1 then us.toArray[0] else .tuple us.toArray) w:=by
  rw[FK]
  rw[← Array.toArray_toList (xs:=fn.results),List.mapM_toArray]
  simp only[Sem.run_bind,Sem.run_map,m1,Result.andThen_ok,Sem.run_pure]
 rw[c8]
 simp only[WS]at m4
 split at m4
 ·rename_i v
  have hlen:us.length=1:=by simpa using m2
  obtain⟨u,hu,Kt⟩:=m3 0 v rfl
  refine⟨v,u,?_,Kt,m4⟩
  rw[dif_pos (by simpa using hlen)]
  have:=(List.getElem?_eq_some_iff.1 hu).2
  simp [this]
 ·rename_i gr
  have hlen:us.length≠1:=by
   intro hh
   rw[m2]at hh
   match vs,hh,gr with
   |[v],_,gr=>exact gr v rfl
  refine⟨.tu vs,.tuple us.toArray,by rw[dif_neg (by simpa using hlen)],.tu (by simpa using m2) (fun i x hx=>?_),m4⟩
  obtain⟨u,hu,Kt⟩:=m3 i x hx
  rw[oq hu]
  exact Kt
def iu:List V→Env
 |[],_=>.un
 |v::_,0=>v
 |_::l,n+1=>iu l n
theorem qh:∀(l:List V) (t:Nat),iu l t=(l[t]?).getD .un
 |[],t=>by simp [iu]
 |v::l,0=>rfl
 |v::l,t+1=>by simp [iu,qh l t]
def vR:Exit→Prop
 |.normal=>True
 |.ret=>True
 |_=>False
theorem uM {ex:Exit} (h:vR ex):ex=.normal∨ex=.ret:=by
 cases ex <;> simp_all [vR]
def Ru (P:Program) (rs:List ResultVar) (cE:Nat) (K:V→List Obj→Prop) (ex:Exit) (e:Env) (s:List Obj):Prop:=vR ex∧xf P rs e s fun r=>Gt cE s r K
theorem tQ {P:Program}{rs:List ResultVar}{cE:Nat}{K:V→List Obj→Prop}{ex:Exit}{e:Env}{s:List Obj}:Ru P rs cE K ex e s=(vR ex∧xf P rs e s fun r=>Gt cE s r K):=rfl
theorem aw {P : Program} {f : FuncId} {fn : Func} {c : Code} {args : List V} {exts : List Obj} {K : V → List Obj → Prop} (hf : P.funcs[f]? = some fn) (hb : fn.body = some c) {N : Nat} (hN : fn.ntmps = N) {rs : Array ResultVar} (Qv : fn.results = rs) (hn : (fn.name != "runtime.NumGoroutine") = true)
  (cE M:Nat) (hl:exts.length≤cE) (ha:args.length≤N)
  (h:codeWp P N cE M c (Ru P rs.toList cE K) (iu args) exts):av P f args exts K:=by
 subst hN;subst Qv
 refine⟨by simp only[HP,hf,hn,hb,Option.isSome_some,Bool.and_self],fun σ w vals hI Px hv=>?_⟩
 refine calls_of_wp hf hb ?_
 have hR:fE σ exts w fn.ntmps (iu args) { tmps:=vals++Array.replicate (fn.ntmps-vals.size) undef,defers:=[] }:=by
  refine⟨rfl,by simp;omega,fun t=>?_⟩
  rw[qh]
  by_cases ht:t<args.length
  ·have h1:=hv t args[t] (by simp [ht])
   have:(vals++Array.replicate (fn.ntmps-vals.size) undef).getD t undef=vals.getD t undef:=by
    rw[Xc,Array.getElem?_append_left (by omega),Xc]
   rw[this]
   simpa [ht]using h1
  ·have:(vals++Array.replicate (fn.ntmps-vals.size) undef).getD t undef=undef:=by
    rw[Xc,Array.getElem?_append_right (by omega),Array.getElem?_replicate]
    split <;> rfl
   rw[this]
   simp [ht]
   exact .un
 refine wp_mono (dB hl c _ (iu args) exts σ w _ (aY.refl _ _ _) hI hR h) fun ex a' w' ⟨e',σ',s',hE,jN,rl,hex,hq⟩=>?_
 obtain⟨v,u,k1,k2,k3⟩:=ph jN rl hq
 obtain⟨h1,h2⟩:=k3
 have fin:a'.defers=[]∧∃v,(results fn a'.tmps).run P w'=.ok v w'∧∃u NG yj tK,Ending.returned v=.returned u∧aY σ exts w yj tK w'∧Inv yj tK w'∧aI yj tK w' NG u∧K NG tK:=by
  refine⟨rl.1,u,k1,?_⟩
  split at h2
  ·rename_i r' Pw
   exact⟨u,r',σ',s'.take cE,rfl,hE.take hl,jN.take h1,lb jN k2 Pw,h2⟩
  ·exact h2.elim
 rcases uM hex with rfl|rfl
 ·exact fin
 ·exact fin
theorem aj {P:Program}{f:FuncId}{args:List V}{s:List Obj}{K K':V→List Obj→Prop} (h:av P f args s K) (hk:∀v s',K v s'→K' v s'):av P f args s K' :=
 ⟨h.1,fun σ w vals hI hl hv=>(h.2 σ w vals hI hl hv).mono fun _ _ ⟨u,v,σ',s',a,b,c,d,e⟩=>⟨u,v,σ',s',a,b,c,d,hk v s' e⟩⟩
theorem aI.move {σ σ':Gh}{s s':List Obj}{w:World}{x:V}{u:Value} (hr:aI σ s w x u) (h:ao 0 x=true) (gN:∀b,Own σ' s' b→Own σ s b):aI σ' s' w x u:=by
 induction hr with
 |d hx=>exact .d (hx.own gN)
 |ag h1 h2 _ ih=>exact .ag h1 h2 fun i x hx=>ih i x hx (dx (by simpa only[ao]using h) i x hx)
 |tu h1 _ ih=>exact .tu h1 fun i x hx=>ih i x hx (dx (by simpa only[ao]using h) i x hx)
 |fu hx=>exact .fu (hx.own gN)
 |so o ho hg hu hk=>simp [ao]at h
 |rf o ho hg hu hk=>simp [ao]at h
 |pp o ho hg hk=>simp [ao]at h
 |mp o ho hg hu hk=>simp [ao]at h
 |bx h1 h2 h3 hu _ ih=>exact .bx h1 h2 (fun h'=>h3 (gN _ h')) hu (ih (by simpa only[ao]using h))
 |cl h1 _ h3 _ wK fR =>
  simp only[ao,W7]at h
  exact .cl h1 (fun i x hx=>wK i x hx (dx h.1 i x hx)) h3 (fun i x hx=>fR i x hx (dx h.2 i x hx))
 |un=>exact .un
 |any=>exact .any
theorem Ex (cE:Nat) (l:List D):ao.go cE (l.map .d)=true:=by
 induction l with
 |nil=>rfl
 |cons x l ih=>simp [ao.go,ao,ih]
def br (P:Program) (f:FuncId) (args:List V) (r:V):Prop:=av P f args [] fun v s'=>v=r∧s'=[]
theorem aD {P:Program}{f:FuncId}{args:List V}{r:V}{s:List Obj}{K:V→List Obj→Prop} (h:br P f args r) (ha:ao.go 0 args=true) (hr:ao 0 r=true) (hk:K r s):av P f args s K:=by
 refine⟨h.1,fun σ w vals hI hl hv=>?_⟩
 have e1:∀b,Own ⟨fun _=>none,Own σ s⟩ [] b→Own σ s b:=by
  rintro b (h|⟨id,o,base,h1,_⟩)
  ·exact h
  ·simp at h1
 refine(h.2 ⟨fun _=>none,Own σ s⟩ w vals ⟨fun id o ho=>by simp at ho,fun id _ o _ _ _ _ ho=>by simp at ho,fun b hb=>ud hI hb,fun id o _ _ ho=>by simp at ho⟩ hl
  (fun i x hx=>(hv i x hx).move (dx ha i x hx) e1)).mono fun e w' ⟨u,v,σ',s',he,hE,jN,hR,Jo,ra⟩=>?_
 subst Jo;subst ra
 have same:=sU (w':=w') hI hE.os hE.tape hE.output hE.size fun b hb=>by
  by_cases ho:Own σ s b
  ·exact hE.ga b hb ho
  ·exact hE.cb b hb fun h'=>ho (e1 b h')
 refine⟨u,_,σ,s,he,same.1,same.2,hR.move hr fun b hb=>.inl ?_,hk⟩
 rw[hE.base];exact hb
def bF (ρ:List Nat):V→V
 |.so id g lo n=>.so (ρ.getD id 0) g lo n
 |.rf id g i off=>.rf (ρ.getD id 0) g i off
 |.pp id g i off b a=>.pp (ρ.getD id 0) g i off b a
 |.mp id g=>.mp (ρ.getD id 0) g
 |.ag cs=>.ag (go cs)
 |.tu cs=>.tu (go cs)
 |.bx v=>.bx (bF ρ v)
 |.cl fn first ak=>.cl fn (go first) (go ak)
 |.d x=>.d x
 |.fu aV=>.fu aV
 |.un=>.un
 |.any=>.any
where go:List V→List V
 |[]=>[]
 |v::vs=>bF ρ v::go vs
theorem gx (ρ:List Nat):∀(l:List V),bF.go ρ l=l.map (bF ρ)
 |[]=>rfl
 |v::vs=>by simp [bF.go,gx ρ vs]
def bX (ρ:List Nat) (o:Obj):Obj:={ o with aV:=o.aV.map (bF.go ρ) }
def aZ (s:List Obj):List Nat→List Obj→List Obj
 |r::ρ,o::os=>aZ (s.set r o) ρ os
 |_,_=>s
theorem lU:∀(ρ:List Nat) (os:List Obj) (s:List Obj),(aZ s ρ os).length=s.length
 |[],_,s=>by simp [aZ]
 |r::ρ,[],s=>by simp [aZ]
 |r::ρ,o::os,s=>by simp [aZ,lU ρ os]
theorem fz:∀(ρ:List Nat) (os:List Obj) (s:List Obj) (id:Nat),id ∉ ρ→(aZ s ρ os)[id]?=s[id]?
 |[],_,s,id,_=>by simp [aZ]
 |r::ρ,[],s,id,_=>by simp [aZ]
 |r::ρ,o::os,s,id,h=>by
  simp only[List.mem_cons,not_or]at h
  simp only[aZ]
  rw[fz ρ os _ id h.2,XZ (Ne.symm h.1)]
theorem rL:∀(ρ:List Nat) (os:List Obj) (s:List Obj) (k r:Nat) (o:Obj),ρ.Nodup→ρ[k]?=some r→os[k]?=some o→r<s.length→(aZ s ρ os)[r]?=some o
 |[],_,s,k,r,o,_,h,_,_=>by simp at h
 |r'::ρ,[],s,k,r,o,_,_,h,_=>by simp at h
 |r'::ρ,o'::os,s,k,r,o,hn,h1,h2,h3=>by
  simp only[List.nodup_cons]at hn
  simp only[aZ]
  cases k with
  |zero =>
   simp only[W9,WX]at h1 h2
   subst h1;subst h2
   rw[fz ρ os _ r' hn.1,XK h3]
  |succ k=>exact rL ρ os _ k r o hn.2 (by simpa using h1) (by simpa using h2) (by simpa using h3)
section frame
variable {σ:Gh}{s exts:List Obj}{ρ:List Nat}{w:World}
theorem tT {σc:Gh} (uA:∀b,Own σc exts b→Own σ s b) (hs:∀(k:Nat) (o:Obj),exts[k]?=some o→s[ρ.getD k 0]?=some (bX ρ o)) (hσ:∀k,k<exts.length→σc k=σ (ρ.getD k 0))
  {y:V}{u:Value} (hr:aI σ s w y u):∀{x:V},bF ρ x=y→ao exts.length x=true→aI σc exts w x u:=by
 induction hr with
 |d hx=>intro x he hh;cases x <;> simp only[bF,reduceCtorEq,V.d.injEq]at he;subst he;exact .d (hx.own uA)
 |fu hx=>intro x he hh;cases x <;> simp only[bF,reduceCtorEq,V.fu.injEq]at he;subst he;exact .fu (hx.own uA)
 |un=>intro x he hh;cases x <;> simp only[bF,reduceCtorEq]at he;exact .un
 |any=>intro x he hh;cases x <;> simp only[bF,reduceCtorEq]at he;exact .any
 |ag h1 h2 _ ih =>
  intro x he hh
  cases x <;> simp only[bF,reduceCtorEq,V.ag.injEq]at he
  rename_i cs
  subst he
  rw[gx]at h1 h2 ih
  have g:∀(i:Nat) (x:V),cs[i]?=some x→(cs.map (bF ρ))[i]?=some (bF ρ x):=fun i x hx=>by rw[Xd,hx];rfl
  exact .ag (by simpa using h1) (fun i x hx=>h2 i _ (g i x hx)) (fun i x hx=>ih i _ (g i x hx) rfl (dx (by simpa only[ao]using hh) i x hx))
 |tu h1 _ ih =>
  intro x he hh
  cases x <;> simp only[bF,reduceCtorEq,V.tu.injEq]at he
  rename_i cs
  subst he
  rw[gx]at h1 ih
  have g:∀(i:Nat) (x:V),cs[i]?=some x→(cs.map (bF ρ))[i]?=some (bF ρ x):=fun i x hx=>by rw[Xd,hx];rfl
  exact .tu (by simpa using h1) (fun i x hx=>ih i _ (g i x hx) rfl (dx (by simpa only[ao]using hh) i x hx))
 |bx h1 h2 h3 hu _ ih =>
  intro x he hh
  cases x <;> simp only[bF,reduceCtorEq,V.bx.injEq]at he
  exact .bx h1 h2 (fun h'=>h3 (uA _ h')) hu (ih he (by simpa only[ao]using hh))
 |cl h1 _ h3 _ wK fR =>
  intro x he hh
  cases x <;> simp only[bF,reduceCtorEq,V.cl.injEq]at he
  rename_i fn first ak
  obtain⟨rfl,rfl,rfl⟩:=he
  rw[gx]at h1 wK h3 fR
  simp only[ao,W7]at hh
  have g:∀(cs:List V) (i:Nat) (x:V),cs[i]?=some x→(cs.map (bF ρ))[i]?=some (bF ρ x):=fun cs i x hx=>by rw[Xd,hx];rfl
  exact .cl (by simpa using h1) (fun i x hx=>wK i _ (g _ i x hx) rfl (dx hh.1 i x hx)) (by simpa using h3) (fun i x hx=>fR i _ (g _ i x hx) rfl (dx hh.2 i x hx))
 |so o ho hg hu hk =>
  intro x he hh
  cases x <;> simp only[bF,reduceCtorEq,V.so.injEq]at he
  rename_i id g lo n
  obtain⟨rfl,rfl,rfl,rfl⟩:=he
  simp only[ao,decide_eq_true_eq]at hh
  have hx:=hs id exts[id] (by simp [hh])
  rw[ho]at hx
  simp only[WX]at hx
  subst hx
  refine .so exts[id] (by simp [hh]) hg hu fun sj=>?_
  have:=hk sj
  unfold y6 at this ⊢
  rw[hσ id hh]
  exact this
 |rf o ho hg hu hk =>
  intro x he hh
  cases x <;> simp only[bF,reduceCtorEq,V.rf.injEq]at he
  rename_i id g lo n
  obtain⟨rfl,rfl,rfl,rfl⟩:=he
  simp only[ao,decide_eq_true_eq]at hh
  have hx:=hs id exts[id] (by simp [hh])
  rw[ho]at hx
  simp only[WX]at hx
  subst hx
  refine .rf exts[id] (by simp [hh]) hg hu fun sj=>?_
  rw[hσ id hh]
  exact hk sj
 |pp o ho hg hk =>
  intro x he hh
  cases x <;> simp only[bF,reduceCtorEq,V.pp.injEq]at he
  rename_i id g lo n b a
  obtain⟨rfl,rfl,rfl,rfl,rfl,rfl⟩:=he
  simp only[ao,decide_eq_true_eq]at hh
  have hx:=hs id exts[id] (by simp [hh])
  rw[ho]at hx
  simp only[WX]at hx
  subst hx
  refine .pp exts[id] (by simp [hh]) hg fun sj=>?_
  rw[hσ id hh]
  exact hk sj
 |mp o ho hg hu hk =>
  intro x he hh
  cases x <;> simp only[bF,reduceCtorEq,V.mp.injEq]at he
  rename_i id g
  obtain⟨rfl,rfl⟩:=he
  simp only[ao,decide_eq_true_eq]at hh
  have hx:=hs id exts[id] (by simp [hh])
  rw[ho]at hx
  simp only[WX]at hx
  subst hx
  refine .mp exts[id] (by simp [hh]) hg hu fun sj=>?_
  rw[hσ id hh]
  exact hk sj
theorem J0 {σ' σn:Gh}{s' sn:List Obj}{w':World} (uA:∀b,Own σn sn b→Own σ' s' b) (hs:∀(k:Nat) (o:Obj),s'[k]?=some o→sn[ρ.getD k 0]?=some (bX ρ o)) (hσ:∀k,k<s'.length→σn (ρ.getD k 0)=σ' k)
  {x:V}{u:Value} (hr:aI σ' s' w' x u):aI σn sn w' (bF ρ x) u:=by
 have g:∀(cs:List V) (i:Nat) (y:V),(cs.map (bF ρ))[i]?=some y→∃x,cs[i]?=some x∧bF ρ x=y:=fun cs i y hy=>by
  rw[Xd]at hy
  exact Option.map_eq_some_iff.1 hy
 induction hr with
 |d hx=>exact .d (hx.own uA)
 |fu hx=>exact .fu (hx.own uA)
 |un=>exact .un
 |any=>exact .any
 |ag h1 h2 _ ih =>
  simp only[bF,gx]
  refine .ag (by simpa using h1) (fun i y hy=>?_) (fun i y hy=>?_)
  ·obtain⟨x,hx,rfl⟩:=g _ i y hy;exact h2 i x hx
  ·obtain⟨x,hx,rfl⟩:=g _ i y hy;exact ih i x hx
 |tu h1 _ ih =>
  simp only[bF,gx]
  refine .tu (by simpa using h1) (fun i y hy=>?_)
  obtain⟨x,hx,rfl⟩:=g _ i y hy;exact ih i x hx
 |bx h1 h2 h3 hu _ ih=>simp only[bF];exact .bx h1 h2 (fun h'=>h3 (uA _ h')) hu ih
 |cl h1 _ h3 _ wK fR =>
  simp only[bF,gx]
  refine .cl (by simpa using h1) (fun i y hy=>?_) (by simpa using h3) (fun i y hy=>?_)
  ·obtain⟨x,hx,rfl⟩:=g _ i y hy;exact wK i x hx
  ·obtain⟨x,hx,rfl⟩:=g _ i y hy;exact fR i x hx
 |so o ho hg hu hk =>
  have aS:=(List.getElem?_eq_some_iff.1 ho).1
  refine .so (bX ρ o) (hs _ o ho) hg hu fun sj=>?_
  have:=hk sj
  unfold y6 at this ⊢
  rw[hσ _ aS]
  exact this
 |rf o ho hg hu hk =>
  have aS:=(List.getElem?_eq_some_iff.1 ho).1
  refine .rf (bX ρ o) (hs _ o ho) hg hu fun sj=>?_
  rw[hσ _ aS]
  exact hk sj
 |pp o ho hg hk =>
  have aS:=(List.getElem?_eq_some_iff.1 ho).1
  refine .pp (bX ρ o) (hs _ o ho) hg fun sj=>?_
  rw[hσ _ aS]
  exact hk sj
 |mp o ho hg hu hk =>
  have aS:=(List.getElem?_eq_some_iff.1 ho).1
  refine .mp (bX ρ o) (hs _ o ho) hg hu fun sj=>?_
  rw[hσ _ aS]
  exact hk sj
theorem Am {ρ:List Nat}{x:V}{y:D} (h:bF ρ x=.d y):x=.d y:=by
 cases x <;> simp_all [bF]
theorem Gx {ρ:List Nat}:∀{aV:List (List V)}{es:List MapEntry},aV.map (bF.go ρ)=(es.map fun e=>[V.d (.sc e.key),V.d (.sc e.val)])→aV=es.map fun e=>[V.d (.sc e.key),V.d (.sc e.val)]
 |[],[],_=>rfl
 |[],_::_,h=>by simp at h
 |_::_,[],h=>by simp at h
 |e::aV,x::es,h=>by
  simp only[WU,X4]at h ⊢
  obtain⟨h1,h2⟩:=h
  refine⟨?_,Gx h2⟩
  rw[gx]at h1
  match e,h1 with
  |[a,b],h1 =>
   simp only[WU,WV,X4,and_true]at h1
   rw[Am h1.1,Am h1.2]
  |[],h1=>simp at h1
  |[_],h1=>simp at h1
  |_::_::_::_,h1=>simp at h1
theorem qY.down {ρ:List Nat}{w:World}{p:Option (Nat×Nat)}{o:Obj} (h:qY w p (bX ρ o)):qY w p o:=by
 rcases h with ⟨h1,h2⟩|⟨b,es,c,h1,h2,h3⟩
 ·exact .inl ⟨h1,by simpa [bX]using h2⟩
 ·exact .inr ⟨b,es,c,h1,h2,Gx h3⟩
theorem qY.up {ρ:List Nat}{w:World}{p:Option (Nat×Nat)}{o:Obj} (h:qY w p o):qY w p (bX ρ o):=by
 rcases h with ⟨h1,h2⟩|⟨b,es,c,h1,h2,h3⟩
 ·exact .inl ⟨h1,by simp [bX,h2]⟩
 ·refine .inr ⟨b,es,c,h1,h2,?_⟩
  simp only[bX,h3,jQ,XS]
  apply XM
  intro e _
  rfl
theorem Dv {ρ:List Nat}{o:Obj}{i j:Nat}{y:V} (h:((bX ρ o).aV[i]?.bind (·[j]?))=some y):∃x,(o.aV[i]?.bind (·[j]?))=some x∧bF ρ x=y:=by
 simp only[bX,Xd]at h
 cases he:o.aV[i]? with
 |none=>rw[he]at h;cases h
 |some e =>
  rw[he]at h
  simp only[XE,XH,gx,Xd]at h
  exact Option.map_eq_some_iff.1 h
theorem zB {ρ:List Nat}{o:Obj}{i j:Nat}{x:V} (h:(o.aV[i]?.bind (·[j]?))=some x):((bX ρ o).aV[i]?.bind (·[j]?))=some (bF ρ x):=by
 simp only[bX,Xd]
 cases he:o.aV[i]? with
 |none=>rw[he]at h;cases h
 |some e =>
  rw[he]at h
  simp only[XE,XH,gx,Xd]
  rw[show e[j]?=some x from h]
  rfl
end frame
theorem rO {P:Program}{f:FuncId}{cargs args:List V}{exts s:List Obj}{Kc K:V→List Obj→Prop} (h:av P f cargs exts Kc) (ρ:List Nat) (hρ:ρ.length=exts.length) (hnd:ρ.Nodup)
  (hs:∀(k:Nat) (o:Obj),exts[k]?=some o→s[ρ.getD k 0]?=some (bX ρ o)) (iP:args=cargs.map (bF ρ)) (td:ao.go exts.length cargs=true) (Nj:exts.all (cU exts.length)=true)
  (hk:∀v s',Kc v s'→s'.length=exts.length∧K (bF ρ v) (aZ s ρ (s'.map (bX ρ)))):av P f args s K:=by
 refine⟨h.1,fun σ w vals hI hl hv=>?_⟩
 have NO:∀k,k<exts.length→ρ[k]?=some (ρ.getD k 0):=fun k hk=>by simp [List.getD,show k<ρ.length by omega]
 have To:∀k k',k<exts.length→k'<exts.length→ρ.getD k 0=ρ.getD k' 0→k=k':=by
  intro k k' h1 h2 he
  have e1:=NO k h1
  have e2:=NO k' h2
  rw[he]at e1
  obtain⟨l1,g1⟩:=List.getElem?_eq_some_iff.1 e1
  obtain⟨l2,g2⟩:=List.getElem?_eq_some_iff.1 e2
  exact(List.getElem_inj hnd).1 (g1.trans g2.symm)
 have Ea:∀k,(hk:k<exts.length)→s[ρ.getD k 0]?=some (bX ρ exts[k]):=fun k hk=>hs k exts[k] (by simp [hk])
 let pj:Nat→Prop:=fun b=>∃k base,k<exts.length∧σ (ρ.getD k 0)=some (b,base)
 let σc:Gh:=⟨fun k=>if k<exts.length then σ (ρ.getD k 0) else none,fun b=>Own σ s b∧¬pj b⟩
 have BG:∀k,k<exts.length→σc k=σ (ρ.getD k 0):=fun k hk=>if_pos hk
 have ue:∀b,Own σc exts b→Own σ s b:=by
  rintro b (hb|⟨k,o,base,h1,h2,h3⟩)
  ·exact hb.1
  ·have aS:=(List.getElem?_eq_some_iff.1 h1).1
   rw[BG k aS]at h3
   exact .inr ⟨ρ.getD k 0,bX ρ o,base,hs k o h1,h2,h3⟩
 have KZ:∀b,Own σ s b→Own σc exts b:=by
  intro b hb
  by_cases he:pj b
  ·obtain⟨k,base,aS,h3⟩:=he
   refine .inr ⟨k,exts[k],base,by simp [aS],?_,by rw[BG k aS];exact h3⟩
   rcases hb with hb|⟨id,o,cg,g1,g2,g3⟩
   ·exact absurd hb (hI.apart _ _ b base (Ea k aS) h3)
   ·have:=hI.inj id _ o _ b cg base g1 (Ea k aS) g2 g3 h3
    subst this
    rw[Ea k aS]at g1
    cases g1
    exact g2
  ·exact .inl ⟨hb,he⟩
 have Td:Inv σc exts w:=by
  refine⟨fun k o ho=>?_,fun k k' o o' b base cg h1 h2 h3 h4 h5=>?_,fun b hb=>ud hI hb.1,fun k o b base h1 h2 hb=>?_⟩
  ·have aS:=(List.getElem?_eq_some_iff.1 ho).1
   rw[BG k aS]
   rcases hI.content _ _ (hs k o ho) with g1|⟨b,base,arr,E,g1,g2,g3,g4,g5⟩
   ·exact .inl g1.down
   ·refine .inr ⟨b,base,arr,E,g1,g2,fun e he=>?_,by simpa [bX]using g4,fun i j x hx=>?_⟩
    ·have:=g3 (bF.go ρ e) (List.mem_map.2 ⟨e,he,rfl⟩)
     rw[gx]at this
     simpa [bX]using this
    ·obtain⟨u,k1,k2,k3⟩:=g5 i j _ (zB hx)
     refine⟨u,k1,k2,tT ue hs BG k3 rfl ?_⟩
     have hobj:=List.all_eq_true.1 Nj o (W6 ho)
     cases xn:o.aV[i]? with
     |none=>rw[xn]at hx;cases hx
     |some e =>
      rw[xn]at hx
      exact List.all_eq_true.1 (List.all_eq_true.1 hobj e (W6 xn)) x (W6 hx)
  ·have l1:=(List.getElem?_eq_some_iff.1 h1).1
   have l2:=(List.getElem?_eq_some_iff.1 h2).1
   rw[BG k l1]at h4
   rw[BG k' l2]at h5
   exact To k k' l1 l2 (hI.inj _ _ _ _ b base cg (hs k o h1) (hs k' o' h2) h3 h4 h5)
  ·have l1:=(List.getElem?_eq_some_iff.1 h1).1
   rw[BG k l1]at h2
   exact hb.2 ⟨k,base,l1,h2⟩
 refine(h.2 σc w vals Td (by rw[hl,iP];simp) (fun i x hx=>tT ue hs BG (hv i _ (by rw[iP,Xd,hx];rfl)) rfl (dx td i x hx))).mono fun e w' ⟨u,v,σ',s',he,hE,jN,hR,hK⟩=>?_
 obtain⟨hlen,hK⟩:=hk v s' hK
 -- back
 let σn:Gh:=⟨fun id=>match ρ.idxOf? id with|some k=>σ' k|none=>σ id,σ.base⟩
 have NR:∀k,k<exts.length→ρ.idxOf? (ρ.getD k 0)=some k:=by
  intro k hk
  have e1:=NO k hk
  obtain⟨l1,g1⟩:=List.getElem?_eq_some_iff.1 e1
  rw[List.idxOf?_eq_some_iff]
  refine⟨l1,by simp [g1],fun j hj=>?_⟩
  have SN:j<ρ.length:=by omega
  intro hb
  have Lq:ρ[j]=ρ.getD k 0:=by simpa using hb
  have:=(List.getElem_inj hnd).1 (Lq.trans g1.symm)
  omega
 have AK:∀k,k<exts.length→σn (ρ.getD k 0)=σ' k:=fun k hk=>by
  show (match ρ.idxOf? (ρ.getD k 0) with|some k=>σ' k|none=>σ (ρ.getD k 0))=σ' k
  rw[NR k hk]
 have B6:∀id,id ∉ ρ→σn id=σ id:=fun id dJ=>by
  show (match ρ.idxOf? id with|some k=>σ' k|none=>σ id)=σ id
  rw[List.idxOf?_eq_none_iff.2 dJ]
 have oZ:∀id,id∈ρ→∃k,k<exts.length∧id=ρ.getD k 0:=by
  intro id dJ
  obtain⟨k,hk⟩:=List.mem_iff_getElem?.1 dJ
  have aS:=(List.getElem?_eq_some_iff.1 hk).1
  exact⟨k,by omega,by simp [List.getD,hk]⟩
 have FO:∀(k:Nat) (o:Obj),s'[k]?=some o→(aZ s ρ (s'.map (bX ρ)))[ρ.getD k 0]?=some (bX ρ o):=by
  intro k o ho
  have aS:k<exts.length:=by rw[← hlen];exact(List.getElem?_eq_some_iff.1 ho).1
  exact rL ρ _ s k _ _ hnd (NO k aS) (by rw[Xd,ho];rfl) (List.getElem?_eq_some_iff.1 (Ea k aS)).1
 have pd:∀id,id ∉ ρ→(aZ s ρ (s'.map (bX ρ)))[id]?=s[id]?:=fun id dJ=>fz ρ _ s id dJ
 have rT:∀(k:Nat) (o:Obj),k<exts.length→(aZ s ρ (s'.map (bX ρ)))[ρ.getD k 0]?=some o→∃o',s'[k]?=some o'∧o=bX ρ o':=by
  intro k o aS ho
  have cG:k<s'.length:=by omega
  have:=FO k s'[k] (by simp [cG])
  rw[ho]at this
  exact⟨s'[k],by simp [cG],by simpa using this⟩
 have ga:∀b,b<w.heap.size→Own σ s b→¬pj b→w'.heap[b]?=w.heap[b]?:=fun b hb h1 h2=>hE.ga b hb ⟨h1,h2⟩
 have xq:∀b,σ.base b→¬pj b:=by
  rintro b hb ⟨k,base,aS,h3⟩
  exact hI.apart _ _ b base (Ea k aS) h3 hb
 have oI:∀id o b base,id ∉ ρ→s[id]?=some o→σ id=some (b,base)→o.live=true→¬pj b:=by
  rintro id o b base dJ ho h1 y7 ⟨k,cg,aS,h3⟩
  have:=hI.inj id _ o _ b base cg ho (Ea k aS) y7 h1 h3
  exact dJ (by rw[this];exact W6 (NO k aS))
 have I1:∀b,Own σn (aZ s ρ (s'.map (bX ρ))) b→Own σ' s' b:=by
  rintro b (hb|⟨id,o,base,h1,h2,h3⟩)
  ·left;rw[hE.base];exact⟨.inl hb,xq b hb⟩
  ·by_cases dJ:id∈ρ
   ·obtain⟨k,aS,rfl⟩:=oZ id dJ
    obtain⟨o',g1,rfl⟩:=rT k o aS h1
    rw[AK k aS]at h3
    exact .inr ⟨k,o',base,g1,h2,h3⟩
   ·rw[pd id dJ]at h1
    rw[B6 id dJ]at h3
    left;rw[hE.base]
    exact⟨.inr ⟨id,o,base,h1,h2,h3⟩,oI id o b base dJ h1 h3 h2⟩
 have Q9:aY σ s w σn (aZ s ρ (s'.map (bX ρ))) w':=by
  refine⟨hE.os,hE.tape,hE.output,hE.size,fun b hb ho=>hE.cb b hb fun h'=>ho (ue b h'),fun b arr E ho hh=>hE.shape b arr E (KZ b ho) hh,fun b ho hm=>hE.pD b (KZ b ho) hm,fun b hb=>?_,fun id o ho=>?_,rfl,
   fun b hb hf=>ga b hb (.inl hf) (xq b hf)⟩
  ·rcases hE.own b (I1 b hb) with h'|h'
   ·exact .inl (ue b h')
   ·exact .inr h'
  ·by_cases dJ:id∈ρ
   ·obtain⟨k,aS,rfl⟩:=oZ id dJ
    rw[Ea k aS]at ho
    simp only[WX]at ho
    subst ho
    obtain⟨o',g1,g2,g3⟩:=hE.au k exts[k] (by simp [aS])
    refine⟨bX ρ o',FO k o' g1,g2,fun he=>?_⟩
    obtain⟨e1,e2⟩:=g3 he
    exact⟨e1,by rw[AK k aS,e2,BG k aS]⟩
   ·exact⟨o,by rw[pd id dJ];exact ho,W4 _,fun _=>⟨rfl,B6 id dJ⟩⟩
 have up:∀{x:V}{u:Value},aI σ' s' w' x u→aI σn (aZ s ρ (s'.map (bX ρ))) w' (bF ρ x) u:=fun hr =>
  J0 I1 FO (fun k hk=>AK k (by omega)) hr
 have hIn:Inv σn (aZ s ρ (s'.map (bX ρ))) w':=by
  refine⟨fun id o ho=>?_,fun id jz o o' b base cg h1 h2 h3 h4 h5=>?_,fun b hb=>Nat.lt_of_lt_of_le (hI.low b hb) hE.size,fun id o b base h1 h2 hb=>?_⟩
  ·by_cases dJ:id∈ρ
   ·obtain⟨k,aS,rfl⟩:=oZ id dJ
    obtain⟨o',g1,rfl⟩:=rT k o aS ho
    rw[AK k aS]
    rcases jN.content k o' g1 with c1|⟨b,base,arr,E,c1,c2,c3,c4,c5⟩
    ·exact .inl c1.up
    ·refine .inr ⟨b,base,arr,E,c1,c2,fun e he=>?_,by simpa [bX]using c4,fun i j y hy=>?_⟩
     ·obtain⟨e',lH,rfl⟩:=List.mem_map.1 he
      rw[gx]
      simpa [bX]using c3 e' lH
     ·obtain⟨x,hx,rfl⟩:=Dv hy
      obtain⟨u,k1,k2,k3⟩:=c5 i j x hx
      exact⟨u,k1,k2,up k3⟩
   ·rw[pd id dJ]at ho
    rw[B6 id dJ]
    refine rn.bS (p:=σ id) Q9 (fun b base hb=>?_) (hI.content id o ho)
    have aS:=hI.lt ho hb
    by_cases hO:Own σ s b
    ·by_cases y7:o.live=true
     ·exact ga b aS hO (oI id o b base dJ ho hb y7)
     ·exfalso
      rcases hO with hO|⟨jz,o',cg,g1,g2,g3⟩
      ·exact hI.apart id o b base ho hb hO
      ·have:=hI.inj jz id o' o b cg base g1 ho g2 g3 hb
       subst this
       rw[ho]at g1;cases g1
       exact y7 g2
    ·exact hE.cb b aS fun h'=>hO (ue b h')
  ·by_cases dJ:id∈ρ <;> by_cases se:jz∈ρ
   ·obtain⟨k,aS,rfl⟩:=oZ id dJ
    obtain⟨k',cG,rfl⟩:=oZ jz se
    obtain⟨p,g1,rfl⟩:=rT k o aS h1
    obtain⟨p',Oz,rfl⟩:=rT k' o' cG h2
    rw[AK k aS]at h4
    rw[AK k' cG]at h5
    rw[jN.inj k k' p p' b base cg g1 Oz h3 h4 h5]
   ·exfalso
    obtain⟨k,aS,rfl⟩:=oZ id dJ
    obtain⟨p,g1,rfl⟩:=rT k o aS h1
    rw[AK k aS]at h4
    rw[pd jz se]at h2
    rw[B6 jz se]at h5
    have JN:=hI.lt h2 h5
    have hO:Own σ s b:=by
     rcases hE.own b (.inr ⟨k,p,base,g1,h3,h4⟩) with h'|h'
     ·exact ue b h'
     ·omega
    by_cases y7:o'.live=true
    ·exact jN.apart k p b base g1 h4 (by rw[hE.base];exact⟨hO,oI jz o' b cg se h2 h5 y7⟩)
    ·rcases hO with hO|⟨Sh,o2,KI,q1,q2,q3⟩
     ·exact hI.apart jz o' b cg h2 h5 hO
     ·have:=hI.inj Sh jz o2 o' b KI cg q1 h2 q2 q3 h5
      subst this
      rw[h2]at q1;cases q1
      exact y7 q2
   ·exfalso
    obtain⟨k',cG,rfl⟩:=oZ jz se
    obtain⟨p',Oz,rfl⟩:=rT k' o' cG h2
    rw[AK k' cG]at h5
    rw[pd id dJ]at h1
    rw[B6 id dJ]at h4
    exact jN.apart k' p' b cg Oz h5 (by rw[hE.base];exact⟨.inr ⟨id,o,base,h1,h3,h4⟩,oI id o b base dJ h1 h4 h3⟩)
   ·rw[pd id dJ]at h1
    rw[pd jz se]at h2
    rw[B6 id dJ]at h4
    rw[B6 jz se]at h5
    exact hI.inj id jz o o' b base cg h1 h2 h3 h4 h5
  ·by_cases dJ:id∈ρ
   ·obtain⟨k,aS,rfl⟩:=oZ id dJ
    obtain⟨p,g1,rfl⟩:=rT k o aS h1
    rw[AK k aS]at h2
    exact jN.apart k p b base g1 h2 (by rw[hE.base];exact⟨.inl hb,xq b hb⟩)
   ·rw[pd id dJ]at h1
    rw[B6 id dJ]at h2
    exact hI.apart id o b base h1 h2 hb
 exact⟨u,bF ρ v,σn,_,he,Q9,hIn,up hR,hK⟩
end Go.VL
