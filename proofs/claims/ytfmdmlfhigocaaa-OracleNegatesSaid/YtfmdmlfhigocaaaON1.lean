/- A part of the proof (Va Vb Vc). -/
import Derived.WalkKit
import Derived.WalkSpells
import Derived.ChangeKeysEq
import Derived.Deep.AppendSrc
set_option linter.unusedSimpArgs false
set_option linter.unusedVariables false
set_option maxRecDepth 100000
set_option maxHeartbeats 80000000
namespace Go.VL
variable{u:Value}{w:World}{b:Nat}{a:Addr}{id:Nat}{off:Nat}{base:Nat}{p:Option (Nat×Nat)}{w':World}{P:Program}{t:TypeId}{c:Value}
theorem am {a b c d e f g h:Prop}(i:a)(j:b)(k:c)(l:d)(m:e)(n:f)(o:g)(p:h):a∧b∧c∧d∧e∧f∧g∧h:=⟨i,j,k,l,m,n,o,p⟩
theorem ap.{u}:type_of% @if_neg.{u}:=@if_neg.{u}
theorem be.{u}:type_of% @if_pos.{u}:=@if_pos.{u}
theorem bi:type_of% @decide_eq_true:=@decide_eq_true
theorem b6:type_of% @decide_eq_false:=@decide_eq_false
theorem afN:type_of% @List.length_map.{0,0}:=@List.length_map.{0,0}
theorem afO:type_of% @List.getElem?_map.{0,0}:=@List.getElem?_map.{0,0}
theorem afP:type_of% @List.getElem?_eq_getElem.{0}:=@List.getElem?_eq_getElem.{0}
theorem afQ:type_of% @List.cons_append.{0}:=@List.cons_append.{0}
theorem afR:type_of% @List.map_cons.{0,0}:=@List.map_cons.{0,0}
theorem afS:type_of% @List.nil_append.{0}:=@List.nil_append.{0}
theorem afT:type_of% @Int.toNat_natCast:=@Int.toNat_natCast
theorem afU:type_of% @List.map_nil.{0,0}:=@List.map_nil.{0,0}
theorem afV:type_of% @Option.map_some.{0,0}:=@Option.map_some.{0,0}
theorem afW:type_of% @List.mem_of_getElem?.{0}:=@List.mem_of_getElem?.{0}
theorem afX:type_of% @Nat.zero_add:=@Nat.zero_add
theorem afY:type_of% @Option.some.injEq.{0}:=@Option.some.injEq.{0}
theorem afZ:type_of% @List.length_cons.{0}:=@List.length_cons.{0}
theorem af0:type_of% @List.length_nil.{0}:=@List.length_nil.{0}
theorem af1:type_of% @List.take_of_length_le.{0}:=@List.take_of_length_le.{0}
theorem af2:type_of% @List.getElem?_append_left.{0}:=@List.getElem?_append_left.{0}
theorem af3:type_of% @Nat.le_refl:=@Nat.le_refl
theorem af4:type_of% @Bool.not_false:=@Bool.not_false
theorem af5:type_of% @Bool.and_true:=@Bool.and_true
theorem af6:type_of% @List.getElem?_append_right.{0}:=@List.getElem?_append_right.{0}
theorem af7:type_of% @List.length_append.{0}:=@List.length_append.{0}
theorem af8:type_of% @List.all_eq_true.{0}:=@List.all_eq_true.{0}
theorem af9:type_of% @List.getD_eq_getElem?_getD.{0}:=@List.getD_eq_getElem?_getD.{0}
theorem aga:type_of% @Bool.not_true:=@Bool.not_true
theorem agb:type_of% @Bool.and_eq_true:=@Bool.and_eq_true
theorem agc:type_of% @List.getElem?_set_self.{0}:=@List.getElem?_set_self.{0}
theorem agd:type_of% @List.set_cons_zero.{0}:=@List.set_cons_zero.{0}
theorem age:type_of% @Bool.false_eq_true:=@Bool.false_eq_true
theorem agf:type_of% @List.set_cons_succ.{0}:=@List.set_cons_succ.{0}
theorem agh:type_of% @Array.getD_eq_getD_getElem?.{0}:=@Array.getD_eq_getD_getElem?.{0}
theorem agi:type_of% @Nat.lt_or_ge:=@Nat.lt_or_ge
theorem agj:type_of% @List.take_length.{0}:=@List.take_length.{0}
theorem agk:type_of% @Int.natCast_zero:=@Int.natCast_zero
theorem agl:type_of% @List.length_set.{0}:=@List.length_set.{0}
theorem agm:type_of% @List.getElem?_cons_zero.{0}:=@List.getElem?_cons_zero.{0}
theorem agn:type_of% @Int.le_refl:=@Int.le_refl
theorem ago:type_of% @List.eq_nil_of_length_eq_zero.{0}:=@List.eq_nil_of_length_eq_zero.{0}
theorem agp:type_of% @List.getElem?_set_ne.{0}:=@List.getElem?_set_ne.{0}
theorem agq:type_of% @List.all_cons.{0}:=@List.all_cons.{0}
theorem agr:type_of% @Bool.false_or:=@Bool.false_or
theorem ags:type_of% @List.take_succ_cons.{0}:=@List.take_succ_cons.{0}
theorem agt:type_of% @List.getElem?_take.{0}:=@List.getElem?_take.{0}
theorem agu:type_of% @List.append_assoc.{0}:=@List.append_assoc.{0}
theorem agv:type_of% @List.length_singleton.{0}:=@List.length_singleton.{0}
theorem agw:type_of% @Nat.mul_le_mul_right:=@Nat.mul_le_mul_right
theorem agx:type_of% @Prod.mk.injEq.{0,0}:=@Prod.mk.injEq.{0,0}
theorem agy:type_of% @List.map_map.{0,0,0}:=@List.map_map.{0,0,0}
theorem agz:type_of% @Bool.true_or:=@Bool.true_or
theorem agA:type_of% @List.all_nil.{0}:=@List.all_nil.{0}
theorem agB:type_of% @Int.mul_le_mul_of_nonneg_right:=@Int.mul_le_mul_of_nonneg_right
theorem agC:type_of% @List.map_congr_left.{0,0}:=@List.map_congr_left.{0,0}
theorem agD:type_of% @List.take_zero.{0}:=@List.take_zero.{0}
theorem agE:type_of% @Option.bind_some.{0,0}:=@Option.bind_some.{0,0}
theorem agF:type_of% @List.getElem?_cons_succ.{0}:=@List.getElem?_cons_succ.{0}
theorem agG:type_of% @List.getElem?_eq_none.{0}:=@List.getElem?_eq_none.{0}
theorem agH:type_of% @List.drop_zero.{0}:=@List.drop_zero.{0}
theorem agI:type_of% @Array.getElem?_toList.{0}:=@Array.getElem?_toList.{0}
theorem agJ:type_of% @List.mem_of_mem_take.{0}:=@List.mem_of_mem_take.{0}
theorem agK:type_of% @Nat.lt_irrefl:=@Nat.lt_irrefl
theorem agL:type_of% @Nat.add_mul:=@Nat.add_mul
theorem agM:type_of% @Nat.add_assoc:=@Nat.add_assoc
theorem agN:type_of% @List.length_take.{0}:=@List.length_take.{0}
theorem agO:type_of% @Int.lt_irrefl:=@Int.lt_irrefl
theorem agP:type_of% @Bool.eq_false_iff:=@Bool.eq_false_iff
theorem agQ:type_of% @Int.add_assoc:=@Int.add_assoc
theorem agR:type_of% @List.getElem?_drop.{0}:=@List.getElem?_drop.{0}
theorem agS:type_of% @List.mapM_cons.{0,0,0}:=@List.mapM_cons.{0,0,0}
theorem agT:type_of% @List.ext_getElem?.{0}:=@List.ext_getElem?.{0}
theorem agU:type_of% @List.mem_or_eq_of_mem_set.{0}:=@List.mem_or_eq_of_mem_set.{0}
theorem agV:type_of% @List.mem_cons.{0}:=@List.mem_cons.{0}
theorem agW:type_of% @List.getD_cons_zero.{0}:=@List.getD_cons_zero.{0}
theorem agX:type_of% @List.getD_cons_succ.{0}:=@List.getD_cons_succ.{0}
theorem agY:type_of% @List.all_eq_false.{0}:=@List.all_eq_false.{0}
theorem agZ:type_of% @List.drop_succ_cons.{0}:=@List.drop_succ_cons.{0}
theorem ag0:type_of% @Nat.add_zero:=@Nat.add_zero
theorem ag1:type_of% @Array.getElem?_append_left.{0}:=@Array.getElem?_append_left.{0}
theorem ag2:type_of% @Int.natCast_add:=@Int.natCast_add
theorem ag3:type_of% @Bool.and_self:=@Bool.and_self
theorem ag4:type_of% @Nat.le_trans:=@Nat.le_trans
theorem ag5:type_of% @List.countP_le_length.{0}:=@List.countP_le_length.{0}
theorem ag6:type_of% @Array.getElem?_append_right.{0}:=@Array.getElem?_append_right.{0}
theorem ag7:type_of% @Bool.or_false:=@Bool.or_false
theorem ag8:type_of% @List.not_mem_nil.{0}:=@List.not_mem_nil.{0}
theorem ag9:type_of% @Option.getD_some.{0}:=@Option.getD_some.{0}
theorem aha:type_of% @List.map_append.{0,0}:=@List.map_append.{0,0}
theorem ahb:type_of% @Bool.eq_false_or_eq_true:=@Bool.eq_false_or_eq_true
theorem ahc:type_of% @Nat.lt_of_lt_of_le:=@Nat.lt_of_lt_of_le
theorem ahd:type_of% @List.set_append_right.{0}:=@List.set_append_right.{0}
theorem ahe:type_of% @List.length_replicate.{0}:=@List.length_replicate.{0}
theorem ahf:type_of% @List.all_append.{0}:=@List.all_append.{0}
theorem ahg:type_of% @List.map_set.{0,0}:=@List.map_set.{0,0}
theorem ahh:type_of% @Int.natCast_nonneg:=@Int.natCast_nonneg
theorem ahi:type_of% @Nat.sub_self:=@Nat.sub_self
theorem ahj:type_of% @Array.length_toList.{0}:=@Array.length_toList.{0}
theorem ahk:type_of% @List.take_append_drop.{0}:=@List.take_append_drop.{0}
theorem ahl:type_of% @Option.bind_eq_bind.{0}:=@Option.bind_eq_bind.{0}
theorem ahm:type_of% @Int.mul_nonneg:=@Int.mul_nonneg
theorem ahn:type_of% @Nat.zero_le:=@Nat.zero_le
theorem aho:type_of% @Int.le_trans:=@Int.le_trans
inductive D where
 |sc (v:Value)
 |sl (aw:List (List D))
 |el (cs:List D)
 |cl (fn:Fn) (first ak:List D)
 |ub
inductive V where
 |d (x:D)
 |ag (cs:List V)
 |fu (aw:List (List D))
 |so (id g lo n:Nat)
 |rf (id g i off:Nat)
 |pp (id g i off b a:Nat)
 |mp (id g:Nat)
 |bx (v:V)
 |cap (lo hi:Nat) (v:V)
 |cl (fn:Fn) (first ak:List V)
 |tu (vs:List V)
 |un
 |any
variable{x:V}{cs:List V}{K:V->Prop}
structure Obj where
 g:Nat
 live:Bool
 sz:Nat
 aw:List (List V)
variable{o:Obj}{o':Obj}{s:List Obj}
structure Gh where
 map:Nat->Option (Nat×Nat)
 base:Nat->Prop
variable{σ:Gh}
instance:CoeFun Gh (λ_=>Nat->Option (Nat×Nat)):=⟨Gh.map⟩
def Own (σ:Gh) (s:List Obj) (b:Nat):Prop:=σ.base b\/∃id o base,s[id]?=some o/\o.live=true/\σ id=some (b,base)
inductive cJ (O:Nat->Prop) (w:World):D->Value->Prop
 |sc (v:Value):v.oneCell'=true->cJ O w (.sc v) v
 |nil:cJ O w (.sl []) (.slice none 0 0)
 |sl (aw:List (List D)) (a:Addr) (cap sz:Nat) (f:Nat->Nat->Value):aw.length<=cap->(aw≠[]->a.spot=none)->(∀e∈aw,e.length=sz) ->
   (∀i j x,(aw[i]?.bind (·[j]?))=some x->w.cell? ⟨a.block,a.off+i*sz+j,none⟩=some (f i j)/\¬O a.block) ->
   (∀i j x,(aw[i]?.bind (·[j]?))=some x->cJ O w x (f i j))->cJ O w (.sl aw) (.slice (some a) aw.length cap)
 |el (cs:List D) (a:Addr) (f:Nat->Value):a.spot=none ->
   (∀j x,cs[j]?=some x->w.cell? ⟨a.block,a.off+j,none⟩=some (f j)/\¬O a.block) ->
   (∀j x,cs[j]?=some x->cJ O w x (f j))->cJ O w (.el cs) (.pointer (some a))
 |cl {fn:Fn}{first ak:List D}{f' c':Array Value}:f'.size=first.length->(∀i x,first[i]?=some x->cJ O w x (f'.getD i undef)) ->
   c'.size=ak.length->(∀i x,ak[i]?=some x->cJ O w x (c'.getD i undef))->cJ O w (.cl fn first ak) (.func fn f' c')
 |ub (b:Bool):cJ O w .ub (.bool b)
def yN (σ:Gh) (w:World) (id:Nat) (o:Obj) (lo n:Nat) (u:Value):Prop :=
 (σ id=none/\(∃a,u=.slice a 0 0)/\lo=0/\n=0) \/
 ∃b base cap E arr,σ id=some (b,base)/\w.heap[b]?=some (.cells arr E (0,0))/\u=.slice (some ⟨b,base+lo*o.sz,none⟩) n cap/\n<=cap/\base+(lo+cap)*o.sz<=arr.size
def SlN (n:Nat) (u:Value):Prop:=∃a c,u=.slice a n c
theorem SlN.one {n:Nat} (h:SlN n u):u.oneCell'=true:=by obtain⟨_,_,rfl⟩:=h;rfl
def Fs (w:World) (b:Nat):Prop:=∃arr E,w.heap[b]?=some (.cells arr E (0,0))
def OE (w:World) (b:Nat):Prop:=∃es c,w.heap[b]?=some (.map es c)
def QZ (lo hi:Nat) (u:Value):Prop:=∀a n c,u=.slice a n c->lo<=c/\c<=hi
inductive aA (σ:Gh) (s:List Obj) (w:World):V->Value->Prop
 |d {x:D}{u:Value}:cJ (Own σ s) w x u->aA σ s w (.d x) u
 |ag {cs:List V}{arr:Array Value}:arr.size=cs.length->(∀i x,cs[i]?=some x->(arr.getD i undef).oneCell'=true) ->
   (∀i x,cs[i]?=some x->aA σ s w x (arr.getD i undef))->aA σ s w (.ag cs) (.agg arr)
 |tu {cs:List V}{arr:Array Value}:arr.size=cs.length->(∀i x,cs[i]?=some x->aA σ s w x (arr.getD i undef))->aA σ s w (.tu cs) (.tuple arr)
 |fu {aw:List (List D)}{a:Option Addr}:cJ (Own σ s) w (.sl aw) (.slice a aw.length aw.length)->aA σ s w (.fu aw) (.slice a aw.length aw.length)
 |so {id g lo n:Nat}{u:Value} (o:Obj):s[id]?=some o->g<=o.g->SlN n u->(o.g=g->yN σ w id o lo n u)->aA σ s w (.so id g lo n) u
 |rf {id g i off:Nat}{u:Value} (o:Obj):s[id]?=some o->g<=o.g->u.oneCell'=true->(o.g=g->∃b base,σ id=some (b,base)/\Fs w b/\u=.pointer (some ⟨b,base+i*o.sz+off,none⟩)) ->
   aA σ s w (.rf id g i off) u
 |pp {id g i off b a:Nat} (o:Obj):s[id]?=some o->g<=o.g->(o.g=g->∃base,σ id=some (b,base)/\Fs w b/\a=base+i*o.sz+off)->aA σ s w (.pp id g i off b a) (.pointer (some ⟨b,a,none⟩))
 |mp {id g:Nat}{u:Value} (o:Obj):s[id]?=some o->g<=o.g->u.oneCell'=true->(o.g=g->∃b,σ id=some (b,0)/\OE w b/\u=.map (some b))->aA σ s w (.mp id g) u
 |bx {v:V}{a:Addr}{u:Value}:a.spot=none->w.cell? ⟨a.block,a.off,none⟩=some u->¬Own σ s a.block->u.oneCell'=true->aA σ s w v u->aA σ s w (.bx v) (.pointer (some a))
 |cap {lo hi:Nat}{v:V}{u:Value}:QZ lo hi u->aA σ s w v u->aA σ s w (.cap lo hi v) u
 |cl {fn:Fn}{first ak:List V}{f' c':Array Value}:f'.size=first.length->(∀i x,first[i]?=some x->aA σ s w x (f'.getD i undef)) ->
   c'.size=ak.length->(∀i x,ak[i]?=some x->aA σ s w x (c'.getD i undef))->aA σ s w (.cl fn first ak) (.func fn f' c')
 |un:aA σ s w .un undef
 |any {u:Value}:aA σ s w .any u
structure aF (σ:Gh) (s:List Obj) (w:World) (σ':Gh) (s':List Obj) (w':World):Prop where
 os:w'.os=w.os
 tape:w'.tape=w.tape
 output:w'.output=w.output
 size:w.heap.size<=w'.heap.size
 aY:∀b,b<w.heap.size->¬Own σ s b->w'.heap[b]?=w.heap[b]?
 shape:∀b arr E,Own σ s b->w.heap[b]?=some (.cells arr E (0,0))->∃cf,w'.heap[b]?=some (.cells cf E (0,0))/\cf.size=arr.size
 pN:∀b,Own σ s b->OE w b->OE w' b
 own:∀b,Own σ' s' b->Own σ s b\/w.heap.size<=b
 yk:∀id o,s[id]?=some o->∃o',s'[id]?=some o'/\o.g<=o'.g/\(o'.g=o.g->o'.sz=o.sz/\σ' id=σ id)
 base:σ'.base=σ.base
 fW:∀b,b<w.heap.size->σ.base b->w'.heap[b]?=w.heap[b]?
theorem aF.refl (σ:Gh) (s:List Obj) (w:World):aF σ s w σ s w :=
 ⟨rfl,rfl,rfl,af3 _,λ_ _ _=>rfl,λ_ arr _ _ h=>⟨arr,h,rfl⟩,λ_ _ h=>h,λ_ h=>.inl h,λ_ o h=>⟨o,h,af3 _,λ_=>⟨rfl,rfl⟩⟩,rfl,λ_ _ _=>rfl⟩
theorem dF{o:Go.Obj} (h:w.heap[b]?=some o):b<w.heap.size:=by
 rcases agi b w.heap.size with h'|h'
 ·exact h'
 ·simp [Array.getElem?_eq_none h']at h
theorem aF.trans {σ s w σ' s' w' Yw Am NZ} (h:aF σ s w σ' s' w') (k:aF σ' s' w' Yw Am NZ):aF σ s w Yw Am NZ:=by
 refine⟨k.os.trans h.os,k.tape.trans h.tape,k.output.trans h.output,ag4 h.size k.size,?_,?_,?_,?_,?_,k.base.trans h.base,
  λb hb ho=>(k.fW b (ahc hb h.size) (by rw[h.base];exact ho)).trans (h.fW b hb ho)⟩
 ·intro b hb ho;rw[k.aY b (ahc hb h.size) (λh'=>(h.own b h').elim ho (λUi=>by omega)),h.aY b hb ho]
 ·intro b arr E ho hh;obtain⟨cf,h1,h2⟩:=h.shape b arr E ho hh;by_cases iY:Own σ' s' b
  ·obtain⟨Xd,h3,h4⟩:=k.shape b cf E iY h1;exact⟨Xd,h3,by omega⟩
  ·exact⟨cf,by rw[k.aY b (dF h1) iY];exact h1,h2⟩
 ·intro b ho hh;obtain⟨es,c,h1⟩:=h.pN b ho hh;by_cases iY:Own σ' s' b
  ·exact k.pN b iY ⟨es,c,h1⟩
  ·exact⟨es,c,by rw[k.aY b (dF h1) iY];exact h1⟩
 ·intro b hb;rcases k.own b hb with h'|h'
  ·exact h.own b h'
  ·exact .inr (ag4 h.size h')
 ·intro id o ho;obtain⟨o',h1,h2,h3⟩:=h.yk id o ho;obtain⟨o'',k1,k2,k3⟩:=k.yk id o' h1;refine⟨o'',k1,ag4 h2 k2,λhe=>?_⟩;have e1:o'.g=o.g:=by omega
  have e2:o''.g=o'.g:=by omega
  exact⟨(k3 e2).1.trans (h3 e1).1,(k3 e2).2.trans (h3 e1).2⟩
theorem aF.cell {σ s w σ' s' w'} (h:aF σ s w σ' s' w') (hc:w.cell? a=some u) (ho:¬Own σ s a.block) :
  w'.cell? a=some u/\¬Own σ' s' a.block:=by
 have hb:=World.block_lt_of_cell? _ _ hc;refine⟨?_,λh'=>?_⟩
 ·rw[World.cell?_of_block (w:=w) (h.aY a.block hb ho)];exact hc
 ·rcases h.own _ h' with h'|h'
  ·exact ho h'
  ·omega
theorem cJ.aX {σ s w σ' s' w'} (h:aF σ s w σ' s' w') {x:D} (hr:cJ (Own σ s) w x u):cJ (Own σ' s') w' x u:=by
 induction hr with
 |sc v hv=>exact .sc v hv
 |nil=>exact .nil
 |sl aw a cap sz f h1 h2 h3 h4 _ ih=>exact .sl aw a cap sz f h1 h2 h3 (λi j x hx=>h.cell (a:=⟨a.block,_,none⟩) (h4 i j x hx).1 (h4 i j x hx).2) ih
 |el cs a f h1 h2 _ ih=>exact .el cs a f h1 (λj x hx=>h.cell (a:=⟨a.block,_,none⟩) (h2 j x hx).1 (h2 j x hx).2) ih
 |cl h1 _ h3 _ yp ym=>exact .cl h1 yp h3 ym
 |ub b=>exact .ub b
theorem cJ.own {O O':Nat->Prop}{x:D} (h:∀b,O' b->O b) (hr:cJ O w x u):cJ O' w x u:=by
 induction hr with
 |sc v hv=>exact .sc v hv
 |nil=>exact .nil
 |sl aw a cap sz f h1 h2 h3 h4 _ ih=>exact .sl aw a cap sz f h1 h2 h3 (λi j x hx=>⟨(h4 i j x hx).1,λh'=>(h4 i j x hx).2 (h _ h')⟩) ih
 |el cs a f h1 h2 _ ih=>exact .el cs a f h1 (λj x hx=>⟨(h2 j x hx).1,λh'=>(h2 j x hx).2 (h _ h')⟩) ih
 |cl h1 _ h3 _ yp ym=>exact .cl h1 yp h3 ym
 |ub b=>exact .ub b
theorem yN.aX {σ s w σ' s' w'} (h:aF σ s w σ' s' w'){lo n:Nat} (fF:o'.sz=o.sz) (hs:σ' id=σ id)
  (hk:yN σ w id o lo n u):yN σ' w' id o' lo n u:=by
 rcases hk with ⟨h1,h2,h3,h4⟩|⟨b,base,cap,E,arr,h1,h2,h3,h4,h5⟩
 ·exact .inl ⟨hs.trans h1,h2,h3,h4⟩
 ·by_cases hO:Own σ s b
  ·obtain⟨cf,k1,k2⟩:=h.shape b arr E hO h2;exact .inr ⟨b,base,cap,E,cf,hs.trans h1,k1,by rw[fF];exact h3,h4,by rw[fF,k2];exact h5⟩
  ·exact .inr ⟨b,base,cap,E,arr,hs.trans h1,by rw[h.aY b (dF h2) hO];exact h2,by rw[fF];exact h3,h4,by rw[fF];exact h5⟩
theorem Fs.aX {σ s w σ' s' w'} (h:aF σ s w σ' s' w') (hc:Fs w b):Fs w' b:=by
 obtain⟨arr,E,hh⟩:=hc;by_cases hO:Own σ s b
 ·obtain⟨cf,k1,_⟩:=h.shape b arr E hO hh;exact⟨cf,E,k1⟩
 ·exact⟨arr,E,by rw[h.aY b (dF hh) hO];exact hh⟩
theorem OE.aX {σ s w σ' s' w'} (h:aF σ s w σ' s' w') (hc:OE w b):OE w' b:=by
 by_cases hO:Own σ s b
 ·exact h.pN b hO hc
 ·obtain⟨es,c,hh⟩:=hc;exact⟨es,c,by rw[h.aY b (dF hh) hO];exact hh⟩
theorem Fs.notM (h:Fs w b) (k:OE w b):False:=by obtain⟨arr,E,h⟩:=h;obtain⟨es,c,k⟩:=k;rw[h]at k;cases k
theorem aA.aX {σ s w σ' s' w'} (h:aF σ s w σ' s' w') (hr:aA σ s w x u):aA σ' s' w' x u:=by
 induction hr with
 |d hx=>exact .d (hx.aX h)
 |ag h1 h2 _ ih=>exact .ag h1 h2 ih
 |tu h1 _ ih=>exact .tu h1 ih
 |fu hx=>exact .fu (hx.aX h)
 |so o ho hg hu hk =>
  obtain⟨o',h1,h2,h3⟩:=h.yk _ o ho;exact .so o' h1 (ag4 hg h2) hu λhe=>have e:o'.g=o.g:=by omega
   yN.aX h (h3 e).1 (h3 e).2 (hk (by omega))
 |rf o ho hg hu hk =>
  obtain⟨o',h1,h2,h3⟩:=h.yk _ o ho;refine .rf o' h1 (ag4 hg h2) hu λhe=>?_;have e:o'.g=o.g:=by omega
  obtain⟨b,base,k1,kc,k2⟩:=hk (by omega);exact⟨b,base,(h3 e).2.trans k1,kc.aX h,by rw[(h3 e).1];exact k2⟩
 |pp o ho hg hk =>
  obtain⟨o',h1,h2,h3⟩:=h.yk _ o ho;refine .pp o' h1 (ag4 hg h2) λhe=>?_;have e:o'.g=o.g:=by omega
  obtain⟨base,k1,kc,k2⟩:=hk (by omega);exact⟨base,(h3 e).2.trans k1,kc.aX h,by rw[(h3 e).1];exact k2⟩
 |mp o ho hg hu hk =>
  obtain⟨o',h1,h2,h3⟩:=h.yk _ o ho;refine .mp o' h1 (ag4 hg h2) hu λhe=>?_;have e:o'.g=o.g:=by omega
  obtain⟨b,k1,kc,k2⟩:=hk (by omega);exact⟨b,(h3 e).2.trans k1,kc.aX h,k2⟩
 |cap h1 _ ih=>exact .cap h1 ih
 |bx h1 h2 h3 hu _ ih =>
  obtain⟨k1,k2⟩:=h.cell h2 h3;exact .bx h1 k1 k2 hu ih
 |cl h1 _ h3 _ yp ym=>exact .cl h1 yp h3 ym
 |un=>exact .un
 |any=>exact .any
theorem aA.Ul {σ s w}{g i a:Nat} (h:aA σ s w (.pp id g i off b a) u):aA σ s w (.rf id g i off) u:=by
 cases h with
 |pp o ho hg hk=>exact .rf o ho hg rfl λhe=>let ⟨base,h1,h2,h3⟩:=hk he;⟨b,base,h1,h2,by rw[h3]⟩
theorem aA.FC {σ s w}{g i a:Nat} (h:aA σ s w (.pp id g i off b a) u):u=.pointer (some ⟨b,a,none⟩):=by
 cases h with
 |pp o ho hg hk=>rfl
def eR (es:Array MapEntry):List (List V):=es.toList.map λe=>[V.d (.sc e.key),V.d (.sc e.val)]
def uT (w:World) (p:Option (Nat×Nat)) (o:Obj):Prop :=
 (p=none/\o.aw=[])\/∃b es c,p=some (b,0)/\w.heap[b]?=some (.map es c)/\o.aw=eR es
theorem uT.Ax (h:uT w p o) (hp:p=some (b,base)) (hc:Fs w b):False:=by
 rcases h with ⟨h,_⟩|⟨b',es,c,h,hh,_⟩
 ·rw[hp]at h;cases h
 ·rw[hp]at h;cases h;exact hc.notM ⟨es,c,hh⟩
theorem uT.congr (h:uT w p o') (he:o.aw=o'.aw):uT w p o:=by unfold uT at *;rw[he];exact h
theorem uT.GC (h:uT w p o) (hp:p=none):o.aw=[]:=by
 rcases h with ⟨_,h⟩|⟨b',es,c,h,_⟩
 ·exact h
 ·rw[hp]at h;cases h
structure Inv (σ:Gh) (s:List Obj) (w:World):Prop where
 content:∀id o,s[id]?=some o->uT w (σ id) o\/∃b base arr E,σ id=some (b,base)/\w.heap[b]?=some (.cells arr E (0,0)) /\
  (∀e∈o.aw,e.length=o.sz)/\base+o.aw.length*o.sz<=arr.size /\
  ∀i j x,(o.aw[i]?.bind (·[j]?))=some x->∃u,arr[base+i*o.sz+j]?=some u/\u.oneCell'=true/\aA σ s w x u
 inj:∀id kN o o' b base bI,s[id]?=some o->s[kN]?=some o'->o.live=true->σ id=some (b,base)->σ kN=some (b,bI)->id=kN
 low:∀b,σ.base b->b<w.heap.size
 apart:∀id o b base,s[id]?=some o->σ id=some (b,base)->¬σ.base b
def mV (σ:Gh) (id:Nat) (p:Option (Nat×Nat)):Gh:=⟨λk=>if k=id then p else σ k,σ.base⟩
theorem bQ (σ:Gh) (id:Nat) (p:Option (Nat×Nat)):mV σ id p id=p:=by simp [mV]
theorem c9 (σ:Gh) {k:Nat} (p:Option (Nat×Nat)) (h:k≠id):mV σ id p k=σ k:=by simp [mV,h]
def ve (σ:Gh) (s:List Obj) (w:World) (p:Option (Nat×Nat)) (o:Obj):Prop :=
 uT w p o\/∃b base arr E,p=some (b,base)/\w.heap[b]?=some (.cells arr E (0,0)) /\
  (∀e∈o.aw,e.length=o.sz)/\base+o.aw.length*o.sz<=arr.size /\
  ∀i j x,(o.aw[i]?.bind (·[j]?))=some x->∃u,arr[base+i*o.sz+j]?=some u/\u.oneCell'=true/\aA σ s w x u
theorem ve.aX {σ s w σ' s' w' p o} (h:aF σ s w σ' s' w') (hb:∀b base,p=some (b,base)->w'.heap[b]?=w.heap[b]?) (hh:ve σ s w p o):ve σ' s' w' p o:=by
 rcases hh with h1|⟨b,base,arr,E,h1,h2,h3,h4,h5⟩
 ·refine .inl ?_;rcases h1 with h1|⟨b,es,c,h1,h2,h3⟩
  ·exact .inl h1
  ·exact .inr ⟨b,es,c,h1,(hb b 0 h1).trans h2,h3⟩
 ·exact .inr ⟨b,base,arr,E,h1,(hb b base h1).trans h2,h3,h4,λi j x hx=>let ⟨u,k1,k2,k3⟩:=h5 i j x hx;⟨u,k1,k2,k3.aX h⟩⟩
theorem Inv.lt {σ s w} (hI:Inv σ s w) {id o b base} (ho:s[id]?=some o) (hs:σ id=some (b,base)):b<w.heap.size:=by
 rcases hI.content id o ho with (⟨h1,_⟩|⟨b',es,c,h1,h2,_⟩)|⟨b',bI,arr,E,h1,h2,_⟩
 ·rw[hs]at h1;cases h1
 ·rw[hs]at h1;cases h1;exact dF h2
 ·rw[hs]at h1;cases h1;exact dF h2
theorem ml (hI:Inv σ s w) (ho:s[id]?=some o) (hl:o.live=true)
  (hos:w'.os=w.os) (HF:w'.tape=w.tape) (PW:w'.output=w.output) (jm:w.heap.size<=w'.heap.size)
  (hkeep:∀b,b<w.heap.size->(∀base,σ id≠some (b,base))->w'.heap[b]?=w.heap[b]?)
  (hshape:∀b base arr E,σ id=some (b,base)->w.heap[b]?=some (.cells arr E (0,0))->∃cf,w'.heap[b]?=some (.cells cf E (0,0))/\cf.size=arr.size)
  (hshapeM:∀b base,σ id=some (b,base)->OE w b->OE w' b)
  (hg:o.g<=o'.g) (Dr:o'.g=o.g->o'.sz=o.sz/\p=σ id)
  (hp:∀b base,p=some (b,base)->(∃Bb,σ id=some (b,Bb))\/w.heap.size<=b)
  (hc:aF σ s w (mV σ id p) (s.set id o') w'->ve (mV σ id p) (s.set id o') w' p o') :
  aF σ s w (mV σ id p) (s.set id o') w'/\Inv (mV σ id p) (s.set id o') w':=by
 have az:id<s.length:=(List.getElem?_eq_some_iff.1 ho).1;have z6:(s.set id o')[id]?=some o':=by simp [az]
 have mO:∀k,k≠id->(s.set id o')[k]?=s[k]?:=λk hk=>by rw[agp (Ne.symm hk)]
 have aaf:∀k ok b base,k≠id->s[k]?=some ok->σ k=some (b,base)->w'.heap[b]?=w.heap[b]?:=by intro k ok b base hk fO hs;exact hkeep b (hI.lt fO hs) λbI he=>hk (hI.inj id k o ok b bI base ho fO hl he hs).symm
 have hE:aF σ s w (mV σ id p) (s.set id o') w':=by
  refine⟨hos,HF,PW,jm,?_,?_,?_,?_,?_,rfl,λb hb hf=>hkeep b hb λbase he=>hI.apart id o b base ho he hf⟩
  ·intro b hb mT;exact hkeep b hb λbase he=>mT (.inr ⟨id,o,base,ho,hl,he⟩)
  ·intro b arr E hO hh;by_cases he:∃base,σ id=some (b,base)
   ·obtain⟨base,he⟩:=he;exact hshape b base arr E he hh
   ·exact⟨arr,by rw[hkeep b (dF hh) (λbase h'=>he ⟨base,h'⟩)];exact hh,rfl⟩
  ·intro b hO hm;by_cases he:∃base,σ id=some (b,base)
   ·obtain⟨base,he⟩:=he;exact hshapeM b base he hm
   ·obtain⟨es,c,hh⟩:=hm;exact⟨es,c,by rw[hkeep b (dF hh) (λbase h'=>he ⟨base,h'⟩)];exact hh⟩
  ·rintro b (hf|⟨k,ok,base,Cd,FF,F5⟩)
   ·exact .inl (.inl hf)
   by_cases hk:k=id
   ·subst hk;rw[bQ]at F5;rcases hp b base F5 with ⟨Bb,h'⟩|h'
    ·exact .inl (.inr ⟨k,o,Bb,ho,hl,h'⟩)
    ·exact .inr h'
   ·rw[c9 _ _ hk]at F5;rw[mO k hk]at Cd;exact .inl (.inr ⟨k,ok,base,Cd,FF,F5⟩)
  ·intro k ok fO;by_cases hk:k=id
   ·subst hk;rw[ho]at fO;cases fO;exact⟨o',z6,hg,λhe=>⟨(Dr he).1,by rw[bQ];exact(Dr he).2⟩⟩
   ·exact⟨ok,by rw[mO k hk];exact fO,af3 _,λ_=>⟨rfl,c9 _ _ hk⟩⟩
 refine⟨hE,⟨?_,?_,λb hb=>ahc (hI.low b hb) jm,?_⟩⟩
 rotate_left 2
 ·intro k ok b base h1 h3 hf;by_cases hk:k=id
  ·subst hk;rw[bQ]at h3;rcases hp b base h3 with ⟨Bb,h'⟩|h'
   ·exact hI.apart k o b Bb ho h' hf
   ·have:=hI.low b hf;omega
  ·rw[c9 _ _ hk]at h3;rw[mO k hk]at h1;exact hI.apart k ok b base h1 h3 hf
 ·intro k ok fO;by_cases hk:k=id
  ·subst hk;rw[z6]at fO;cases fO;rw[bQ];exact hc hE
  ·rw[mO k hk]at fO;rw[c9 _ _ hk];exact ve.aX (p:=σ k) hE (λb base h=>aaf k ok b base hk fO h) (hI.content k ok fO)
 ·intro k k' ok ZE b base bI h1 h2 h3 h4 h5;by_cases hk:k=id <;> by_cases wB:k'=id
  ·rw[hk,wB]
  ·subst hk;rw[bQ]at h4;rw[c9 _ _ wB]at h5;rw[mO k' wB]at h2;rcases hp b base h4 with ⟨Bb,h'⟩|h'
   ·exact hI.inj _ _ _ _ _ _ _ ho h2 hl h' h5
   ·have:=hI.lt h2 h5;omega
  ·subst wB;rw[bQ]at h5;rw[c9 _ _ hk]at h4;rw[mO k hk]at h1;rcases hp b bI h5 with ⟨Bb,h'⟩|h'
   ·exact hI.inj _ _ _ _ _ _ _ h1 ho h3 h4 h'
   ·have:=hI.lt h1 h4;omega
  ·rw[c9 _ _ hk]at h4;rw[c9 _ _ wB]at h5;rw[mO k hk]at h1;rw[mO k' wB]at h2;exact hI.inj _ _ _ _ _ _ _ h1 h2 h3 h4 h5
theorem mK (hI:Inv σ s w)
  (hos:w'.os=w.os) (HF:w'.tape=w.tape) (PW:w'.output=w.output) (jm:w.heap.size<=w'.heap.size)
  (hkeep:∀b,b<w.heap.size->w'.heap[b]?=w.heap[b]?)
  (hp:∀b base,p=some (b,base)->w.heap.size<=b)
  (hc:aF σ s w (mV σ s.length p) (s++[o']) w'->ve (mV σ s.length p) (s++[o']) w' p o') :
  aF σ s w (mV σ s.length p) (s++[o']) w'/\Inv (mV σ s.length p) (s++[o']) w':=by
 have z6:(s++[o'])[s.length]?=some o':=by simp
 have mO:∀k ok,k≠s.length->(s++[o'])[k]?=some ok->s[k]?=some ok:=by
  intro k ok hk h;rw[List.getElem?_append]at h;split at h
  ·exact h
  ·rename_i h';have:k-s.length≠0:=by omega
   cases hh:k-s.length with
   |zero=>omega
   |succ n=>rw[hh]at h;simp at h
 have az:∀k ok,s[k]?=some ok->k≠s.length:=λk ok h=>by have:=(List.getElem?_eq_some_iff.1 h).1;omega
 have hE:aF σ s w (mV σ s.length p) (s++[o']) w':=by
  refine⟨hos,HF,PW,jm,λb hb _=>hkeep b hb,λb arr E _ hh=>⟨arr,by rw[hkeep b (dF hh)];exact hh,rfl⟩,λb _ hm=>let ⟨es,c,hh⟩:=hm;⟨es,c,by rw[hkeep b (dF hh)];exact hh⟩,?_,?_,rfl,λb hb _=>hkeep b hb⟩
  ·rintro b (hf|⟨k,ok,base,Cd,FF,F5⟩)
   ·exact .inl (.inl hf)
   by_cases hk:k=s.length
   ·subst hk;rw[bQ]at F5;exact .inr (hp b base F5)
   ·rw[c9 _ _ hk]at F5;exact .inl (.inr ⟨k,ok,base,mO k ok hk Cd,FF,F5⟩)
  ·intro k ok fO;exact⟨ok,by rw[af2 (List.getElem?_eq_some_iff.1 fO).1];exact fO,af3 _,λ_=>⟨rfl,c9 _ _ (az k ok fO)⟩⟩
 refine⟨hE,⟨?_,?_,λb hb=>ahc (hI.low b hb) jm,?_⟩⟩
 rotate_left 2
 ·intro k ok b base h1 h3 hf;by_cases hk:k=s.length
  ·subst hk;rw[bQ]at h3;have:=hp b base h3;have:=hI.low b hf;omega
  ·rw[c9 _ _ hk]at h3;exact hI.apart k ok b base (mO k ok hk h1) h3 hf
 ·intro k ok fO;by_cases hk:k=s.length
  ·subst hk;rw[z6]at fO;cases fO;rw[bQ];exact hc hE
  ·have h':=mO k ok hk fO;rw[c9 _ _ hk];exact ve.aX (p:=σ k) hE (λb base h=>hkeep b (hI.lt h' h)) (hI.content k ok h')
 ·intro k k' ok ZE b base bI h1 h2 h3 h4 h5;by_cases hk:k=s.length <;> by_cases wB:k'=s.length
  ·rw[hk,wB]
  ·subst hk;rw[bQ]at h4;rw[c9 _ _ wB]at h5;have:=hI.lt (mO k' ZE wB h2) h5;have:=hp b base h4;omega
  ·subst wB;rw[bQ]at h5;rw[c9 _ _ hk]at h4;have:=hI.lt (mO k ok hk h1) h4;have:=hp b bI h5;omega
  ·rw[c9 _ _ hk]at h4;rw[c9 _ _ wB]at h5;exact hI.inj _ _ _ _ _ _ _ (mO k ok hk h1) (mO k' ZE wB h2) h3 h4 h5
theorem B4 (hI:Inv σ s w) (hos:w'.os=w.os) (HF:w'.tape=w.tape) (PW:w'.output=w.output) (jm:w.heap.size<=w'.heap.size)
  (hkeep:∀b,b<w.heap.size->w'.heap[b]?=w.heap[b]?):aF σ s w σ s w'/\Inv σ s w':=by
 have hE:aF σ s w σ s w':=⟨hos,HF,PW,jm,λb hb _=>hkeep b hb,λb arr E _ hh=>⟨arr,by rw[hkeep b (dF hh)];exact hh,rfl⟩,λb _ hm=>let ⟨es,c,hh⟩:=hm;⟨es,c,by rw[hkeep b (dF hh)];exact hh⟩,λb h=>.inl h,
  λid o ho=>⟨o,ho,af3 _,λ_=>⟨rfl,rfl⟩⟩,rfl,λb hb _=>hkeep b hb⟩
 exact⟨hE,λk ok fO=>ve.aX (p:=σ k) hE (λb base h=>hkeep b (hI.lt fO h)) (hI.content k ok fO),hI.inj,λb hb=>ahc (hI.low b hb) jm,hI.apart⟩
theorem ot (hI:Inv σ s w):aF σ s w σ s w.drew/\Inv σ s w.drew :=
 B4 hI rfl rfl rfl (af3 _) (λ_ _=>rfl)
theorem Eg (hI:Inv σ s w) (x:Go.Obj):aF σ s w σ s (w.alloc x)/\Inv σ s (w.alloc x) :=
 B4 hI rfl rfl rfl (by simp) (λb hb=>Go.RowKit.Below.heap_alloc w x b hb)
structure O9 where
 sz:Nat
 agg:Bool
 Cs:Nat
 zero:List Value
def cw (P:Program) (t:TypeId):Option O9 :=
 match P.info? t,P.underlying t with
 |some i,some d=>match i.zero with
  |some z=>if z.cells.size=i.size/\z.cells.toList.all Value.oneCell'=true then
    some ⟨i.size,(match d with|.struct _|.array _ _=>true|_=>false),i.bytes,z.cells.toList⟩ else none
  |none=>none
 |_,_=>none
theorem gL{i:O9} (h:cw P t=some i):∃ti d z,P.info? t=some ti/\P.underlying t=some d/\ti.zero=some z/\ti.size=i.sz/\ti.bytes=i.Cs /\
  z.cells.toList=i.zero/\i.zero.length=i.sz/\(∀v∈i.zero,v.oneCell'=true)/\(∀w,(isAgg t).run P w=.ok i.agg w):=by
 unfold cw at h;cases h1:P.info? t with
 |none=>simp [h1]at h
 |some ti =>
  cases h2:P.underlying t with
  |none=>simp [h1,h2]at h
  |some d =>
   cases h3:ti.zero with
   |none=>simp [h1,h2,h3]at h
   |some z =>
    simp only[h1,h2,h3]at h;split at h
    ·rename_i hc;simp only[afY]at h;subst h;refine⟨ti,d,z,rfl,rfl,h3,rfl,rfl,rfl,by simpa using hc.1,λv hv=>List.all_eq_true.1 hc.2 v hv,λw=>?_⟩;cases d <;> simp [isAgg,run_underlying h2]
    ·cases h
def cv:Value->V
 |.slice none 0 0=>.fu []
 |.agg _=>.any
 |.tuple _=>.any
 |v=>.d (.sc v)
theorem F9 {σ s w} (v:Value):aA σ s w (cv v) v:=by
 unfold cv;split
 ·exact .fu .nil
 ·exact .any
 ·exact .any
 ·rename_i h1 h2 h3;refine .d (.sc v ?_);cases v <;> simp_all [Value.oneCell']
def Uw:Value->V
 |.agg cs=>if cs.toList.all Value.oneCell'=true then .ag (cs.toList.map cv) else .any
 |v=>cv v
theorem S9 {σ s w} (v:Value):aA σ s w (Uw v) v:=by
 unfold Uw;split
 ·rename_i cs;split
  ·rename_i h;rw[af8]at h;refine .ag (by simp) (λi x hx=>?_) (λi x hx=>?_)
   ·rw[afO]at hx;obtain⟨y,hy,rfl⟩:=Option.map_eq_some_iff.1 hx;have h2:cs[i]?=some y:=by rw[<- agI];exact hy
    rw[agh,h2];exact h y (afW hy)
   ·rw[afO]at hx;obtain⟨y,hy,rfl⟩:=Option.map_eq_some_iff.1 hx;have h2:cs[i]?=some y:=by rw[<- agI];exact hy
    rw[agh,h2];exact F9 y
  ·exact .any
 ·exact F9 _
def ev (e:Nat->V):Operand->V
 |.tmp t=>e t
 |.const v=>Uw v
 |.global _=>.any
 |.func f=>.cl (.func f) [] []
def dT:V->Option (List V)
 |.ag cs=>some cs
 |.un|.any|.tu _|.cap ..=>none
 |v=>some [v]
theorem cJ.one {O w x u} (h:cJ O w x u):u.oneCell'=true:=by
 cases h <;> first|assumption|rfl
theorem mq (hr:aA σ s w x u) (hc:dT x=some cs) :
  u.cells.size=cs.length/\∀(i:Nat) (y:V),cs[i]?=some y->∃c,u.cells[i]?=some c/\c.oneCell'=true/\aA σ s w y c:=by
 have single:∀{y:V}{c:Value},c.oneCell'=true->aA σ s w y c->c.cells.size=[y].length/\∀(i:Nat) (z:V),[y][i]?=some z->∃b,c.cells[i]?=some b/\b.oneCell'=true/\aA σ s w z b:=by
  intro y c h1 h2;have lU:c.cells=#[c]:=by cases c <;> first|rfl|simp [Value.oneCell']at h1
  refine⟨by simp [lU],λi z hz=>?_⟩;cases i with
  |zero=>simp at hz;subst hz;exact⟨c,by simp [lU],h1,h2⟩
  |succ n=>simp at hz
 cases hr with
 |d h=>simp only[dT,afY]at hc;subst hc;exact single h.one (.d h)
 |ag h1 h2 h3 =>
  simp only[dT,afY]at hc;subst hc;refine⟨h1,λi y hy=>?_⟩;have hi:=(List.getElem?_eq_some_iff.1 hy).1;have e:∀{arr:Array Value},i<arr.size->arr[i]?=some (arr.getD i undef):=λh=>by simp [Array.getD,h]
  exact⟨_,e (by simp only[Value.cells];omega),h2 i y hy,h3 i y hy⟩
 |tu h1 h2=>simp [dT]at hc
 |fu h=>simp only[dT,afY]at hc;subst hc;exact single rfl (.fu h)
 |so o h1 h2 h3 h4=>simp only[dT,afY]at hc;subst hc;exact single h3.one (.so o h1 h2 h3 h4)
 |rf o h1 h2 h3 h4=>simp only[dT,afY]at hc;subst hc;exact single h3 (.rf o h1 h2 h3 h4)
 |pp o h1 h2 h3=>simp only[dT,afY]at hc;subst hc;exact single rfl (.pp o h1 h2 h3)
 |mp o h1 h2 h3 h4=>simp only[dT,afY]at hc;subst hc;exact single h3 (.mp o h1 h2 h3 h4)
 |bx h1 h2 h3 hu h4=>simp only[dT,afY]at hc;subst hc;exact single rfl (.bx h1 h2 h3 hu h4)
 |cap h1 h2=>simp [dT]at hc
 |cl h1 h2 h3 h4=>simp only[dT,afY]at hc;subst hc;exact single rfl (.cl h1 h2 h3 h4)
 |un=>simp [dT]at hc
 |any=>simp [dT]at hc
def pE (agg:Bool) (n:Nat) (cs:List V) (K:V->Prop):Prop :=
 match agg with
 |true=>n<=cs.length/\K (.ag (cs.take n))
 |false=>n=1/\match cs with|[]=>False|v::_=>K v
def lB (P:Program) (t:TypeId) (s:List Obj) (p:V) (K:V->Prop):Prop :=
 match cw P t with
 |none=>False
 |some i=>match p with
  |.d (.el cs)=>pE i.agg i.sz (cs.map .d) K
  |.bx v=>pE i.agg i.sz [v] K
  |.rf id g k off=>match s[id]? with
   |none=>False
   |some o=>o.g=g/\match o.aw[k]? with
    |none=>False
    |some cs=>pE i.agg i.sz (cs.drop off) K
  |.pp id g k off _ _=>match s[id]? with
   |none=>False
   |some o=>o.g=g/\match o.aw[k]? with
    |none=>False
    |some cs=>pE i.agg i.sz (cs.drop off) K
  |_=>False
theorem gk (h:a.spot=none) (n:Nat):a.add n=⟨a.block,a.off+n,none⟩:=by obtain⟨b,o,sp⟩:=a;simp only at h;subst h;unfold Addr.add;split <;> simp_all
theorem Ad{i:O9} (ht:cw P t=some i) (ha:a.spot=none) (f:Nat->Value) (n1:i.agg=false->i.sz=1)
  (hc:∀j,j<i.sz->w.cell? ⟨a.block,a.off+j,none⟩=some (f j)) :
  (loadVar t a).run P w=.ok (if i.agg then .agg ((List.range i.sz).map f).toArray else f 0) w:=by
 obtain⟨ti,d,z,h1,h2,h3,h4,h5,h6,h7,h8,h9⟩:=gL ht;have fF:(sizeOf t).run P w=.ok i.sz w:=by simp [sizeOf,typeInfo,h1,h4]
 cases yL:i.agg with
 |true =>
  rw[yL]at h9;have hl:=run_loadCells (P:=P) w a i.sz f (λj hj=>by rw[gk ha];exact hc j hj);simp [loadVar,h9,fF,hl]
 |false =>
  rw[yL]at h9;have Ja:=hc 0 (by rw[n1 yL];omega);have e:(⟨a.block,a.off+0,none⟩:Addr)=a:=by obtain⟨b,o,sp⟩:=a;simp_all
  rw[e]at Ja;simp [loadVar,h9,Ja]
theorem Br{i:O9} (ht:cw P t=some i) {σ s w} (ha:a.spot=none) (hk:pE i.agg i.sz cs K)
  (hc:∀j x,cs[j]?=some x->∃u,w.cell? ⟨a.block,a.off+j,none⟩=some u/\u.oneCell'=true/\aA σ s w x u) :
  ∃v c,(loadVar t a).run P w=.ok c w/\aA σ s w v c/\K v:=by
 have hf:∃f:Nat->Value,∀j x,cs[j]?=some x->w.cell? ⟨a.block,a.off+j,none⟩=some (f j)/\(f j).oneCell'=true/\aA σ s w x (f j):=by refine⟨λj=>(w.cell? ⟨a.block,a.off+j,none⟩).getD undef,λj x hx=>?_⟩;obtain⟨u,h1,h2,h3⟩:=hc j x hx;simp only[h1,ag9];exact⟨trivial,h2,h3⟩
 obtain⟨f,hf⟩:=hf;unfold pE at hk;cases yL:i.agg with
 |true =>
  rw[yL]at hk;obtain⟨hn,hk⟩:=hk;have ep:∀j,j<i.sz->cs[j]?=some (cs[j]?.getD .any):=λj hj=>by simp [show j<cs.length by omega]
  refine⟨_,_,Ad ht ha f (by simp [yL]) (λj hj=>(hf j _ (ep j hj)).1),?_,hk⟩;rw[yL];simp only[if_true];have e:∀j,j<i.sz->((List.range i.sz).map f).toArray.getD j undef=f j:=λj hj=>by simp [Array.getD,hj]
  have e2:∀j x,(cs.take i.sz)[j]?=some x->j<i.sz/\cs[j]?=some x:=by
   intro j x hx;rw[agt]at hx;split at hx
   ·exact⟨by assumption,hx⟩
   ·cases hx
  refine .ag (by simp [Nat.min_eq_left hn]) (λj x hx=>?_) (λj x hx=>?_)
  ·rw[e j (e2 j x hx).1];exact(hf j x (e2 j x hx).2).2.1
  ·rw[e j (e2 j x hx).1];exact(hf j x (e2 j x hx).2).2.2
 |false =>
  rw[yL]at hk;obtain⟨hn,hk⟩:=hk;cases cs with
  |nil=>exact hk.elim
  |cons v rest =>
   refine⟨v,_,Ad ht ha f (λ_=>hn) (λj hj=>?_),?_,hk⟩
   ·have:j=0:=by omega
    subst this;exact(hf 0 v rfl).1
   ·rw[yL];exact(hf 0 v rfl).2.2
theorem Mm{p:V} (hI:Inv σ s w) (hp:aA σ s w p u) (T9:∀id g i off b a,p≠.pp id g i off b a) (h:lB P t s p K) :
  ∃v c,(Instr.loadAt t u).run P w=.ok c w/\aA σ s w v c/\K v:=by
 unfold lB at h;cases ht:cw P t with
 |none=>rw[ht]at h;exact h.elim
 |some i =>
  rw[ht]at h;simp only at h;have fin:∀(a:Addr) (v:V) (c:Value),u=.pointer (some a)->(loadVar t a).run P w=.ok c w->aA σ s w v c->K v->∃v c,(Instr.loadAt t u).run P w=.ok c w/\aA σ s w v c/\K v:=by rintro a v c rfl h1 h2 h3;exact⟨v,c,by simp [Instr.loadAt,Instr.sureAddr,h1],h2,h3⟩
  cases hp with
  |pp o ho hg hk=>exact absurd rfl (T9 _ _ _ _ _ _)
  |d hx =>
   cases hx with
   |el cs a f h1 h2 h3 =>
    obtain⟨v,c,k1,k2,k3⟩:=Br (σ:=σ) (s:=s) (w:=w) ht h1 h (λj x hx=>by
     rw[afO]at hx;obtain⟨y,hy,rfl⟩:=Option.map_eq_some_iff.1 hx;exact⟨f j,(h2 j y hy).1,(h3 j y hy).one,.d (h3 j y hy)⟩)
    exact fin a v c rfl k1 k2 k3
   |_=>exact h.elim
  |bx h1 h2 h3 hu h4 =>
   obtain⟨v,c,k1,k2,k3⟩:=Br (σ:=σ) (s:=s) (w:=w) ht h1 h (λj x hx=>by
    cases j with
    |zero=>simp at hx;subst hx;exact⟨_,h2,hu,h4⟩
    |succ j=>simp at hx)
   exact fin _ v c rfl k1 k2 k3
  |rf o ho hg hu hk =>
   simp only[ho]at h;obtain⟨vK,h⟩:=h;obtain⟨b,base,hs,hC,rfl⟩:=hk vK;split at h
   ·exact h.elim
   ·rename_i id g k off _ cs mZ;rcases hI.content _ o ho with h1|⟨b',bI,arr,E,h1,h2,h3,h4,h5⟩
    ·exact(h1.Ax hs hC).elim
    ·rw[hs]at h1;cases h1;obtain⟨v,c,k1,k2,k3⟩:=Br (σ:=σ) (s:=s) (w:=w) (a:=⟨b,base+k*o.sz+off,none⟩) ht rfl h (λj x hx=>by
      rw[agR]at hx;obtain⟨y,k1,k2,k3⟩:=h5 k (off+j) x (by rw[mZ];exact hx);refine⟨y,?_,k2,k3⟩;simp only[World.cell?,h2];simpa [agM]using k1)
     exact fin _ v c rfl k1 k2 k3
  |_=>exact h.elim
theorem CC{p:V} (hI:Inv σ s w) (hp:aA σ s w p u) (h:lB P t s p K) :
  ∃v c,(Instr.loadAt t u).run P w=.ok c w/\aA σ s w v c/\K v:=by
 by_cases RI:∃id g i off b a,p=.pp id g i off b a
 ·obtain⟨id,g,i,off,b,a,rfl⟩:=RI;exact Mm hI hp.Ul (by intros;simp) h
 ·exact Mm hI hp (λid g i off b a he=>RI ⟨id,g,i,off,b,a,he⟩) h
def gI (cs:List V) (off:Nat) (ns:List V):List V:=cs.take off++ns++cs.drop (off+ns.length)
def gY (P:Program) (t:TypeId) (s:List Obj) (p x:V) (K:List Obj->Prop):Prop :=
 match cw P t with
 |none=>False
 |some i=>match p with
  |.rf id g k off=>match s[id]? with
   |none=>False
   |some o=>o.g=g/\o.live=true/\match o.aw[k]? with
    |none=>False
    |some cs=>match dT x with
     |none=>False
     |some ns=>ns.length=i.sz/\off+i.sz<=cs.length/\K (s.set id { o with aw:=o.aw.set k (gI cs off ns) })
  |.pp id g k off _ _=>match s[id]? with
   |none=>False
   |some o=>o.g=g/\o.live=true/\match o.aw[k]? with
    |none=>False
    |some cs=>match dT x with
     |none=>False
     |some ns=>ns.length=i.sz/\off+i.sz<=cs.length/\K (s.set id { o with aw:=o.aw.set k (gI cs off ns) })
  |_=>False
theorem ph (cs:List V) (off:Nat) (ns:List V) (h:off+ns.length<=cs.length) (j:Nat) :
  (gI cs off ns)[j]?=if off<=j/\j<off+ns.length then ns[j-off]? else cs[j]?:=by
 have hl:(cs.take off).length=off:=by simp;omega
 unfold gI;by_cases h1:j<off
 ·rw[ap (by omega),agu,af2 (by omega),agt,be h1]
 ·by_cases h2:j<off+ns.length
  ·rw[be (by omega),agu,af6 (by omega),hl,af2 (by omega)]
  ·rw[ap (by omega),af6 (by simp;omega),agR];congr 1;simp;omega
theorem rK (cs:List V) (off:Nat) (ns:List V) (h:off+ns.length<=cs.length):(gI cs off ns).length=cs.length:=by simp [gI];omega
theorem ud (σ:Gh) (id:Nat):mV σ id (σ id)=σ:=by
 obtain⟨m,b⟩:=σ;unfold mV;congr 1;funext k;split
 ·rename_i h;rw[h]
 ·rfl
theorem NB (hI:Inv σ s w){o:Obj} (ho:s[id]?=some o) (hl:o.live=true) {k:Nat}{ns:List V} (mZ:o.aw[k]?=some cs)
  (hfit:off+ns.length<=cs.length) (hs:σ id=some (b,base)) (hC:Fs w b) {us:List Value} (Yv:us.length=ns.length)
  (hrep:∀(j:Nat) (x:V),ns[j]?=some x->∃u,us[j]?=some u/\u.oneCell'=true/\aA σ s w x u) (Nn:∀u∈us,u.oneCell'=true) (P:Program) :
  ∃w',(storeCells ⟨b,base+k*o.sz+off,none⟩ us).run P w=.ok () w'/\aF σ s w σ (s.set id { o with aw:=o.aw.set k (gI cs off ns) }) w' /\
   Inv σ (s.set id { o with aw:=o.aw.set k (gI cs off ns) }) w':=by
 rcases hI.content _ o ho with h1|⟨b',bI,arr,E,h1,h2,h3,h4,h5⟩
 ·exact(h1.Ax hs hC).elim
 rw[hs]at h1;cases h1;have hk:k<o.aw.length:=(List.getElem?_eq_some_iff.1 mZ).1;have fK:cs.length=o.sz:=h3 cs (afW mZ);have aaA:k*o.sz+o.sz<=o.aw.length*o.sz:=by have:=agw o.sz (show k+1<=o.aw.length from hk);rw[agL,Nat.one_mul]at this;exact this
 have eu:=run_storeCells_at P b (base+k*o.sz+off) E us 0 arr w h2 (by rw[Yv];omega) Nn;simp only[ag0]at eu;generalize po:(arr.toList.take (base+k*o.sz+off)++us++arr.toList.drop (base+k*o.sz+off+us.length)).toArray=cf at eu;have jm:cf.size=arr.size:=by rw[<- po];simp;omega
 have ep:∀p,cf[p]?=if base+k*o.sz+off<=p/\p<base+k*o.sz+off+us.length then us[p-(base+k*o.sz+off)]? else arr[p]?:=by
  intro p;have hl:(arr.toList.take (base+k*o.sz+off)).length=base+k*o.sz+off:=by simp;omega
  rw[<- po,List.getElem?_toArray];by_cases g1:p<base+k*o.sz+off
  ·rw[ap (by omega),agu,af2 (by omega),agt,be g1,agI]
  ·by_cases g2:p<base+k*o.sz+off+us.length
   ·rw[be (by omega),agu,af6 (by omega),hl,af2 (by omega)]
   ·rw[ap (by omega),af6 (by simp;omega),agR,agI];congr 1;simp;omega
 refine⟨_,eu,?_⟩;have:=ml (p:=σ id) (w':=w.setRow b cf) (o':={ o with aw:=o.aw.set k (gI cs off ns) }) hI ho hl rfl rfl rfl (by simp)
  (λb1 _ cB=>setRow_other w b b1 cf (λe=>cB base (by rw[hs,e])))
  (λb1 jU UK E1 he hh=>by
   rw[hs]at he;cases he;rw[h2]at hh;cases hh;exact⟨cf,setRow_heap w b arr cf E (0,0) h2,jm⟩)
  (λb1 jU he hm=>by
   rw[hs]at he;cases he;exact(hC.notM hm).elim)
  (af3 _) (λ_=>⟨rfl,rfl⟩) (λb1 jU he=>.inl ⟨jU,he⟩)
  (λhE=>.inr ⟨b,base,cf,E,hs,setRow_heap w b arr cf E (0,0) h2,(by
   intro e he;simp only at he;rcases agU he with h'|h'
   ·exact h3 e h'
   ·rw[h',rK _ _ _ hfit];exact fK),(by simp only[agl];omega),(by
   intro i j x hx;simp only at hx ⊢;rw[ud]at hE ⊢;by_cases P6:i=k
   ·subst P6;rw[agc hk]at hx;simp only[agE]at hx;rw[ph _ _ _ hfit]at hx;split at hx
    ·rename_i zH;obtain⟨u,k1,k2,k3⟩:=hrep _ x hx;refine⟨u,?_,k2,k3.aX hE⟩;rw[ep,be (by omega),<- k1];congr 1;omega
    ·rename_i zH;obtain⟨u,k1,k2,k3⟩:=h5 i j x (by rw[mZ];exact hx);refine⟨u,?_,k2,k3.aX hE⟩;rw[ep,ap (by omega)];exact k1
   ·rw[agp (Ne.symm P6)]at hx;obtain⟨u,k1,k2,k3⟩:=h5 i j x hx;refine⟨u,?_,k2,k3.aX hE⟩;rw[ep,ap ?_]
    ·exact k1
    ·have PD:j<o.sz:=by
      cases he:o.aw[i]? with
      |none=>rw[he]at hx;cases hx
      |some e =>
       rw[he]at hx;have:=(List.getElem?_eq_some_iff.1 hx).1;rw[h3 e (afW he)]at this;exact this
     rcases Nat.lt_or_gt_of_ne P6 with az|az
     ·have:=agw o.sz (show i+1<=k from az);rw[agL,Nat.one_mul]at this;omega
     ·have:=agw o.sz (show k+1<=i from az);rw[agL,Nat.one_mul]at this;omega)⟩)
 rw[ud]at this;exact this
theorem Jk{p:V}{K:List Obj->Prop} (hI:Inv σ s w) (hp:aA σ s w p u) (hx:aA σ s w x c) (T9:∀id g i off b a,p≠.pp id g i off b a) (h:gY P t s p x K) :
  ∃s' w',(Instr.storeAt t u c).run P w=.ok () w'/\aF σ s w σ s' w'/\Inv σ s' w'/\K s':=by
 unfold gY at h;cases ht:cw P t with
 |none=>rw[ht]at h;exact h.elim
 |some i =>
  rw[ht]at h;simp only at h;cases hp with
  |rf o ho hg hu hk =>
   simp only[ho]at h;obtain⟨vK,hl,h⟩:=h;obtain⟨b,base,hs,hC,rfl⟩:=hk vK;split at h
   ·exact h.elim
   ·rename_i id g k off _ cs mZ;split at h
    ·exact h.elim
    ·rename_i ns wK;obtain⟨h1,h2,h3⟩:=h;obtain⟨Ap,su⟩:=mq hx wK;obtain⟨ti,d,z,k1,k2,k3,k4,k5,k6,k7,k8,k9⟩:=gL ht;have fF:∀w,(sizeOf t).run P w=.ok i.sz w:=λw=>by simp [sizeOf,typeInfo,k1,k4]
     obtain⟨w',r1,r2,r3⟩:=NB hI ho hl mZ (ns:=ns) (off:=off) (by omega) hs hC (us:=c.cells.toList) (by simpa using Ap)
      (λj x hx=>by
       obtain⟨u,e1,e2,e3⟩:=su j x hx;exact⟨u,by rw[agI];exact e1,e2,e3⟩)
      (λu hu=>by
       obtain⟨j,hj,rfl⟩:=List.mem_iff_getElem.1 hu;have hj':j<ns.length:=by simpa [Ap]using hj
       obtain⟨u,e1,e2,e3⟩:=su j ns[j] (by simp [hj']);have:c.cells.toList[j]=u:=by rw[<- agI]at e1;exact(List.getElem?_eq_some_iff.1 e1).2
       rw[this];exact e2) P
     refine⟨_,w',?_,r2,r3,h3⟩;simp [Instr.storeAt,Instr.sureAddr,storeVar,fF,Ap,h1,r1]
  |pp o ho hg hk=>exact absurd rfl (T9 _ _ _ _ _ _)
  |_=>exact h.elim
theorem Ho{p:V}{K:List Obj->Prop} (hI:Inv σ s w) (hp:aA σ s w p u) (hx:aA σ s w x c) (h:gY P t s p x K) :
  ∃s' w',(Instr.storeAt t u c).run P w=.ok () w'/\aF σ s w σ s' w'/\Inv σ s' w'/\K s':=by
 by_cases RI:∃id g i off b a,p=.pp id g i off b a
 ·obtain⟨id,g,i,off,b,a,rfl⟩:=RI;exact Jk hI hp.Ul hx (by intros;simp) h
 ·exact Jk hI hp hx (λid g i off b a he=>RI ⟨id,g,i,off,b,a,he⟩) h
end Go.VL
