/- A part of the proof (Va Vb Vc). -/
import Derived.WalkKit
import Derived.WalkSpells
import Derived.ChangeKeysEq
import Derived.Deep.AppendSrc
set_option linter.unusedSimpArgs false
set_option linter.unusedVariables false
set_option maxRecDepth 100000
set_option maxHeartbeats 80000000
namespace Go.VL
variable{p:Option (Nat×Nat)}{i:Nat}{u:Value}{w:World}{b:Nat}{a:Addr}{id:Nat}{off:Nat}{base:Nat}{w':World}{P:Program}{t:TypeId}{c:Value}
theorem am {a b c d e f g h:Prop}(i:a)(j:b)(k:c)(l:d)(m:e)(n:f)(o:g)(p:h):a∧b∧c∧d∧e∧f∧g∧h:=⟨i,j,k,l,m,n,o,p⟩
theorem ap.{u}:type_of% @if_neg.{u}:=@if_neg.{u}
theorem be.{u}:type_of% @if_pos.{u}:=@if_pos.{u}
theorem bi:type_of% @decide_eq_true:=@decide_eq_true
theorem ce:type_of% @decide_eq_false:=@decide_eq_false
theorem aiW:type_of% @List.length_map.{0,0}:=@List.length_map.{0,0}
theorem aiX:type_of% @List.cons_append.{0}:=@List.cons_append.{0}
theorem aiY:type_of% @List.getElem?_map.{0,0}:=@List.getElem?_map.{0,0}
theorem aiZ:type_of% @List.map_cons.{0,0}:=@List.map_cons.{0,0}
theorem ai0:type_of% @List.nil_append.{0}:=@List.nil_append.{0}
theorem ai1:type_of% @Int.toNat_natCast:=@Int.toNat_natCast
theorem ai2:type_of% @List.map_nil.{0,0}:=@List.map_nil.{0,0}
theorem ai3:type_of% @Option.map_some.{0,0}:=@Option.map_some.{0,0}
theorem ai4:type_of% @List.mem_of_getElem?.{0}:=@List.mem_of_getElem?.{0}
theorem ai5:type_of% @Option.some.injEq.{0}:=@Option.some.injEq.{0}
theorem ai6:type_of% @List.length_append.{0}:=@List.length_append.{0}
theorem ai7:type_of% @Nat.zero_add:=@Nat.zero_add
theorem ai8:type_of% @List.length_cons.{0}:=@List.length_cons.{0}
theorem ai9:type_of% @List.length_nil.{0}:=@List.length_nil.{0}
theorem aja:type_of% @List.getD_eq_getElem?_getD.{0}:=@List.getD_eq_getElem?_getD.{0}
theorem ajb:type_of% @List.take_of_length_le.{0}:=@List.take_of_length_le.{0}
theorem ajc:type_of% @Nat.le_refl:=@Nat.le_refl
theorem ajd:type_of% @Bool.not_false:=@Bool.not_false
theorem aje:type_of% @Bool.not_true:=@Bool.not_true
theorem ajf:type_of% @Bool.false_eq_true:=@Bool.false_eq_true
theorem ajg:type_of% @List.getElem?_eq_getElem.{0}:=@List.getElem?_eq_getElem.{0}
theorem ajh:type_of% @List.getElem?_append_right.{0}:=@List.getElem?_append_right.{0}
theorem aji:type_of% @Bool.and_eq_true:=@Bool.and_eq_true
theorem ajj:type_of% @List.getElem?_append_left.{0}:=@List.getElem?_append_left.{0}
theorem ajk:type_of% @Bool.and_true:=@Bool.and_true
theorem ajl:type_of% @Array.getD_eq_getD_getElem?.{0}:=@Array.getD_eq_getD_getElem?.{0}
theorem ajm:type_of% @List.getElem?_set_self.{0}:=@List.getElem?_set_self.{0}
theorem ajn:type_of% @Int.natCast_zero:=@Int.natCast_zero
theorem ajo:type_of% @List.all_eq_true.{0}:=@List.all_eq_true.{0}
theorem ajp:type_of% @List.length_set.{0}:=@List.length_set.{0}
theorem ajq:type_of% @List.append_assoc.{0}:=@List.append_assoc.{0}
theorem ajr:type_of% @Nat.lt_or_ge:=@Nat.lt_or_ge
theorem ajs:type_of% @Int.le_refl:=@Int.le_refl
theorem ajt:type_of% @List.take_length.{0}:=@List.take_length.{0}
theorem aju:type_of% @List.set_cons_zero.{0}:=@List.set_cons_zero.{0}
theorem ajv:type_of% @List.getElem?_cons_zero.{0}:=@List.getElem?_cons_zero.{0}
theorem ajw:type_of% @List.set_cons_succ.{0}:=@List.set_cons_succ.{0}
theorem ajx:type_of% @Bool.false_or:=@Bool.false_or
theorem ajy:type_of% @List.getElem?_set_ne.{0}:=@List.getElem?_set_ne.{0}
theorem ajz:type_of% @List.length_singleton.{0}:=@List.length_singleton.{0}
theorem ajA:type_of% @List.getElem?_take.{0}:=@List.getElem?_take.{0}
theorem ajB:type_of% @List.eq_nil_of_length_eq_zero.{0}:=@List.eq_nil_of_length_eq_zero.{0}
theorem ajC:type_of% @Bool.true_or:=@Bool.true_or
theorem ajD:type_of% @Nat.mul_le_mul_right:=@Nat.mul_le_mul_right
theorem ajE:type_of% @Prod.mk.injEq.{0,0}:=@Prod.mk.injEq.{0,0}
theorem ajF:type_of% @List.mem_cons.{0}:=@List.mem_cons.{0}
theorem ajG:type_of% @Int.mul_le_mul_of_nonneg_right:=@Int.mul_le_mul_of_nonneg_right
theorem ajH:type_of% @List.getElem?_eq_none.{0}:=@List.getElem?_eq_none.{0}
theorem ajI:type_of% @Nat.add_assoc:=@Nat.add_assoc
theorem ajJ:type_of% @List.getElem?_cons_succ.{0}:=@List.getElem?_cons_succ.{0}
theorem ajK:type_of% @List.map_congr_left.{0,0}:=@List.map_congr_left.{0,0}
theorem ajL:type_of% @List.map_map.{0,0,0}:=@List.map_map.{0,0,0}
theorem ajM:type_of% @Option.bind_some.{0,0}:=@Option.bind_some.{0,0}
theorem ajN:type_of% @Array.getElem?_toList.{0}:=@Array.getElem?_toList.{0}
theorem ajO:type_of% @Bool.eq_false_iff:=@Bool.eq_false_iff
theorem ajP:type_of% @List.not_mem_nil.{0}:=@List.not_mem_nil.{0}
theorem ajQ:type_of% @List.drop_zero.{0}:=@List.drop_zero.{0}
theorem ajR:type_of% @Nat.add_mul:=@Nat.add_mul
theorem ajS:type_of% @List.all_cons.{0}:=@List.all_cons.{0}
theorem ajT:type_of% @List.mem_of_mem_take.{0}:=@List.mem_of_mem_take.{0}
theorem ajU:type_of% @List.getElem?_drop.{0}:=@List.getElem?_drop.{0}
theorem ajV:type_of% @List.all_nil.{0}:=@List.all_nil.{0}
theorem ajW:type_of% @List.getD_cons_succ.{0}:=@List.getD_cons_succ.{0}
theorem ajX:type_of% @List.ext_getElem?.{0}:=@List.ext_getElem?.{0}
theorem ajY:type_of% @List.countP_le_length.{0}:=@List.countP_le_length.{0}
theorem ajZ:type_of% @Int.lt_irrefl:=@Int.lt_irrefl
theorem aj0:type_of% @Nat.le_trans:=@Nat.le_trans
theorem aj1:type_of% @List.take_succ_cons.{0}:=@List.take_succ_cons.{0}
theorem aj2:type_of% @List.getD_cons_zero.{0}:=@List.getD_cons_zero.{0}
theorem aj3:type_of% @List.length_take.{0}:=@List.length_take.{0}
theorem aj4:type_of% @List.mem_or_eq_of_mem_set.{0}:=@List.mem_or_eq_of_mem_set.{0}
theorem aj5:type_of% @Nat.add_zero:=@Nat.add_zero
theorem aj6:type_of% @List.length_replicate.{0}:=@List.length_replicate.{0}
theorem aj7:type_of% @Nat.lt_irrefl:=@Nat.lt_irrefl
theorem aj8:type_of% @Array.getElem?_append_left.{0}:=@Array.getElem?_append_left.{0}
theorem aj9:type_of% @Int.natCast_add:=@Int.natCast_add
theorem aka:type_of% @Bool.and_self:=@Bool.and_self
theorem akb:type_of% @List.getElem?_replicate.{0}:=@List.getElem?_replicate.{0}
theorem akc:type_of% @List.take_zero.{0}:=@List.take_zero.{0}
theorem akd:type_of% @Array.getElem?_append_right.{0}:=@Array.getElem?_append_right.{0}
theorem ake:type_of% @Bool.true_and:=@Bool.true_and
theorem akf:type_of% @List.map_append.{0,0}:=@List.map_append.{0,0}
theorem akg:type_of% @List.foldl_cons.{0,0}:=@List.foldl_cons.{0,0}
theorem akh:type_of% @List.set_append_right.{0}:=@List.set_append_right.{0}
theorem aki:type_of% @List.mapM_cons.{0,0,0}:=@List.mapM_cons.{0,0,0}
theorem akj:type_of% @Int.mul_nonneg:=@Int.mul_nonneg
theorem akk:type_of% @List.mem_of_mem_drop.{0}:=@List.mem_of_mem_drop.{0}
theorem akl:type_of% @Option.getD_some.{0}:=@Option.getD_some.{0}
theorem akm:type_of% @List.all_append.{0}:=@List.all_append.{0}
theorem akn:type_of% @Bool.eq_false_or_eq_true:=@Bool.eq_false_or_eq_true
theorem ako:type_of% @Nat.lt_of_lt_of_le:=@Nat.lt_of_lt_of_le
theorem akp:type_of% @Nat.sub_self:=@Nat.sub_self
theorem akq:type_of% @Bool.or_false:=@Bool.or_false
theorem akr:type_of% @List.all_eq_false.{0}:=@List.all_eq_false.{0}
theorem aks:type_of% @Int.natCast_nonneg:=@Int.natCast_nonneg
theorem akt:type_of% @Array.length_toList.{0}:=@Array.length_toList.{0}
theorem aku:type_of% @List.take_append_drop.{0}:=@List.take_append_drop.{0}
theorem akv:type_of% @List.map_set.{0,0}:=@List.map_set.{0,0}
theorem ae{p:Prop}(h:p:=by omega):p:=h
theorem aj{p:Prop}(h:p:=by simp):p:=h
theorem eX{p:Prop}(h:p:=by simp [ak,ak.go,aq,i64,bV,gH]):p:=h
theorem aJ{p:Prop}(h:p:=by decide):p:=h
theorem aN{p:Prop}(h:p:=by rfl):p:=h
theorem cG{p:Prop}(h:p:=by simp;omega):p:=h
theorem sW{p:Prop}(h:p:=by first|omega|exact⟨by omega,by omega⟩|(simp;done)):p:=h
theorem oG{p:Prop}(h:p:=by simp only;omega):p:=h
theorem ed{p:Prop}(h:p:=by first|exact⟨rfl,rfl⟩|exact⟨rfl,trivial⟩|rfl|trivial|(rw[aq];rfl)):p:=h
theorem bd.{u}{α:Sort u}{c:Prop}[Decidable c]{a b:α}(h:¬c:=by omega):ite c a b=b:=ap h
theorem tK.{u}{α:Sort u}{c:Prop}[Decidable c]{a b:α}(h:c:=by omega):ite c a b=a:=be h
theorem bZ{α:Type}{l:List α}(h:i<l.length:=by omega):∃k,l[i]?=some k:=⟨_,ajg h⟩
inductive D where
 |sc (v:Value)
 |sl (aw:List (List D))
 |el (cs:List D)
 |cl (fn:Fn) (first ai:List D)
 |ub
inductive V where
 |d (x:D)
 |ag (cs:List V)
 |fu (aw:List (List D))
 |so (id g lo n:Nat)
 |rf (id g i off:Nat)
 |pp (id g i off b a:Nat)
 |mp (id g:Nat)
 |bx (v:V)
 |cap (lo hi:Nat) (v:V)
 |cl (fn:Fn) (first ai:List V)
 |tu (vs:List V)
 |un
 |any
variable{x:V}{cs:List V}{K:V->Prop}
structure Obj where
 g:Nat
 live:Bool
 sz:Nat
 aw:List (List V)
variable{o:Obj}{o':Obj}{s:List Obj}
structure Gh where
 map:Nat->Option (Nat×Nat)
 base:Nat->Prop
variable{σ:Gh}
instance:CoeFun Gh (λ_=>Nat->Option (Nat×Nat)):=⟨Gh.map⟩
def Own (σ:Gh) (s:List Obj) (b:Nat):Prop:=σ.base b\/∃id o base,s[id]?=some o/\o.live=true/\σ id=some (b,base)
inductive cY (O:Nat->Prop) (w:World):D->Value->Prop
 |sc (v:Value):v.oneCell'=true->cY O w (.sc v) v
 |nil:cY O w (.sl []) (.slice none 0 0)
 |sl (aw:List (List D)) (a:Addr) (cap sz:Nat) (f:Nat->Nat->Value):aw.length<=cap->(aw≠[]->a.spot=none)->(∀e∈aw,e.length=sz) ->
   (∀i j x,(aw[i]?.bind (·[j]?))=some x->w.cell? ⟨a.block,a.off+i*sz+j,none⟩=some (f i j)/\¬O a.block) ->
   (∀i j x,(aw[i]?.bind (·[j]?))=some x->cY O w x (f i j))->cY O w (.sl aw) (.slice (some a) aw.length cap)
 |el (cs:List D) (a:Addr) (f:Nat->Value):a.spot=none ->
   (∀j x,cs[j]?=some x->w.cell? ⟨a.block,a.off+j,none⟩=some (f j)/\¬O a.block) ->
   (∀j x,cs[j]?=some x->cY O w x (f j))->cY O w (.el cs) (.pointer (some a))
 |cl {fn:Fn}{first ai:List D}{f' c':Array Value}:f'.size=first.length->(∀i x,first[i]?=some x->cY O w x (f'.getD i undef)) ->
   c'.size=ai.length->(∀i x,ai[i]?=some x->cY O w x (c'.getD i undef))->cY O w (.cl fn first ai) (.func fn f' c')
 |ub (b:Bool):cY O w .ub (.bool b)
def AI (σ:Gh) (w:World) (id:Nat) (o:Obj) (lo n:Nat) (u:Value):Prop :=
 (σ id=none/\(∃a,u=.slice a 0 0)/\lo=0/\n=0) \/
 ∃b base cap E arr,σ id=some (b,base)/\w.heap[b]?=some (.cells arr E (0,0))/\u=.slice (some ⟨b,base+lo*o.sz,none⟩) n cap/\n<=cap/\base+(lo+cap)*o.sz<=arr.size
def SlN (n:Nat) (u:Value):Prop:=∃a c,u=.slice a n c
theorem SlN.one {n:Nat} (h:SlN n u):u.oneCell'=true:=by obtain⟨_,_,rfl⟩:=h;rfl
def HZ (w:World) (b:Nat):Prop:=∃arr E,w.heap[b]?=some (.cells arr E (0,0))
def RO (w:World) (b:Nat):Prop:=∃es c,w.heap[b]?=some (.map es c)
def TY (lo hi:Nat) (u:Value):Prop:=∀a n c,u=.slice a n c->lo<=c/\c<=hi
inductive aC (σ:Gh) (s:List Obj) (w:World):V->Value->Prop
 |d {x:D}{u:Value}:cY (Own σ s) w x u->aC σ s w (.d x) u
 |ag {cs:List V}{arr:Array Value}:arr.size=cs.length->(∀i x,cs[i]?=some x->(arr.getD i undef).oneCell'=true) ->
   (∀i x,cs[i]?=some x->aC σ s w x (arr.getD i undef))->aC σ s w (.ag cs) (.agg arr)
 |tu {cs:List V}{arr:Array Value}:arr.size=cs.length->(∀i x,cs[i]?=some x->aC σ s w x (arr.getD i undef))->aC σ s w (.tu cs) (.tuple arr)
 |fu {aw:List (List D)}{a:Option Addr}:cY (Own σ s) w (.sl aw) (.slice a aw.length aw.length)->aC σ s w (.fu aw) (.slice a aw.length aw.length)
 |so {id g lo n:Nat}{u:Value} (o:Obj):s[id]?=some o->g<=o.g->SlN n u->(o.g=g->AI σ w id o lo n u)->aC σ s w (.so id g lo n) u
 |rf {id g i off:Nat}{u:Value} (o:Obj):s[id]?=some o->g<=o.g->u.oneCell'=true->(o.g=g->∃b base,σ id=some (b,base)/\HZ w b/\u=.pointer (some ⟨b,base+i*o.sz+off,none⟩)) ->
   aC σ s w (.rf id g i off) u
 |pp {id g i off b a:Nat} (o:Obj):s[id]?=some o->g<=o.g->(o.g=g->∃base,σ id=some (b,base)/\HZ w b/\a=base+i*o.sz+off)->aC σ s w (.pp id g i off b a) (.pointer (some ⟨b,a,none⟩))
 |mp {id g:Nat}{u:Value} (o:Obj):s[id]?=some o->g<=o.g->u.oneCell'=true->(o.g=g->∃b,σ id=some (b,0)/\RO w b/\u=.map (some b))->aC σ s w (.mp id g) u
 |bx {v:V}{a:Addr}{u:Value}:a.spot=none->w.cell? ⟨a.block,a.off,none⟩=some u->¬Own σ s a.block->u.oneCell'=true->aC σ s w v u->aC σ s w (.bx v) (.pointer (some a))
 |cap {lo hi:Nat}{v:V}{u:Value}:TY lo hi u->aC σ s w v u->aC σ s w (.cap lo hi v) u
 |cl {fn:Fn}{first ai:List V}{f' c':Array Value}:f'.size=first.length->(∀i x,first[i]?=some x->aC σ s w x (f'.getD i undef)) ->
   c'.size=ai.length->(∀i x,ai[i]?=some x->aC σ s w x (c'.getD i undef))->aC σ s w (.cl fn first ai) (.func fn f' c')
 |un:aC σ s w .un undef
 |any {u:Value}:aC σ s w .any u
structure aG (σ:Gh) (s:List Obj) (w:World) (σ':Gh) (s':List Obj) (w':World):Prop where
 os:w'.os=w.os
 tape:w'.tape=w.tape
 output:w'.output=w.output
 size:w.heap.size<=w'.heap.size
 ba:∀b,b<w.heap.size->¬Own σ s b->w'.heap[b]?=w.heap[b]?
 shape:∀b arr E,Own σ s b->w.heap[b]?=some (.cells arr E (0,0))->∃cE,w'.heap[b]?=some (.cells cE E (0,0))/\cE.size=arr.size
 qY:∀b,Own σ s b->RO w b->RO w' b
 own:∀b,Own σ' s' b->Own σ s b\/w.heap.size<=b
 Aj:∀id o,s[id]?=some o->∃o',s'[id]?=some o'/\o.g<=o'.g/\(o'.g=o.g->o'.sz=o.sz/\σ' id=σ id)
 base:σ'.base=σ.base
 gW:∀b,b<w.heap.size->σ.base b->w'.heap[b]?=w.heap[b]?
theorem aG.refl (σ:Gh) (s:List Obj) (w:World):aG σ s w σ s w :=
 ⟨rfl,rfl,rfl,ajc _,λ_ _ _=>rfl,λ_ arr _ _ h=>⟨arr,h,rfl⟩,λ_ _ h=>h,λ_ h=>.inl h,λ_ o h=>⟨o,h,ajc _,λ_=>⟨rfl,rfl⟩⟩,rfl,λ_ _ _=>rfl⟩
theorem eg{o:Go.Obj} (h:w.heap[b]?=some o):b<w.heap.size:=by
 rcases ajr b w.heap.size with h'|h'
 ·exact h'
 ·simp [Array.getElem?_eq_none h']at h
theorem aG.trans {σ s w σ' s' w' σ'' Co Rb} (h:aG σ s w σ' s' w') (k:aG σ' s' w' σ'' Co Rb):aG σ s w σ'' Co Rb:=by
 refine⟨k.os.trans h.os,k.tape.trans h.tape,k.output.trans h.output,aj0 h.size k.size,?_,?_,?_,?_,?_,k.base.trans h.base,
  λb hb ho=>(k.gW b (ako hb h.size) (by rw[h.base];exact ho)).trans (h.gW b hb ho)⟩
 ·intro b hb ho;rw[k.ba b (ako hb h.size) (λh'=>(h.own b h').elim ho (λXh=>ae)),h.ba b hb ho]
 ·intro b arr E ho hh;obtain⟨cE,h1,h2⟩:=h.shape b arr E ho hh;by_cases jV:Own σ' s' b
  ·obtain⟨aam,h3,h4⟩:=k.shape b cE E jV h1;exact⟨aam,h3,ae⟩
  ·exact⟨cE,by rw[k.ba b (eg h1) jV];exact h1,h2⟩
 ·intro b ho hh;obtain⟨es,c,h1⟩:=h.qY b ho hh;by_cases jV:Own σ' s' b
  ·exact k.qY b jV ⟨es,c,h1⟩
  ·exact⟨es,c,by rw[k.ba b (eg h1) jV];exact h1⟩
 ·intro b hb;rcases k.own b hb with h'|h'
  ·exact h.own b h'
  ·exact .inr (aj0 h.size h')
 ·intro id o ho;obtain⟨o',h1,h2,h3⟩:=h.Aj id o ho;obtain⟨o'',k1,k2,k3⟩:=k.Aj id o' h1;refine⟨o'',k1,aj0 h2 k2,λhe=>?_⟩;have e1:o'.g=o.g:=ae;have e2:o''.g=o'.g:=ae;exact⟨(k3 e2).1.trans (h3 e1).1,(k3 e2).2.trans (h3 e1).2⟩
theorem aG.cell {σ s w σ' s' w'} (h:aG σ s w σ' s' w') (hc:w.cell? a=some u) (ho:¬Own σ s a.block) :
  w'.cell? a=some u/\¬Own σ' s' a.block:=by
 have hb:=World.block_lt_of_cell? _ _ hc;refine⟨?_,λh'=>?_⟩
 ·rw[World.cell?_of_block (w:=w) (h.ba a.block hb ho)];exact hc
 ·rcases h.own _ h' with h'|h'
  ·exact ho h'
  ·omega
theorem cY.aZ {σ s w σ' s' w'} (h:aG σ s w σ' s' w') {x:D} (hr:cY (Own σ s) w x u):cY (Own σ' s') w' x u:=by
 induction hr with
 |sc v hv=>exact .sc v hv
 |nil=>exact .nil
 |sl aw a cap sz f h1 h2 h3 h4 _ ih=>exact .sl aw a cap sz f h1 h2 h3 (λi j x hx=>h.cell (a:=⟨a.block,_,none⟩) (h4 i j x hx).1 (h4 i j x hx).2) ih
 |el cs a f h1 h2 _ ih=>exact .el cs a f h1 (λj x hx=>h.cell (a:=⟨a.block,_,none⟩) (h2 j x hx).1 (h2 j x hx).2) ih
 |cl h1 _ h3 _ Aq gy=>exact .cl h1 Aq h3 gy
 |ub b=>exact .ub b
theorem cY.own {O O':Nat->Prop}{x:D} (h:∀b,O' b->O b) (hr:cY O w x u):cY O' w x u:=by
 induction hr with
 |sc v hv=>exact .sc v hv
 |nil=>exact .nil
 |sl aw a cap sz f h1 h2 h3 h4 _ ih=>exact .sl aw a cap sz f h1 h2 h3 (λi j x hx=>⟨(h4 i j x hx).1,λh'=>(h4 i j x hx).2 (h _ h')⟩) ih
 |el cs a f h1 h2 _ ih=>exact .el cs a f h1 (λj x hx=>⟨(h2 j x hx).1,λh'=>(h2 j x hx).2 (h _ h')⟩) ih
 |cl h1 _ h3 _ Aq gy=>exact .cl h1 Aq h3 gy
 |ub b=>exact .ub b
theorem AI.aZ {σ s w σ' s' w'} (h:aG σ s w σ' s' w'){lo n:Nat} (fY:o'.sz=o.sz) (hs:σ' id=σ id)
  (hk:AI σ w id o lo n u):AI σ' w' id o' lo n u:=by
 rcases hk with ⟨h1,h2,h3,h4⟩|⟨b,base,cap,E,arr,h1,h2,h3,h4,h5⟩
 ·exact .inl ⟨hs.trans h1,h2,h3,h4⟩
 ·by_cases hO:Own σ s b
  ·obtain⟨cE,k1,k2⟩:=h.shape b arr E hO h2;exact .inr ⟨b,base,cap,E,cE,hs.trans h1,k1,by rw[fY];exact h3,h4,by rw[fY,k2];exact h5⟩
  ·exact .inr ⟨b,base,cap,E,arr,hs.trans h1,by rw[h.ba b (eg h2) hO];exact h2,by rw[fY];exact h3,h4,by rw[fY];exact h5⟩
theorem HZ.aZ {σ s w σ' s' w'} (h:aG σ s w σ' s' w') (hc:HZ w b):HZ w' b:=by
 obtain⟨arr,E,hh⟩:=hc;by_cases hO:Own σ s b
 ·obtain⟨cE,k1,_⟩:=h.shape b arr E hO hh;exact⟨cE,E,k1⟩
 ·exact⟨arr,E,by rw[h.ba b (eg hh) hO];exact hh⟩
theorem RO.aZ {σ s w σ' s' w'} (h:aG σ s w σ' s' w') (hc:RO w b):RO w' b:=by
 by_cases hO:Own σ s b
 ·exact h.qY b hO hc
 ·obtain⟨es,c,hh⟩:=hc;exact⟨es,c,by rw[h.ba b (eg hh) hO];exact hh⟩
theorem HZ.notM (h:HZ w b) (k:RO w b):False:=by obtain⟨arr,E,h⟩:=h;obtain⟨es,c,k⟩:=k;rw[h]at k;cases k
theorem aC.aZ {σ s w σ' s' w'} (h:aG σ s w σ' s' w') (hr:aC σ s w x u):aC σ' s' w' x u:=by
 induction hr with
 |d hx=>exact .d (hx.aZ h)
 |ag h1 h2 _ ih=>exact .ag h1 h2 ih
 |tu h1 _ ih=>exact .tu h1 ih
 |fu hx=>exact .fu (hx.aZ h)
 |so o ho hg hu hk =>
  obtain⟨o',h1,h2,h3⟩:=h.Aj _ o ho;exact .so o' h1 (aj0 hg h2) hu λhe=>have e:o'.g=o.g:=by omega
   AI.aZ h (h3 e).1 (h3 e).2 (hk ae)
 |rf o ho hg hu hk =>
  obtain⟨o',h1,h2,h3⟩:=h.Aj _ o ho;refine .rf o' h1 (aj0 hg h2) hu λhe=>?_;have e:o'.g=o.g:=ae;obtain⟨b,base,k1,kc,k2⟩:=hk ae;exact⟨b,base,(h3 e).2.trans k1,kc.aZ h,by rw[(h3 e).1];exact k2⟩
 |pp o ho hg hk =>
  obtain⟨o',h1,h2,h3⟩:=h.Aj _ o ho;refine .pp o' h1 (aj0 hg h2) λhe=>?_;have e:o'.g=o.g:=ae;obtain⟨base,k1,kc,k2⟩:=hk ae;exact⟨base,(h3 e).2.trans k1,kc.aZ h,by rw[(h3 e).1];exact k2⟩
 |mp o ho hg hu hk =>
  obtain⟨o',h1,h2,h3⟩:=h.Aj _ o ho;refine .mp o' h1 (aj0 hg h2) hu λhe=>?_;have e:o'.g=o.g:=ae;obtain⟨b,k1,kc,k2⟩:=hk ae;exact⟨b,(h3 e).2.trans k1,kc.aZ h,k2⟩
 |cap h1 _ ih=>exact .cap h1 ih
 |bx h1 h2 h3 hu _ ih =>
  obtain⟨k1,k2⟩:=h.cell h2 h3;exact .bx h1 k1 k2 hu ih
 |cl h1 _ h3 _ Aq gy=>exact .cl h1 Aq h3 gy
 |un=>exact .un
 |any=>exact .any
theorem aC.Xk {σ s w}{g a:Nat} (h:aC σ s w (.pp id g i off b a) u):aC σ s w (.rf id g i off) u:=by
 cases h with
 |pp o ho hg hk=>exact .rf o ho hg rfl λhe=>let ⟨base,h1,h2,h3⟩:=hk he;⟨b,base,h1,h2,by rw[h3]⟩
theorem aC.Ib {σ s w}{g a:Nat} (h:aC σ s w (.pp id g i off b a) u):u=.pointer (some ⟨b,a,none⟩):=by
 cases h with
 |pp o ho hg hk=>rfl
def fZ (es:Array MapEntry):List (List V):=es.toList.map λe=>[V.d (.sc e.key),V.d (.sc e.val)]
def wU (w:World) (p:Option (Nat×Nat)) (o:Obj):Prop :=
 (p=none/\o.aw=[])\/∃b es c,p=some (b,0)/\w.heap[b]?=some (.map es c)/\o.aw=fZ es
theorem wU.Cz (h:wU w p o) (hp:p=some (b,base)) (hc:HZ w b):False:=by
 rcases h with ⟨h,_⟩|⟨b',es,c,h,hh,_⟩
 ·rw[hp]at h;cases h
 ·rw[hp]at h;cases h;exact hc.notM ⟨es,c,hh⟩
theorem wU.congr (h:wU w p o') (he:o.aw=o'.aw):wU w p o:=by unfold wU at *;rw[he];exact h
theorem wU.Ji (h:wU w p o) (hp:p=none):o.aw=[]:=by
 rcases h with ⟨_,h⟩|⟨b',es,c,h,_⟩
 ·exact h
 ·rw[hp]at h;cases h
structure Inv (σ:Gh) (s:List Obj) (w:World):Prop where
 content:∀id o,s[id]?=some o->wU w (σ id) o\/∃b base arr E,σ id=some (b,base)/\w.heap[b]?=some (.cells arr E (0,0)) /\
  (∀e∈o.aw,e.length=o.sz)/\base+o.aw.length*o.sz<=arr.size /\
  ∀i j x,(o.aw[i]?.bind (·[j]?))=some x->∃u,arr[base+i*o.sz+j]?=some u/\u.oneCell'=true/\aC σ s w x u
 inj:∀id lV o o' b base bQ,s[id]?=some o->s[lV]?=some o'->o.live=true->σ id=some (b,base)->σ lV=some (b,bQ)->id=lV
 low:∀b,σ.base b->b<w.heap.size
 apart:∀id o b base,s[id]?=some o->σ id=some (b,base)->¬σ.base b
def pK (σ:Gh) (id:Nat) (p:Option (Nat×Nat)):Gh:=⟨λk=>if k=id then p else σ k,σ.base⟩
theorem cc (σ:Gh) (id:Nat) (p:Option (Nat×Nat)):pK σ id p id=p:=by simp [pK]
theorem dA (σ:Gh) {k:Nat} (p:Option (Nat×Nat)) (h:k≠id):pK σ id p k=σ k:=by simp [pK,h]
def xk (σ:Gh) (s:List Obj) (w:World) (p:Option (Nat×Nat)) (o:Obj):Prop :=
 wU w p o\/∃b base arr E,p=some (b,base)/\w.heap[b]?=some (.cells arr E (0,0)) /\
  (∀e∈o.aw,e.length=o.sz)/\base+o.aw.length*o.sz<=arr.size /\
  ∀i j x,(o.aw[i]?.bind (·[j]?))=some x->∃u,arr[base+i*o.sz+j]?=some u/\u.oneCell'=true/\aC σ s w x u
theorem xk.aZ {σ s w σ' s' w' p o} (h:aG σ s w σ' s' w') (hb:∀b base,p=some (b,base)->w'.heap[b]?=w.heap[b]?) (hh:xk σ s w p o):xk σ' s' w' p o:=by
 rcases hh with h1|⟨b,base,arr,E,h1,h2,h3,h4,h5⟩
 ·refine .inl ?_;rcases h1 with h1|⟨b,es,c,h1,h2,h3⟩
  ·exact .inl h1
  ·exact .inr ⟨b,es,c,h1,(hb b 0 h1).trans h2,h3⟩
 ·exact .inr ⟨b,base,arr,E,h1,(hb b base h1).trans h2,h3,h4,λi j x hx=>let ⟨u,k1,k2,k3⟩:=h5 i j x hx;⟨u,k1,k2,k3.aZ h⟩⟩
theorem Inv.lt {σ s w} (hI:Inv σ s w) {id o b base} (ho:s[id]?=some o) (hs:σ id=some (b,base)):b<w.heap.size:=by
 rcases hI.content id o ho with (⟨h1,_⟩|⟨b',es,c,h1,h2,_⟩)|⟨b',bQ,arr,E,h1,h2,_⟩
 ·rw[hs]at h1;cases h1
 ·rw[hs]at h1;cases h1;exact eg h2
 ·rw[hs]at h1;cases h1;exact eg h2
theorem oO (hI:Inv σ s w) (ho:s[id]?=some o) (hl:o.live=true)
  (Qm:w'.os=w.os) (Kg:w'.tape=w.tape) (AP:w'.output=w.output) (kg:w.heap.size<=w'.heap.size)
  (hkeep:∀b,b<w.heap.size->(∀base,σ id≠some (b,base))->w'.heap[b]?=w.heap[b]?)
  (hshape:∀b base arr E,σ id=some (b,base)->w.heap[b]?=some (.cells arr E (0,0))->∃cE,w'.heap[b]?=some (.cells cE E (0,0))/\cE.size=arr.size)
  (hshapeM:∀b base,σ id=some (b,base)->RO w b->RO w' b)
  (hg:o.g<=o'.g) (FO:o'.g=o.g->o'.sz=o.sz/\p=σ id)
  (hp:∀b base,p=some (b,base)->(∃Dw,σ id=some (b,Dw))\/w.heap.size<=b)
  (hc:aG σ s w (pK σ id p) (s.set id o') w'->xk (pK σ id p) (s.set id o') w' p o') :
  aG σ s w (pK σ id p) (s.set id o') w'/\Inv (pK σ id p) (s.set id o') w':=by
 have aB:id<s.length:=(List.getElem?_eq_some_iff.1 ho).1;have B7:(s.set id o')[id]?=some o':=by simp [aB]
 have nT:∀k,k≠id->(s.set id o')[k]?=s[k]?:=λk hk=>by rw[ajy (Ne.symm hk)]
 have adv:∀k ok b base,k≠id->s[k]?=some ok->σ k=some (b,base)->w'.heap[b]?=w.heap[b]?:=by intro k ok b base hk jA hs;exact hkeep b (hI.lt jA hs) λbQ he=>hk (hI.inj id k o ok b bQ base ho jA hl he hs).symm
 have hE:aG σ s w (pK σ id p) (s.set id o') w':=by
  refine⟨Qm,Kg,AP,kg,?_,?_,?_,?_,?_,rfl,λb hb hf=>hkeep b hb λbase he=>hI.apart id o b base ho he hf⟩
  ·intro b hb jf;exact hkeep b hb λbase he=>jf (.inr ⟨id,o,base,ho,hl,he⟩)
  ·intro b arr E hO hh;by_cases he:∃base,σ id=some (b,base)
   ·obtain⟨base,he⟩:=he;exact hshape b base arr E he hh
   ·exact⟨arr,by rw[hkeep b (eg hh) (λbase h'=>he ⟨base,h'⟩)];exact hh,rfl⟩
  ·intro b hO hm;by_cases he:∃base,σ id=some (b,base)
   ·obtain⟨base,he⟩:=he;exact hshapeM b base he hm
   ·obtain⟨es,c,hh⟩:=hm;exact⟨es,c,by rw[hkeep b (eg hh) (λbase h'=>he ⟨base,h'⟩)];exact hh⟩
  ·rintro b (hf|⟨k,ok,base,AX,Am,Ew⟩)
   ·exact .inl (.inl hf)
   by_cases hk:k=id
   ·subst hk;rw[cc]at Ew;rcases hp b base Ew with ⟨Dw,h'⟩|h'
    ·exact .inl (.inr ⟨k,o,Dw,ho,hl,h'⟩)
    ·exact .inr h'
   ·rw[dA _ _ hk]at Ew;rw[nT k hk]at AX;exact .inl (.inr ⟨k,ok,base,AX,Am,Ew⟩)
  ·intro k ok jA;by_cases hk:k=id
   ·subst hk;rw[ho]at jA;cases jA;exact⟨o',B7,hg,λhe=>⟨(FO he).1,by rw[cc];exact(FO he).2⟩⟩
   ·exact⟨ok,by rw[nT k hk];exact jA,ajc _,λ_=>⟨rfl,dA _ _ hk⟩⟩
 refine⟨hE,⟨?_,?_,λb hb=>ako (hI.low b hb) kg,?_⟩⟩
 rotate_left 2
 ·intro k ok b base h1 h3 hf;by_cases hk:k=id
  ·subst hk;rw[cc]at h3;rcases hp b base h3 with ⟨Dw,h'⟩|h'
   ·exact hI.apart k o b Dw ho h' hf
   ·have:=hI.low b hf;omega
  ·rw[dA _ _ hk]at h3;rw[nT k hk]at h1;exact hI.apart k ok b base h1 h3 hf
 ·intro k ok jA;by_cases hk:k=id
  ·subst hk;rw[B7]at jA;cases jA;rw[cc];exact hc hE
  ·rw[nT k hk]at jA;rw[dA _ _ hk];exact xk.aZ (p:=σ k) hE (λb base h=>adv k ok b base hk jA h) (hI.content k ok jA)
 ·intro k k' ok ok' b base bQ h1 h2 h3 h4 h5;by_cases hk:k=id <;> by_cases tz:k'=id
  ·rw[hk,tz]
  ·subst hk;rw[cc]at h4;rw[dA _ _ tz]at h5;rw[nT k' tz]at h2;rcases hp b base h4 with ⟨Dw,h'⟩|h'
   ·exact hI.inj _ _ _ _ _ _ _ ho h2 hl h' h5
   ·have:=hI.lt h2 h5;omega
  ·subst tz;rw[cc]at h5;rw[dA _ _ hk]at h4;rw[nT k hk]at h1;rcases hp b bQ h5 with ⟨Dw,h'⟩|h'
   ·exact hI.inj _ _ _ _ _ _ _ h1 ho h3 h4 h'
   ·have:=hI.lt h1 h4;omega
  ·rw[dA _ _ hk]at h4;rw[dA _ _ tz]at h5;rw[nT k hk]at h1;rw[nT k' tz]at h2;exact hI.inj _ _ _ _ _ _ _ h1 h2 h3 h4 h5
theorem pM (hI:Inv σ s w)
  (Qm:w'.os=w.os) (Kg:w'.tape=w.tape) (AP:w'.output=w.output) (kg:w.heap.size<=w'.heap.size)
  (hkeep:∀b,b<w.heap.size->w'.heap[b]?=w.heap[b]?)
  (hp:∀b base,p=some (b,base)->w.heap.size<=b)
  (hc:aG σ s w (pK σ s.length p) (s++[o']) w'->xk (pK σ s.length p) (s++[o']) w' p o') :
  aG σ s w (pK σ s.length p) (s++[o']) w'/\Inv (pK σ s.length p) (s++[o']) w':=by
 have B7:(s++[o'])[s.length]?=some o':=aj;have nT:∀k ok,k≠s.length->(s++[o'])[k]?=some ok->s[k]?=some ok:=by
  intro k ok hk h;rw[List.getElem?_append]at h;split at h
  ·exact h
  ·rename_i h';have:k-s.length≠0:=ae;cases hh:k-s.length with
   |zero=>omega
   |succ n=>rw[hh]at h;simp at h
 have aB:∀k ok,s[k]?=some ok->k≠s.length:=λk ok h=>by have:=(List.getElem?_eq_some_iff.1 h).1;omega
 have hE:aG σ s w (pK σ s.length p) (s++[o']) w':=by
  refine⟨Qm,Kg,AP,kg,λb hb _=>hkeep b hb,λb arr E _ hh=>⟨arr,by rw[hkeep b (eg hh)];exact hh,rfl⟩,λb _ hm=>let ⟨es,c,hh⟩:=hm;⟨es,c,by rw[hkeep b (eg hh)];exact hh⟩,?_,?_,rfl,λb hb _=>hkeep b hb⟩
  ·rintro b (hf|⟨k,ok,base,AX,Am,Ew⟩)
   ·exact .inl (.inl hf)
   by_cases hk:k=s.length
   ·subst hk;rw[cc]at Ew;exact .inr (hp b base Ew)
   ·rw[dA _ _ hk]at Ew;exact .inl (.inr ⟨k,ok,base,nT k ok hk AX,Am,Ew⟩)
  ·intro k ok jA;exact⟨ok,by rw[ajj (List.getElem?_eq_some_iff.1 jA).1];exact jA,ajc _,λ_=>⟨rfl,dA _ _ (aB k ok jA)⟩⟩
 refine⟨hE,⟨?_,?_,λb hb=>ako (hI.low b hb) kg,?_⟩⟩
 rotate_left 2
 ·intro k ok b base h1 h3 hf;by_cases hk:k=s.length
  ·subst hk;rw[cc]at h3;have:=hp b base h3;have:=hI.low b hf;omega
  ·rw[dA _ _ hk]at h3;exact hI.apart k ok b base (nT k ok hk h1) h3 hf
 ·intro k ok jA;by_cases hk:k=s.length
  ·subst hk;rw[B7]at jA;cases jA;rw[cc];exact hc hE
  ·have h':=nT k ok hk jA;rw[dA _ _ hk];exact xk.aZ (p:=σ k) hE (λb base h=>hkeep b (hI.lt h' h)) (hI.content k ok h')
 ·intro k k' ok ok' b base bQ h1 h2 h3 h4 h5;by_cases hk:k=s.length <;> by_cases tz:k'=s.length
  ·rw[hk,tz]
  ·subst hk;rw[cc]at h4;rw[dA _ _ tz]at h5;have:=hI.lt (nT k' ok' tz h2) h5;have:=hp b base h4;omega
  ·subst tz;rw[cc]at h5;rw[dA _ _ hk]at h4;have:=hI.lt (nT k ok hk h1) h4;have:=hp b bQ h5;omega
  ·rw[dA _ _ hk]at h4;rw[dA _ _ tz]at h5;exact hI.inj _ _ _ _ _ _ _ (nT k ok hk h1) (nT k' ok' tz h2) h3 h4 h5
theorem Ex (hI:Inv σ s w) (Qm:w'.os=w.os) (Kg:w'.tape=w.tape) (AP:w'.output=w.output) (kg:w.heap.size<=w'.heap.size)
  (hkeep:∀b,b<w.heap.size->w'.heap[b]?=w.heap[b]?):aG σ s w σ s w'/\Inv σ s w':=by
 have hE:aG σ s w σ s w':=⟨Qm,Kg,AP,kg,λb hb _=>hkeep b hb,λb arr E _ hh=>⟨arr,by rw[hkeep b (eg hh)];exact hh,rfl⟩,λb _ hm=>let ⟨es,c,hh⟩:=hm;⟨es,c,by rw[hkeep b (eg hh)];exact hh⟩,λb h=>.inl h,
  λid o ho=>⟨o,ho,ajc _,λ_=>⟨rfl,rfl⟩⟩,rfl,λb hb _=>hkeep b hb⟩
 exact⟨hE,λk ok jA=>xk.aZ (p:=σ k) hE (λb base h=>hkeep b (hI.lt jA h)) (hI.content k ok jA),hI.inj,λb hb=>ako (hI.low b hb) kg,hI.apart⟩
theorem pP (hI:Inv σ s w):aG σ s w σ s w.drew/\Inv σ s w.drew :=
 Ex hI rfl rfl rfl (ajc _) (λ_ _=>rfl)
theorem GV (hI:Inv σ s w) (x:Go.Obj):aG σ s w σ s (w.alloc x)/\Inv σ s (w.alloc x) :=
 Ex hI rfl rfl rfl aj (λb hb=>Go.RowKit.Below.heap_alloc w x b hb)
structure RF where
 sz:Nat
 agg:Bool
 Cx:Nat
 zero:List Value
def cH (P:Program) (t:TypeId):Option RF :=
 match P.info? t,P.underlying t with
 |some i,some d=>match i.zero with
  |some z=>if z.cells.size=i.size/\z.cells.toList.all Value.oneCell'=true then
    some ⟨i.size,(match d with|.struct _|.array _ _=>true|_=>false),i.bytes,z.cells.toList⟩ else none
  |none=>none
 |_,_=>none
theorem iN{i:RF} (h:cH P t=some i):∃ti d z,P.info? t=some ti/\P.underlying t=some d/\ti.zero=some z/\ti.size=i.sz/\ti.bytes=i.Cx /\
  z.cells.toList=i.zero/\i.zero.length=i.sz/\(∀v∈i.zero,v.oneCell'=true)/\(∀w,(isAgg t).run P w=.ok i.agg w):=by
 unfold cH at h;cases h1:P.info? t with
 |none=>simp [h1]at h
 |some ti =>
  cases h2:P.underlying t with
  |none=>simp [h1,h2]at h
  |some d =>
   cases h3:ti.zero with
   |none=>simp [h1,h2,h3]at h
   |some z =>
    simp only[h1,h2,h3]at h;split at h
    ·rename_i hc;simp only[ai5]at h;subst h;refine⟨ti,d,z,rfl,rfl,h3,rfl,rfl,rfl,by simpa using hc.1,λv hv=>List.all_eq_true.1 hc.2 v hv,λw=>?_⟩;cases d <;> simp [isAgg,run_underlying h2]
    ·cases h
def cv:Value->V
 |.slice none 0 0=>.fu []
 |.agg _=>.any
 |.tuple _=>.any
 |v=>.d (.sc v)
theorem IM {σ s w} (v:Value):aC σ s w (cv v) v:=by
 unfold cv;split
 ·exact .fu .nil
 ·exact .any
 ·exact .any
 ·rename_i h1 h2 h3;refine .d (.sc v ?_);cases v <;> simp_all [Value.oneCell']
def Xx:Value->V
 |.agg cs=>if cs.toList.all Value.oneCell'=true then .ag (cs.toList.map cv) else .any
 |v=>cv v
theorem V8 {σ s w} (v:Value):aC σ s w (Xx v) v:=by
 unfold Xx;split
 ·rename_i cs;split
  ·rename_i h;rw[ajo]at h;refine .ag aj (λi x hx=>?_) (λi x hx=>?_)
   ·rw[aiY]at hx;obtain⟨y,hy,rfl⟩:=Option.map_eq_some_iff.1 hx;have h2:cs[i]?=some y:=by rw[<- ajN];exact hy
    rw[ajl,h2];exact h y (ai4 hy)
   ·rw[aiY]at hx;obtain⟨y,hy,rfl⟩:=Option.map_eq_some_iff.1 hx;have h2:cs[i]?=some y:=by rw[<- ajN];exact hy
    rw[ajl,h2];exact IM y
  ·exact .any
 ·exact IM _
def ev (e:Nat->V):Operand->V
 |.tmp t=>e t
 |.const v=>Xx v
 |.global _=>.any
 |.func f=>.cl (.func f) [] []
def eH:V->Option (List V)
 |.ag cs=>some cs
 |.un|.any|.tu _|.cap ..=>none
 |v=>some [v]
theorem cY.one {O w x u} (h:cY O w x u):u.oneCell'=true:=by
 cases h <;> first|assumption|rfl
theorem nC (hr:aC σ s w x u) (hc:eH x=some cs) :
  u.cells.size=cs.length/\∀(i:Nat) (y:V),cs[i]?=some y->∃c,u.cells[i]?=some c/\c.oneCell'=true/\aC σ s w y c:=by
 have single:∀{y:V}{c:Value},c.oneCell'=true->aC σ s w y c->c.cells.size=[y].length/\∀(i:Nat) (z:V),[y][i]?=some z->∃b,c.cells[i]?=some b/\b.oneCell'=true/\aC σ s w z b:=by
  intro y c h1 h2;have mW:c.cells=#[c]:=by cases c <;> first|rfl|simp [Value.oneCell']at h1
  refine⟨by simp [mW],λi z hz=>?_⟩;cases i with
  |zero=>simp at hz;subst hz;exact⟨c,by simp [mW],h1,h2⟩
  |succ n=>simp at hz
 cases hr with
 |d h=>simp only[eH,ai5]at hc;subst hc;exact single h.one (.d h)
 |ag h1 h2 h3 =>
  simp only[eH,ai5]at hc;subst hc;refine⟨h1,λi y hy=>?_⟩;have hi:=(List.getElem?_eq_some_iff.1 hy).1;have e:∀{arr:Array Value},i<arr.size->arr[i]?=some (arr.getD i undef):=λh=>by simp [Array.getD,h]
  exact⟨_,e (by simp only[Value.cells];omega),h2 i y hy,h3 i y hy⟩
 |tu h1 h2=>simp [eH]at hc
 |fu h=>simp only[eH,ai5]at hc;subst hc;exact single rfl (.fu h)
 |so o h1 h2 h3 h4=>simp only[eH,ai5]at hc;subst hc;exact single h3.one (.so o h1 h2 h3 h4)
 |rf o h1 h2 h3 h4=>simp only[eH,ai5]at hc;subst hc;exact single h3 (.rf o h1 h2 h3 h4)
 |pp o h1 h2 h3=>simp only[eH,ai5]at hc;subst hc;exact single rfl (.pp o h1 h2 h3)
 |mp o h1 h2 h3 h4=>simp only[eH,ai5]at hc;subst hc;exact single h3 (.mp o h1 h2 h3 h4)
 |bx h1 h2 h3 hu h4=>simp only[eH,ai5]at hc;subst hc;exact single rfl (.bx h1 h2 h3 hu h4)
 |cap h1 h2=>simp [eH]at hc
 |cl h1 h2 h3 h4=>simp only[eH,ai5]at hc;subst hc;exact single rfl (.cl h1 h2 h3 h4)
 |un=>simp [eH]at hc
 |any=>simp [eH]at hc
def qQ (agg:Bool) (n:Nat) (cs:List V) (K:V->Prop):Prop :=
 match agg with
 |true=>n<=cs.length/\K (.ag (cs.take n))
 |false=>n=1/\match cs with|[]=>False|v::_=>K v
def mz (P:Program) (t:TypeId) (s:List Obj) (p:V) (K:V->Prop):Prop :=
 match cH P t with
 |none=>False
 |some i=>match p with
  |.d (.el cs)=>qQ i.agg i.sz (cs.map .d) K
  |.bx v=>qQ i.agg i.sz [v] K
  |.rf id g k off=>match s[id]? with
   |none=>False
   |some o=>o.g=g/\match o.aw[k]? with
    |none=>False
    |some cs=>qQ i.agg i.sz (cs.drop off) K
  |.pp id g k off _ _=>match s[id]? with
   |none=>False
   |some o=>o.g=g/\match o.aw[k]? with
    |none=>False
    |some cs=>qQ i.agg i.sz (cs.drop off) K
  |_=>False
theorem ia (h:a.spot=none) (n:Nat):a.add n=⟨a.block,a.off+n,none⟩:=by obtain⟨b,o,sp⟩:=a;simp only at h;subst h;unfold Addr.add;split <;> simp_all
theorem Ce{i:RF} (ht:cH P t=some i) (ha:a.spot=none) (f:Nat->Value) (n1:i.agg=false->i.sz=1)
  (hc:∀j,j<i.sz->w.cell? ⟨a.block,a.off+j,none⟩=some (f j)) :
  (loadVar t a).run P w=.ok (if i.agg then .agg ((List.range i.sz).map f).toArray else f 0) w:=by
 obtain⟨ti,d,z,h1,h2,h3,h4,h5,h6,h7,h8,h9⟩:=iN ht;have fY:(sizeOf t).run P w=.ok i.sz w:=by simp [sizeOf,typeInfo,h1,h4]
 cases AH:i.agg with
 |true =>
  rw[AH]at h9;have hl:=run_loadCells (P:=P) w a i.sz f (λj hj=>by rw[ia ha];exact hc j hj);simp [loadVar,h9,fY,hl]
 |false =>
  rw[AH]at h9;have LV:=hc 0 (by rw[n1 AH];omega);have e:(⟨a.block,a.off+0,none⟩:Addr)=a:=by obtain⟨b,o,sp⟩:=a;simp_all
  rw[e]at LV;simp [loadVar,h9,LV]
theorem DO{i:RF} (ht:cH P t=some i) {σ s w} (ha:a.spot=none) (hk:qQ i.agg i.sz cs K)
  (hc:∀j x,cs[j]?=some x->∃u,w.cell? ⟨a.block,a.off+j,none⟩=some u/\u.oneCell'=true/\aC σ s w x u) :
  ∃v c,(loadVar t a).run P w=.ok c w/\aC σ s w v c/\K v:=by
 have hf:∃f:Nat->Value,∀j x,cs[j]?=some x->w.cell? ⟨a.block,a.off+j,none⟩=some (f j)/\(f j).oneCell'=true/\aC σ s w x (f j):=by refine⟨λj=>(w.cell? ⟨a.block,a.off+j,none⟩).getD undef,λj x hx=>?_⟩;obtain⟨u,h1,h2,h3⟩:=hc j x hx;simp only[h1,akl];exact⟨trivial,h2,h3⟩
 obtain⟨f,hf⟩:=hf;unfold qQ at hk;cases AH:i.agg with
 |true =>
  rw[AH]at hk;obtain⟨hn,hk⟩:=hk;have ir:∀j,j<i.sz->cs[j]?=some (cs[j]?.getD .any):=λj hj=>by simp [show j<cs.length by omega]
  refine⟨_,_,Ce ht ha f (by simp [AH]) (λj hj=>(hf j _ (ir j hj)).1),?_,hk⟩;rw[AH];simp only[if_true];have e:∀j,j<i.sz->((List.range i.sz).map f).toArray.getD j undef=f j:=λj hj=>by simp [Array.getD,hj]
  have e2:∀j x,(cs.take i.sz)[j]?=some x->j<i.sz/\cs[j]?=some x:=by
   intro j x hx;rw[ajA]at hx;split at hx
   ·exact⟨by assumption,hx⟩
   ·cases hx
  refine .ag (by simp [Nat.min_eq_left hn]) (λj x hx=>?_) (λj x hx=>?_)
  ·rw[e j (e2 j x hx).1];exact(hf j x (e2 j x hx).2).2.1
  ·rw[e j (e2 j x hx).1];exact(hf j x (e2 j x hx).2).2.2
 |false =>
  rw[AH]at hk;obtain⟨hn,hk⟩:=hk;cases cs with
  |nil=>exact hk.elim
  |cons v rest =>
   refine⟨v,_,Ce ht ha f (λ_=>hn) (λj hj=>?_),?_,hk⟩
   ·have:j=0:=by omega
    subst this;exact(hf 0 v rfl).1
   ·rw[AH];exact(hf 0 v rfl).2.2
theorem Ps{p:V} (hI:Inv σ s w) (hp:aC σ s w p u) (UM:∀id g i off b a,p≠.pp id g i off b a) (h:mz P t s p K) :
  ∃v c,(Instr.loadAt t u).run P w=.ok c w/\aC σ s w v c/\K v:=by
 unfold mz at h;cases ht:cH P t with
 |none=>rw[ht]at h;exact h.elim
 |some i =>
  rw[ht]at h;simp only at h;have fin:∀(a:Addr) (v:V) (c:Value),u=.pointer (some a)->(loadVar t a).run P w=.ok c w->aC σ s w v c->K v->∃v c,(Instr.loadAt t u).run P w=.ok c w/\aC σ s w v c/\K v:=by rintro a v c rfl h1 h2 h3;exact⟨v,c,by simp [Instr.loadAt,Instr.sureAddr,h1],h2,h3⟩
  cases hp with
  |pp o ho hg hk=>exact absurd rfl (UM _ _ _ _ _ _)
  |d hx =>
   cases hx with
   |el cs a f h1 h2 h3 =>
    obtain⟨v,c,k1,k2,k3⟩:=DO (σ:=σ) (s:=s) (w:=w) ht h1 h (λj x hx=>by
     rw[aiY]at hx;obtain⟨y,hy,rfl⟩:=Option.map_eq_some_iff.1 hx;exact⟨f j,(h2 j y hy).1,(h3 j y hy).one,.d (h3 j y hy)⟩)
    exact fin a v c rfl k1 k2 k3
   |_=>exact h.elim
  |bx h1 h2 h3 hu h4 =>
   obtain⟨v,c,k1,k2,k3⟩:=DO (σ:=σ) (s:=s) (w:=w) ht h1 h (λj x hx=>by
    cases j with
    |zero=>simp at hx;subst hx;exact⟨_,h2,hu,h4⟩
    |succ j=>simp at hx)
   exact fin _ v c rfl k1 k2 k3
  |rf o ho hg hu hk =>
   simp only[ho]at h;obtain⟨xT,h⟩:=h;obtain⟨b,base,hs,hC,rfl⟩:=hk xT;split at h
   ·exact h.elim
   ·rename_i id g k off _ cs oq;rcases hI.content _ o ho with h1|⟨b',bQ,arr,E,h1,h2,h3,h4,h5⟩
    ·exact(h1.Cz hs hC).elim
    ·rw[hs]at h1;cases h1;obtain⟨v,c,k1,k2,k3⟩:=DO (σ:=σ) (s:=s) (w:=w) (a:=⟨b,base+k*o.sz+off,none⟩) ht rfl h (λj x hx=>by
      rw[ajU]at hx;obtain⟨y,k1,k2,k3⟩:=h5 k (off+j) x (by rw[oq];exact hx);refine⟨y,?_,k2,k3⟩;simp only[World.cell?,h2];simpa [ajI]using k1)
     exact fin _ v c rfl k1 k2 k3
  |_=>exact h.elim
theorem E8{p:V} (hI:Inv σ s w) (hp:aC σ s w p u) (h:mz P t s p K) :
  ∃v c,(Instr.loadAt t u).run P w=.ok c w/\aC σ s w v c/\K v:=by
 by_cases UH:∃id g i off b a,p=.pp id g i off b a
 ·obtain⟨id,g,i,off,b,a,rfl⟩:=UH;exact Ps hI hp.Xk (by intros;simp) h
 ·exact Ps hI hp (λid g i off b a he=>UH ⟨id,g,i,off,b,a,he⟩) h
def iK (cs:List V) (off:Nat) (ns:List V):List V:=cs.take off++ns++cs.drop (off+ns.length)
def iY (P:Program) (t:TypeId) (s:List Obj) (p x:V) (K:List Obj->Prop):Prop :=
 match cH P t with
 |none=>False
 |some i=>match p with
  |.rf id g k off=>match s[id]? with
   |none=>False
   |some o=>o.g=g/\o.live=true/\match o.aw[k]? with
    |none=>False
    |some cs=>match eH x with
     |none=>False
     |some ns=>ns.length=i.sz/\off+i.sz<=cs.length/\K (s.set id { o with aw:=o.aw.set k (iK cs off ns) })
  |.pp id g k off _ _=>match s[id]? with
   |none=>False
   |some o=>o.g=g/\o.live=true/\match o.aw[k]? with
    |none=>False
    |some cs=>match eH x with
     |none=>False
     |some ns=>ns.length=i.sz/\off+i.sz<=cs.length/\K (s.set id { o with aw:=o.aw.set k (iK cs off ns) })
  |_=>False
theorem qA (cs:List V) (off:Nat) (ns:List V) (h:off+ns.length<=cs.length) (j:Nat) :
  (iK cs off ns)[j]?=if off<=j/\j<off+ns.length then ns[j-off]? else cs[j]?:=by
 have hl:(cs.take off).length=off:=cG;unfold iK;by_cases h1:j<off
 ·rw[bd,ajq,ajj ae,ajA,be h1]
 ·by_cases h2:j<off+ns.length
  ·rw[tK,ajq,ajh ae,hl,ajj ae]
  ·rw[bd,ajh cG,ajU];congr 1;simp;omega
theorem tC (cs:List V) (off:Nat) (ns:List V) (h:off+ns.length<=cs.length):(iK cs off ns).length=cs.length:=by simp [iK];omega
theorem v9 (σ:Gh) (id:Nat):pK σ id (σ id)=σ:=by
 obtain⟨m,b⟩:=σ;unfold pK;congr 1;funext k;split
 ·rename_i h;rw[h]
 ·rfl
theorem QV (hI:Inv σ s w){o:Obj} (ho:s[id]?=some o) (hl:o.live=true) {k:Nat}{ns:List V} (oq:o.aw[k]?=some cs)
  (hfit:off+ns.length<=cs.length) (hs:σ id=some (b,base)) (hC:HZ w b) {us:List Value} (Xv:us.length=ns.length)
  (hrep:∀(j:Nat) (x:V),ns[j]?=some x->∃u,us[j]?=some u/\u.oneCell'=true/\aC σ s w x u) (QF:∀u∈us,u.oneCell'=true) (P:Program) :
  ∃w',(storeCells ⟨b,base+k*o.sz+off,none⟩ us).run P w=.ok () w'/\aG σ s w σ (s.set id { o with aw:=o.aw.set k (iK cs off ns) }) w' /\
   Inv σ (s.set id { o with aw:=o.aw.set k (iK cs off ns) }) w':=by
 rcases hI.content _ o ho with h1|⟨b',bQ,arr,E,h1,h2,h3,h4,h5⟩
 ·exact(h1.Cz hs hC).elim
 rw[hs]at h1;cases h1;have hk:k<o.aw.length:=(List.getElem?_eq_some_iff.1 oq).1;have iy:cs.length=o.sz:=h3 cs (ai4 oq);have adP:k*o.sz+o.sz<=o.aw.length*o.sz:=by have:=ajD o.sz (show k+1<=o.aw.length from hk);rw[ajR,Nat.one_mul]at this;exact this
 have eZ:=run_storeCells_at P b (base+k*o.sz+off) E us 0 arr w h2 (by rw[Xv];omega) QF;simp only[aj5]at eZ;generalize qE:(arr.toList.take (base+k*o.sz+off)++us++arr.toList.drop (base+k*o.sz+off+us.length)).toArray=cE at eZ;have kg:cE.size=arr.size:=by rw[<- qE];simp;omega
 have ir:∀p,cE[p]?=if base+k*o.sz+off<=p/\p<base+k*o.sz+off+us.length then us[p-(base+k*o.sz+off)]? else arr[p]?:=by
  intro p;have hl:(arr.toList.take (base+k*o.sz+off)).length=base+k*o.sz+off:=cG;rw[<- qE,List.getElem?_toArray];by_cases g1:p<base+k*o.sz+off
  ·rw[bd,ajq,ajj ae,ajA,be g1,ajN]
  ·by_cases g2:p<base+k*o.sz+off+us.length
   ·rw[tK,ajq,ajh ae,hl,ajj ae]
   ·rw[bd,ajh cG,ajU,ajN];congr 1;simp;omega
 refine⟨_,eZ,?_⟩;have:=oO (p:=σ id) (w':=w.setRow b cE) (o':={ o with aw:=o.aw.set k (iK cs off ns) }) hI ho hl rfl rfl rfl aj
  (λb1 _ dP=>setRow_other w b b1 cE (λe=>dP base (by rw[hs,e])))
  (λb1 kW XT E1 he hh=>by
   rw[hs]at he;cases he;rw[h2]at hh;cases hh;exact⟨cE,setRow_heap w b arr cE E (0,0) h2,kg⟩)
  (λb1 kW he hm=>by
   rw[hs]at he;cases he;exact(hC.notM hm).elim)
  (ajc _) (λ_=>⟨rfl,rfl⟩) (λb1 kW he=>.inl ⟨kW,he⟩)
  (λhE=>.inr ⟨b,base,cE,E,hs,setRow_heap w b arr cE E (0,0) h2,(by
   intro e he;simp only at he;rcases aj4 he with h'|h'
   ·exact h3 e h'
   ·rw[h',tC _ _ _ hfit];exact iy),(by simp only[ajp];omega),(by
   intro i j x hx;simp only at hx ⊢;rw[v9]at hE ⊢;by_cases Tc:i=k
   ·subst Tc;rw[ajm hk]at hx;simp only[ajM]at hx;rw[qA _ _ _ hfit]at hx;split at hx
    ·rename_i iU;obtain⟨u,k1,k2,k3⟩:=hrep _ x hx;refine⟨u,?_,k2,k3.aZ hE⟩;rw[ir,tK,<- k1];congr 1;omega
    ·rename_i iU;obtain⟨u,k1,k2,k3⟩:=h5 i j x (by rw[oq];exact hx);refine⟨u,?_,k2,k3.aZ hE⟩;rw[ir,bd];exact k1
   ·rw[ajy (Ne.symm Tc)]at hx;obtain⟨u,k1,k2,k3⟩:=h5 i j x hx;refine⟨u,?_,k2,k3.aZ hE⟩;rw[ir,ap ?_]
    ·exact k1
    ·have QE:j<o.sz:=by
      cases he:o.aw[i]? with
      |none=>rw[he]at hx;cases hx
      |some e =>
       rw[he]at hx;have:=(List.getElem?_eq_some_iff.1 hx).1;rw[h3 e (ai4 he)]at this;exact this
     rcases Nat.lt_or_gt_of_ne Tc with aB|aB
     ·have:=ajD o.sz (show i+1<=k from aB);rw[ajR,Nat.one_mul]at this;omega
     ·have:=ajD o.sz (show k+1<=i from aB);rw[ajR,Nat.one_mul]at this;omega)⟩)
 rw[v9]at this;exact this
theorem L5{p:V}{K:List Obj->Prop} (hI:Inv σ s w) (hp:aC σ s w p u) (hx:aC σ s w x c) (UM:∀id g i off b a,p≠.pp id g i off b a) (h:iY P t s p x K) :
  ∃s' w',(Instr.storeAt t u c).run P w=.ok () w'/\aG σ s w σ s' w'/\Inv σ s' w'/\K s':=by
 unfold iY at h;cases ht:cH P t with
 |none=>rw[ht]at h;exact h.elim
 |some i =>
  rw[ht]at h;simp only at h;cases hp with
  |rf o ho hg hu hk =>
   simp only[ho]at h;obtain⟨xT,hl,h⟩:=h;obtain⟨b,base,hs,hC,rfl⟩:=hk xT;split at h
   ·exact h.elim
   ·rename_i id g k off _ cs oq;split at h
    ·exact h.elim
    ·rename_i ns yH;obtain⟨h1,h2,h3⟩:=h;obtain⟨vO,uz⟩:=nC hx yH;obtain⟨ti,d,z,k1,k2,k3,k4,k5,k6,k7,k8,k9⟩:=iN ht;have fY:∀w,(sizeOf t).run P w=.ok i.sz w:=λw=>by simp [sizeOf,typeInfo,k1,k4]
     obtain⟨w',r1,r2,r3⟩:=QV hI ho hl oq (ns:=ns) (off:=off) ae hs hC (us:=c.cells.toList) (by simpa using vO)
      (λj x hx=>by
       obtain⟨u,e1,e2,e3⟩:=uz j x hx;exact⟨u,by rw[ajN];exact e1,e2,e3⟩)
      (λu hu=>by
       obtain⟨j,hj,rfl⟩:=List.mem_iff_getElem.1 hu;have Uu:j<ns.length:=by simpa [vO]using hj
       obtain⟨u,e1,e2,e3⟩:=uz j ns[j] (by simp [Uu]);have:c.cells.toList[j]=u:=by rw[<- ajN]at e1;exact(List.getElem?_eq_some_iff.1 e1).2
       rw[this];exact e2) P
     refine⟨_,w',?_,r2,r3,h3⟩;simp [Instr.storeAt,Instr.sureAddr,storeVar,fY,vO,h1,r1]
  |pp o ho hg hk=>exact absurd rfl (UM _ _ _ _ _ _)
  |_=>exact h.elim
theorem JW{p:V}{K:List Obj->Prop} (hI:Inv σ s w) (hp:aC σ s w p u) (hx:aC σ s w x c) (h:iY P t s p x K) :
  ∃s' w',(Instr.storeAt t u c).run P w=.ok () w'/\aG σ s w σ s' w'/\Inv σ s' w'/\K s':=by
 by_cases UH:∃id g i off b a,p=.pp id g i off b a
 ·obtain⟨id,g,i,off,b,a,rfl⟩:=UH;exact L5 hI hp.Xk hx (by intros;simp) h
 ·exact L5 hI hp hx (λid g i off b a he=>UH ⟨id,g,i,off,b,a,he⟩) h
end Go.VL
