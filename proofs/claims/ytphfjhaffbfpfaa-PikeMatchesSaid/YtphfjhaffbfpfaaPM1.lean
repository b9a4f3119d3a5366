/- A part of the proof (Va Vb Vc Vd Ve Vf Vg Vh Vhm Vgc Vi Vj Vk Vl Vm). -/
import Derived.WalkKit
import Derived.WalkSpells
import Derived.ChangeKeysEq
import Derived.Deep.AppendSrc
import Derived.ChangeMaps5
import Derived.MapKept
set_option linter.all false
set_option maxRecDepth 100000
set_option maxHeartbeats 80000000
namespace Go.VL
variable{w:World}{b:Nat}{a:Addr}{u:Value}{id:Nat}{n:Nat}{g:Nat}{off:Nat}{base:Nat}{p:Option (Nat×Nat)}{k:Nat}{w':World}{t:TypeId}{P:Program}{c:Value}{cap:Nat}{z:Nat}{ui:Value}{arr:Array Value}{ps:List (Nat×Value)}{sz:Nat}{e:TypeId}{len:Nat}{ty:TypeId}{ux:Value}{l:Nat}{ul:Option Value}{uh:Option Value}{um:Option Value}
theorem ac {a b c d e f g h:Prop}(i:a)(j:b)(k:c)(l:d)(m:e)(n:f)(o:g)(p:h):a∧b∧c∧d∧e∧f∧g∧h:=⟨i,j,k,l,m,n,o,p⟩
theorem am.{u}:type_of% @if_neg.{u}:=@if_neg.{u}
theorem ap.{u}:type_of% @if_pos.{u}:=@if_pos.{u}
theorem be:type_of% @decide_eq_true:=@decide_eq_true
theorem bi:type_of% @decide_eq_false:=@decide_eq_false
theorem adl:type_of% @decide_eq_false:=@decide_eq_false
theorem adm:type_of% @List.getElem?_eq_some_iff.{0}:=@List.getElem?_eq_some_iff.{0}
theorem adn:type_of% @List.getElem?_eq_getElem.{0}:=@List.getElem?_eq_getElem.{0}
theorem ado:type_of% @List.length_map.{0,0}:=@List.length_map.{0,0}
theorem adp:type_of% @Option.some.injEq.{0}:=@Option.some.injEq.{0}
theorem adq:type_of% @Bool.false_eq_true:=@Bool.false_eq_true
theorem adr:type_of% @List.cons_append.{0}:=@List.cons_append.{0}
theorem ads:type_of% @Bool.not_true:=@Bool.not_true
theorem adt:type_of% @List.nil_append.{0}:=@List.nil_append.{0}
theorem adu:type_of% @decide_eq_true:=@decide_eq_true
theorem adw:type_of% @List.mem_of_getElem?.{0}:=@List.mem_of_getElem?.{0}
theorem adx:type_of% @List.length_append.{0}:=@List.length_append.{0}
theorem ady:type_of% @Int.le_refl:=@Int.le_refl
theorem adz:type_of% @Bool.not_false:=@Bool.not_false
theorem adA:type_of% @List.length_cons.{0}:=@List.length_cons.{0}
theorem adB:type_of% @Nat.le_refl:=@Nat.le_refl
theorem adC:type_of% @decide_eq_true_eq:=@decide_eq_true_eq
theorem adD:type_of% @Bool.and_eq_true:=@Bool.and_eq_true
theorem adE:type_of% @List.all_eq_true.{0}:=@List.all_eq_true.{0}
theorem adF:type_of% @List.length_nil.{0}:=@List.length_nil.{0}
theorem adG:type_of% @List.map_cons.{0,0}:=@List.map_cons.{0,0}
theorem adH:type_of% @Array.getD_eq_getD_getElem?.{0}:=@Array.getD_eq_getD_getElem?.{0}
theorem adI:type_of% @Nat.zero_add:=@Nat.zero_add
theorem adJ:type_of% @List.eq_nil_of_length_eq_zero.{0}:=@List.eq_nil_of_length_eq_zero.{0}
theorem adK:type_of% @Int.natCast_zero:=@Int.natCast_zero
theorem adL:type_of% @List.getElem?_map.{0,0}:=@List.getElem?_map.{0,0}
theorem adM:type_of% @List.getElem?_append_left.{0}:=@List.getElem?_append_left.{0}
theorem adN:type_of% @List.getElem?_append_right.{0}:=@List.getElem?_append_right.{0}
theorem adO:type_of% @Option.map_eq_some_iff.{0,0}:=@Option.map_eq_some_iff.{0,0}
theorem adP:type_of% @List.map_nil.{0,0}:=@List.map_nil.{0,0}
theorem adQ:type_of% @List.mem_map.{0,0}:=@List.mem_map.{0,0}
theorem adR:type_of% @Int.toNat_natCast:=@Int.toNat_natCast
theorem adS:type_of% @List.append_nil.{0}:=@List.append_nil.{0}
theorem adT:type_of% @List.take_of_length_le.{0}:=@List.take_of_length_le.{0}
theorem adU:type_of% @List.getElem?_cons_zero.{0}:=@List.getElem?_cons_zero.{0}
theorem adV:type_of% @Nat.lt_or_ge:=@Nat.lt_or_ge
theorem adW:type_of% @List.mem_singleton.{0}:=@List.mem_singleton.{0}
theorem adX:type_of% @List.append_assoc.{0}:=@List.append_assoc.{0}
theorem adY:type_of% @Bool.false_or:=@Bool.false_or
theorem adZ:type_of% @List.take_length.{0}:=@List.take_length.{0}
theorem ad0:type_of% @List.set_cons_zero.{0}:=@List.set_cons_zero.{0}
theorem ad1:type_of% @List.getElem?_take.{0}:=@List.getElem?_take.{0}
theorem ad2:type_of% @Bool.false_ne_true:=@Bool.false_ne_true
theorem ad3:type_of% @Prod.mk.injEq.{0,0}:=@Prod.mk.injEq.{0,0}
theorem ad4:type_of% @Bool.true_or:=@Bool.true_or
theorem ad5:type_of% @List.length_take.{0}:=@List.length_take.{0}
theorem ad6:type_of% @List.set_cons_succ.{0}:=@List.set_cons_succ.{0}
theorem ad7:type_of% @List.contains_cons.{0}:=@List.contains_cons.{0}
theorem ad8:type_of% @List.contains_nil.{0}:=@List.contains_nil.{0}
theorem ad9:type_of% @Option.map_some.{0,0}:=@Option.map_some.{0,0}
theorem aea:type_of% @Bool.or_false:=@Bool.or_false
theorem aeb:type_of% @Nat.mul_le_mul_right:=@Nat.mul_le_mul_right
theorem aec:type_of% @Int.mul_le_mul_of_nonneg_right:=@Int.mul_le_mul_of_nonneg_right
theorem aed:type_of% @Array.getElem?_toList.{0}:=@Array.getElem?_toList.{0}
theorem aee:type_of% @Bool.eq_false_iff:=@Bool.eq_false_iff
theorem aef:type_of% @Int.natCast_add:=@Int.natCast_add
theorem aeg:type_of% @List.mem_cons.{0}:=@List.mem_cons.{0}
theorem aeh:type_of% @not_true_eq_false:=@not_true_eq_false
theorem aei:type_of% @List.map_congr_left.{0,0}:=@List.map_congr_left.{0,0}
inductive D where
 |sc (v:Value)
 |sl (aI:List (List D))
 |el (cs:List D)
 |cl (fn:Fn) (first ah:List D)
 |ub
variable{aI:List (List D)}
inductive V where
 |d (x:D)
 |ag (cs:List V)
 |fu (aI:List (List D))
 |so (id g lo n:Nat)
 |rf (id g i off:Nat)
 |pp (id g i off b a:Nat)
 |mp (id g:Nat)
 |bx (v:V)
 |cl (fn:Fn) (first ah:List V)
 |tu (vs:List V)
 |un
 |any
variable{x:V}{cs:List V}{parts:List (Nat×V)}{es:List (List V)}{hi:Option V}{mx:Option V}{lo:Option V}
structure Obj where
 g:Nat
 live:Bool
 sz:Nat
 aI:List (List V)
variable{o':Obj}{o:Obj}{s:List Obj}
structure Gh where
 map:Nat->Option (Nat×Nat)
 base:Nat->Prop
variable{σ:Gh}
instance:CoeFun Gh (λ_=>Nat->Option (Nat×Nat)):=⟨Gh.map⟩
def Own (σ:Gh) (s:List Obj) (b:Nat):Prop:=σ.base b\/∃id o base,s[id]?=some o/\o.live=true/\σ id=some (b,base)
inductive dt (O:Nat->Prop) (w:World):D->Value->Prop
 |sc (v:Value):v.oneCell'=true->dt O w (.sc v) v
 |nil:dt O w (.sl []) (.slice none 0 0)
 |sl (aI:List (List D)) (a:Addr) (cap sz:Nat) (f:Nat->Nat->Value):aI.length<=cap->(aI≠[]->a.spot=none)->(∀e∈aI,e.length=sz) ->
   (∀i j x,(aI[i]?.bind (·[j]?))=some x->w.cell? ⟨a.block,a.off+i*sz+j,none⟩=some (f i j)/\¬O a.block) ->
   (∀i j x,(aI[i]?.bind (·[j]?))=some x->dt O w x (f i j))->dt O w (.sl aI) (.slice (some a) aI.length cap)
 |el (cs:List D) (a:Addr) (f:Nat->Value):a.spot=none ->
   (∀j x,cs[j]?=some x->w.cell? ⟨a.block,a.off+j,none⟩=some (f j)/\¬O a.block) ->
   (∀j x,cs[j]?=some x->dt O w x (f j))->dt O w (.el cs) (.pointer (some a))
 |cl {fn:Fn}{first ah:List D}{f' c':Array Value}:f'.size=first.length->(∀i x,first[i]?=some x->dt O w x (f'.getD i undef)) ->
   c'.size=ah.length->(∀i x,ah[i]?=some x->dt O w x (c'.getD i undef))->dt O w (.cl fn first ah) (.func fn f' c')
 |ub (b:Bool):dt O w .ub (.bool b)
def Bs (σ:Gh) (w:World) (id:Nat) (o:Obj) (lo n:Nat) (u:Value):Prop :=
 (σ id=none/\(∃a,u=.slice a 0 0)/\lo=0/\n=0) \/
 ∃b base cap E arr,σ id=some (b,base)/\w.heap[b]?=some (.cells arr E (0,0))/\u=.slice (some ⟨b,base+lo*o.sz,none⟩) n cap/\n<=cap/\base+(lo+cap)*o.sz<=arr.size
def HP (w:World) (b:Nat):Prop:=∃arr E,w.heap[b]?=some (.cells arr E (0,0))
def Qh (w:World) (b:Nat):Prop:=∃es c,w.heap[b]?=some (.map es c)
inductive aG (σ:Gh) (s:List Obj) (w:World):V->Value->Prop
 |d {x:D}{u:Value}:dt (Own σ s) w x u->aG σ s w (.d x) u
 |ag {cs:List V}{arr:Array Value}:arr.size=cs.length->(∀i x,cs[i]?=some x->(arr.getD i undef).oneCell'=true) ->
   (∀i x,cs[i]?=some x->aG σ s w x (arr.getD i undef))->aG σ s w (.ag cs) (.agg arr)
 |tu {cs:List V}{arr:Array Value}:arr.size=cs.length->(∀i x,cs[i]?=some x->aG σ s w x (arr.getD i undef))->aG σ s w (.tu cs) (.tuple arr)
 |fu {aI:List (List D)}{a:Option Addr}:dt (Own σ s) w (.sl aI) (.slice a aI.length aI.length)->aG σ s w (.fu aI) (.slice a aI.length aI.length)
 |so {id g lo n:Nat}{u:Value} (o:Obj):s[id]?=some o->g<=o.g->u.oneCell'=true->(o.g=g->Bs σ w id o lo n u)->aG σ s w (.so id g lo n) u
 |rf {id g i off:Nat}{u:Value} (o:Obj):s[id]?=some o->g<=o.g->u.oneCell'=true->(o.g=g->∃b base,σ id=some (b,base)/\HP w b/\u=.pointer (some ⟨b,base+i*o.sz+off,none⟩)) ->
   aG σ s w (.rf id g i off) u
 |pp {id g i off b a:Nat} (o:Obj):s[id]?=some o->g<=o.g->(o.g=g->∃base,σ id=some (b,base)/\HP w b/\a=base+i*o.sz+off)->aG σ s w (.pp id g i off b a) (.pointer (some ⟨b,a,none⟩))
 |mp {id g:Nat}{u:Value} (o:Obj):s[id]?=some o->g<=o.g->u.oneCell'=true->(o.g=g->∃b,σ id=some (b,0)/\Qh w b/\u=.map (some b))->aG σ s w (.mp id g) u
 |bx {v:V}{a:Addr}{u:Value}:a.spot=none->w.cell? ⟨a.block,a.off,none⟩=some u->¬Own σ s a.block->u.oneCell'=true->aG σ s w v u->aG σ s w (.bx v) (.pointer (some a))
 |cl {fn:Fn}{first ah:List V}{f' c':Array Value}:f'.size=first.length->(∀i x,first[i]?=some x->aG σ s w x (f'.getD i undef)) ->
   c'.size=ah.length->(∀i x,ah[i]?=some x->aG σ s w x (c'.getD i undef))->aG σ s w (.cl fn first ah) (.func fn f' c')
 |un:aG σ s w .un undef
 |any {u:Value}:aG σ s w .any u
structure aW (σ:Gh) (s:List Obj) (w:World) (σ':Gh) (s':List Obj) (w':World):Prop where
 os:w'.os=w.os
 tape:w'.tape=w.tape
 output:w'.output=w.output
 size:w.heap.size<=w'.heap.size
 bO:∀b,b<w.heap.size->¬Own σ s b->w'.heap[b]?=w.heap[b]?
 shape:∀b arr E,Own σ s b->w.heap[b]?=some (.cells arr E (0,0))->∃cH,w'.heap[b]?=some (.cells cH E (0,0))/\cH.size=arr.size
 rG:∀b,Own σ s b->Qh w b->Qh w' b
 own:∀b,Own σ' s' b->Own σ s b\/w.heap.size<=b
 aB:∀id o,s[id]?=some o->∃o',s'[id]?=some o'/\o.g<=o'.g/\(o'.g=o.g->o'.sz=o.sz/\σ' id=σ id)
 base:σ'.base=σ.base
 ga:∀b,b<w.heap.size->σ.base b->w'.heap[b]?=w.heap[b]?
theorem aW.refl (σ:Gh) (s:List Obj) (w:World):aW σ s w σ s w :=
 ⟨rfl,rfl,rfl,adB _,λ_ _ _=>rfl,λ_ arr _ _ h=>⟨arr,h,rfl⟩,λ_ _ h=>h,λ_ h=>.inl h,λ_ o h=>⟨o,h,adB _,λ_=>⟨rfl,rfl⟩⟩,rfl,λ_ _ _=>rfl⟩
theorem fP{o:Go.Obj} (h:w.heap[b]?=some o):b<w.heap.size:=by
 rcases adV b w.heap.size with h'|h'
 ·exact h'
 ·simp [Array.getElem?_eq_none h']at h
theorem aW.trans {σ s w σ' s' w' σ'' HM Zu} (h:aW σ s w σ' s' w') (k:aW σ' s' w' σ'' HM Zu):aW σ s w σ'' HM Zu:=by
 refine⟨k.os.trans h.os,k.tape.trans h.tape,k.output.trans h.output,Nat.le_trans h.size k.size,?_,?_,?_,?_,?_,k.base.trans h.base,
  λb hb ho=>(k.ga b (Nat.lt_of_lt_of_le hb h.size) (by rw[h.base];exact ho)).trans (h.ga b hb ho)⟩
 ·intro b hb ho;rw[k.bO b (Nat.lt_of_lt_of_le hb h.size) (λh'=>(h.own b h').elim ho (λQP=>by omega)),h.bO b hb ho]
 ·intro b arr E ho hh;obtain⟨cH,h1,h2⟩:=h.shape b arr E ho hh;by_cases mo:Own σ' s' b
  ·obtain⟨Vm,h3,h4⟩:=k.shape b cH E mo h1;exact⟨Vm,h3,by omega⟩
  ·exact⟨cH,by rw[k.bO b (fP h1) mo];exact h1,h2⟩
 ·intro b ho hh;obtain⟨es,c,h1⟩:=h.rG b ho hh;by_cases mo:Own σ' s' b
  ·exact k.rG b mo ⟨es,c,h1⟩
  ·exact⟨es,c,by rw[k.bO b (fP h1) mo];exact h1⟩
 ·intro b hb;rcases k.own b hb with h'|h'
  ·exact h.own b h'
  ·exact .inr (Nat.le_trans h.size h')
 ·intro id o ho;obtain⟨o',h1,h2,h3⟩:=h.aB id o ho;obtain⟨o'',k1,k2,k3⟩:=k.aB id o' h1;refine⟨o'',k1,Nat.le_trans h2 k2,λhe=>?_⟩;have e1:o'.g=o.g:=by omega
  have e2:o''.g=o'.g:=by omega
  exact⟨(k3 e2).1.trans (h3 e1).1,(k3 e2).2.trans (h3 e1).2⟩
theorem aW.cell {σ s w σ' s' w'} (h:aW σ s w σ' s' w') (hc:w.cell? a=some u) (ho:¬Own σ s a.block) :
  w'.cell? a=some u/\¬Own σ' s' a.block:=by
 have hb:=World.block_lt_of_cell? _ _ hc;refine⟨?_,λh'=>?_⟩
 ·rw[World.cell?_of_block (w:=w) (h.bO a.block hb ho)];exact hc
 ·rcases h.own _ h' with h'|h'
  ·exact ho h'
  ·omega
theorem dt.bF {σ s w σ' s' w'} (h:aW σ s w σ' s' w') {x:D} (hr:dt (Own σ s) w x u):dt (Own σ' s') w' x u:=by
 induction hr with
 |sc v hv=>exact .sc v hv
 |nil=>exact .nil
 |sl aI a cap sz f h1 h2 h3 h4 _ ih=>exact .sl aI a cap sz f h1 h2 h3 (λi j x hx=>h.cell (a:=⟨a.block,_,none⟩) (h4 i j x hx).1 (h4 i j x hx).2) ih
 |el cs a f h1 h2 _ ih=>exact .el cs a f h1 (λj x hx=>h.cell (a:=⟨a.block,_,none⟩) (h2 j x hx).1 (h2 j x hx).2) ih
 |cl h1 _ h3 _ uI ie=>exact .cl h1 uI h3 ie
 |ub b=>exact .ub b
theorem dt.own {O O':Nat->Prop}{x:D} (h:∀b,O' b->O b) (hr:dt O w x u):dt O' w x u:=by
 induction hr with
 |sc v hv=>exact .sc v hv
 |nil=>exact .nil
 |sl aI a cap sz f h1 h2 h3 h4 _ ih=>exact .sl aI a cap sz f h1 h2 h3 (λi j x hx=>⟨(h4 i j x hx).1,λh'=>(h4 i j x hx).2 (h _ h')⟩) ih
 |el cs a f h1 h2 _ ih=>exact .el cs a f h1 (λj x hx=>⟨(h2 j x hx).1,λh'=>(h2 j x hx).2 (h _ h')⟩) ih
 |cl h1 _ h3 _ uI ie=>exact .cl h1 uI h3 ie
 |ub b=>exact .ub b
theorem Bs.bF {σ s w σ' s' w'} (h:aW σ s w σ' s' w'){lo:Nat} (gf:o'.sz=o.sz) (hs:σ' id=σ id)
  (hk:Bs σ w id o lo n u):Bs σ' w' id o' lo n u:=by
 rcases hk with ⟨h1,h2,h3,h4⟩|⟨b,base,cap,E,arr,h1,h2,h3,h4,h5⟩
 ·exact .inl ⟨hs.trans h1,h2,h3,h4⟩
 ·by_cases hO:Own σ s b
  ·obtain⟨cH,k1,k2⟩:=h.shape b arr E hO h2;exact .inr ⟨b,base,cap,E,cH,hs.trans h1,k1,by rw[gf];exact h3,h4,by rw[gf,k2];exact h5⟩
  ·exact .inr ⟨b,base,cap,E,arr,hs.trans h1,by rw[h.bO b (fP h2) hO];exact h2,by rw[gf];exact h3,h4,by rw[gf];exact h5⟩
theorem HP.bF {σ s w σ' s' w'} (h:aW σ s w σ' s' w') (hc:HP w b):HP w' b:=by
 obtain⟨arr,E,hh⟩:=hc;by_cases hO:Own σ s b
 ·obtain⟨cH,k1,_⟩:=h.shape b arr E hO hh;exact⟨cH,E,k1⟩
 ·exact⟨arr,E,by rw[h.bO b (fP hh) hO];exact hh⟩
theorem Qh.bF {σ s w σ' s' w'} (h:aW σ s w σ' s' w') (hc:Qh w b):Qh w' b:=by
 by_cases hO:Own σ s b
 ·exact h.rG b hO hc
 ·obtain⟨es,c,hh⟩:=hc;exact⟨es,c,by rw[h.bO b (fP hh) hO];exact hh⟩
theorem HP.notM (h:HP w b) (k:Qh w b):False:=by obtain⟨arr,E,h⟩:=h;obtain⟨es,c,k⟩:=k;rw[h]at k;cases k
theorem aG.bF {σ s w σ' s' w'} (h:aW σ s w σ' s' w') (hr:aG σ s w x u):aG σ' s' w' x u:=by
 induction hr with
 |d hx=>exact .d (hx.bF h)
 |ag h1 h2 _ ih=>exact .ag h1 h2 ih
 |tu h1 _ ih=>exact .tu h1 ih
 |fu hx=>exact .fu (hx.bF h)
 |so o ho hg hu hk =>
  obtain⟨o',h1,h2,h3⟩:=h.aB _ o ho;exact .so o' h1 (Nat.le_trans hg h2) hu λhe=>have e:o'.g=o.g:=by omega
   Bs.bF h (h3 e).1 (h3 e).2 (hk (by omega))
 |rf o ho hg hu hk =>
  obtain⟨o',h1,h2,h3⟩:=h.aB _ o ho;refine .rf o' h1 (Nat.le_trans hg h2) hu λhe=>?_;have e:o'.g=o.g:=by omega
  obtain⟨b,base,k1,kc,k2⟩:=hk (by omega);exact⟨b,base,(h3 e).2.trans k1,kc.bF h,by rw[(h3 e).1];exact k2⟩
 |pp o ho hg hk =>
  obtain⟨o',h1,h2,h3⟩:=h.aB _ o ho;refine .pp o' h1 (Nat.le_trans hg h2) λhe=>?_;have e:o'.g=o.g:=by omega
  obtain⟨base,k1,kc,k2⟩:=hk (by omega);exact⟨base,(h3 e).2.trans k1,kc.bF h,by rw[(h3 e).1];exact k2⟩
 |mp o ho hg hu hk =>
  obtain⟨o',h1,h2,h3⟩:=h.aB _ o ho;refine .mp o' h1 (Nat.le_trans hg h2) hu λhe=>?_;have e:o'.g=o.g:=by omega
  obtain⟨b,k1,kc,k2⟩:=hk (by omega);exact⟨b,(h3 e).2.trans k1,kc.bF h,k2⟩
 |bx h1 h2 h3 hu _ ih =>
  obtain⟨k1,k2⟩:=h.cell h2 h3;exact .bx h1 k1 k2 hu ih
 |cl h1 _ h3 _ uI ie=>exact .cl h1 uI h3 ie
 |un=>exact .un
 |any=>exact .any
theorem aG.RX {σ s w}{i a:Nat} (h:aG σ s w (.pp id g i off b a) u):aG σ s w (.rf id g i off) u:=by
 cases h with
 |pp o ho hg hk=>exact .rf o ho hg rfl λhe=>let ⟨base,h1,h2,h3⟩:=hk he;⟨b,base,h1,h2,by rw[h3]⟩
theorem aG.Ay {σ s w}{i a:Nat} (h:aG σ s w (.pp id g i off b a) u):u=.pointer (some ⟨b,a,none⟩):=by
 cases h with
 |pp o ho hg hk=>rfl
theorem aG.V1 {σ s w}{i:Nat} (ho:s[id]?=some o) (hg:o.g=g) (h:aG σ s w (.rf id g i off) u):∃b a,aG σ s w (.pp id g i off b a) u:=by
 cases h with
 |rf o' mo CP hu hk =>
  rw[ho]at mo;cases mo;obtain⟨b,base,h1,h2,rfl⟩:=hk hg;exact⟨b,_,.pp o ho CP λ_=>⟨base,h1,h2,rfl⟩⟩
def kI (es:Array MapEntry):List (List V):=es.toList.map λe=>[V.d (.sc e.key),V.d (.sc e.val)]
def sZ (w:World) (p:Option (Nat×Nat)) (o:Obj):Prop :=
 (p=none/\o.aI=[])\/∃b es c,p=some (b,0)/\w.heap[b]?=some (.map es c)/\o.aI=kI es
theorem sZ.CW (h:sZ w p o) (hp:p=some (b,base)) (hc:HP w b):False:=by
 rcases h with ⟨h,_⟩|⟨b',es,c,h,hh,_⟩
 ·rw[hp]at h;cases h
 ·rw[hp]at h;cases h;exact hc.notM ⟨es,c,hh⟩
theorem sZ.congr (h:sZ w p o') (he:o.aI=o'.aI):sZ w p o:=by unfold sZ at *;rw[he];exact h
theorem sZ.KI (h:sZ w p o) (hp:p=none):o.aI=[]:=by
 rcases h with ⟨_,h⟩|⟨b',es,c,h,_⟩
 ·exact h
 ·rw[hp]at h;cases h
structure Inv (σ:Gh) (s:List Obj) (w:World):Prop where
 content:∀id o,s[id]?=some o->sZ w (σ id) o\/∃b base arr E,σ id=some (b,base)/\w.heap[b]?=some (.cells arr E (0,0)) /\
  (∀e∈o.aI,e.length=o.sz)/\base+o.aI.length*o.sz<=arr.size /\
  ∀i j x,(o.aI[i]?.bind (·[j]?))=some x->∃u,arr[base+i*o.sz+j]?=some u/\u.oneCell'=true/\aG σ s w x u
 inj:∀id kt o o' b base cr,s[id]?=some o->s[kt]?=some o'->o.live=true->σ id=some (b,base)->σ kt=some (b,cr)->id=kt
 low:∀b,σ.base b->b<w.heap.size
 apart:∀id o b base,s[id]?=some o->σ id=some (b,base)->¬σ.base b
def m7 (σ:Gh) (id:Nat) (p:Option (Nat×Nat)):Gh:=⟨λk=>if k=id then p else σ k,σ.base⟩
theorem cg (σ:Gh) (id:Nat) (p:Option (Nat×Nat)):m7 σ id p id=p:=by simp [m7]
theorem dv (σ:Gh) (p:Option (Nat×Nat)) (h:k≠id):m7 σ id p k=σ k:=by simp [m7,h]
def tB (σ:Gh) (s:List Obj) (w:World) (p:Option (Nat×Nat)) (o:Obj):Prop :=
 sZ w p o\/∃b base arr E,p=some (b,base)/\w.heap[b]?=some (.cells arr E (0,0)) /\
  (∀e∈o.aI,e.length=o.sz)/\base+o.aI.length*o.sz<=arr.size /\
  ∀i j x,(o.aI[i]?.bind (·[j]?))=some x->∃u,arr[base+i*o.sz+j]?=some u/\u.oneCell'=true/\aG σ s w x u
theorem tB.bF {σ s w σ' s' w' p o} (h:aW σ s w σ' s' w') (hb:∀b base,p=some (b,base)->w'.heap[b]?=w.heap[b]?) (hh:tB σ s w p o):tB σ' s' w' p o:=by
 rcases hh with h1|⟨b,base,arr,E,h1,h2,h3,h4,h5⟩
 ·refine .inl ?_;rcases h1 with h1|⟨b,es,c,h1,h2,h3⟩
  ·exact .inl h1
  ·exact .inr ⟨b,es,c,h1,(hb b 0 h1).trans h2,h3⟩
 ·exact .inr ⟨b,base,arr,E,h1,(hb b base h1).trans h2,h3,h4,λi j x hx=>let ⟨u,k1,k2,k3⟩:=h5 i j x hx;⟨u,k1,k2,k3.bF h⟩⟩
theorem Inv.lt {σ s w} (hI:Inv σ s w) {id o b base} (ho:s[id]?=some o) (hs:σ id=some (b,base)):b<w.heap.size:=by
 rcases hI.content id o ho with (⟨h1,_⟩|⟨b',es,c,h1,h2,_⟩)|⟨b',cr,arr,E,h1,h2,_⟩
 ·rw[hs]at h1;cases h1
 ·rw[hs]at h1;cases h1;exact fP h2
 ·rw[hs]at h1;cases h1;exact fP h2
theorem la (hI:Inv σ s w) (ho:s[id]?=some o) (hl:o.live=true)
  (hos:w'.os=w.os) (Gd:w'.tape=w.tape) (Lo:w'.output=w.output) (iA:w.heap.size<=w'.heap.size)
  (hkeep:∀b,b<w.heap.size->(∀base,σ id≠some (b,base))->w'.heap[b]?=w.heap[b]?)
  (hshape:∀b base arr E,σ id=some (b,base)->w.heap[b]?=some (.cells arr E (0,0))->∃cH,w'.heap[b]?=some (.cells cH E (0,0))/\cH.size=arr.size)
  (hshapeM:∀b base,σ id=some (b,base)->Qh w b->Qh w' b)
  (hg:o.g<=o'.g) (CP:o'.g=o.g->o'.sz=o.sz/\p=σ id)
  (hp:∀b base,p=some (b,base)->(∃yV,σ id=some (b,yV))\/w.heap.size<=b)
  (hc:aW σ s w (m7 σ id p) (s.set id o') w'->tB (m7 σ id p) (s.set id o') w' p o') :
  aW σ s w (m7 σ id p) (s.set id o') w'/\Inv (m7 σ id p) (s.set id o') w':=by
 have aH:id<s.length:=(List.getElem?_eq_some_iff.1 ho).1;have xu:(s.set id o')[id]?=some o':=by simp [aH]
 have lU:∀k,k≠id->(s.set id o')[k]?=s[k]?:=λk hk=>by rw[List.getElem?_set_ne (Ne.symm hk)]
 have Zg:∀k ok b base,k≠id->s[k]?=some ok->σ k=some (b,base)->w'.heap[b]?=w.heap[b]?:=by intro k ok b base hk jB hs;exact hkeep b (hI.lt jB hs) λcr he=>hk (hI.inj id k o ok b cr base ho jB hl he hs).symm
 have hE:aW σ s w (m7 σ id p) (s.set id o') w':=by
  refine⟨hos,Gd,Lo,iA,?_,?_,?_,?_,?_,rfl,λb hb hf=>hkeep b hb λbase he=>hI.apart id o b base ho he hf⟩
  ·intro b hb ov;exact hkeep b hb λbase he=>ov (.inr ⟨id,o,base,ho,hl,he⟩)
  ·intro b arr E hO hh;by_cases he:∃base,σ id=some (b,base)
   ·obtain⟨base,he⟩:=he;exact hshape b base arr E he hh
   ·exact⟨arr,by rw[hkeep b (fP hh) (λbase h'=>he ⟨base,h'⟩)];exact hh,rfl⟩
  ·intro b hO hm;by_cases he:∃base,σ id=some (b,base)
   ·obtain⟨base,he⟩:=he;exact hshapeM b base he hm
   ·obtain⟨es,c,hh⟩:=hm;exact⟨es,c,by rw[hkeep b (fP hh) (λbase h'=>he ⟨base,h'⟩)];exact hh⟩
  ·rintro b (hf|⟨k,ok,base,oG,AT,KE⟩)
   ·exact .inl (.inl hf)
   by_cases hk:k=id
   ·subst hk;rw[cg]at KE;rcases hp b base KE with ⟨yV,h'⟩|h'
    ·exact .inl (.inr ⟨k,o,yV,ho,hl,h'⟩)
    ·exact .inr h'
   ·rw[dv _ _ hk]at KE;rw[lU k hk]at oG;exact .inl (.inr ⟨k,ok,base,oG,AT,KE⟩)
  ·intro k ok jB;by_cases hk:k=id
   ·subst hk;rw[ho]at jB;cases jB;exact⟨o',xu,hg,λhe=>⟨(CP he).1,by rw[cg];exact(CP he).2⟩⟩
   ·exact⟨ok,by rw[lU k hk];exact jB,adB _,λ_=>⟨rfl,dv _ _ hk⟩⟩
 refine⟨hE,⟨?_,?_,λb hb=>Nat.lt_of_lt_of_le (hI.low b hb) iA,?_⟩⟩
 rotate_left 2
 ·intro k ok b base h1 h3 hf;by_cases hk:k=id
  ·subst hk;rw[cg]at h3;rcases hp b base h3 with ⟨yV,h'⟩|h'
   ·exact hI.apart k o b yV ho h' hf
   ·have:=hI.low b hf;omega
  ·rw[dv _ _ hk]at h3;rw[lU k hk]at h1;exact hI.apart k ok b base h1 h3 hf
 ·intro k ok jB;by_cases hk:k=id
  ·subst hk;rw[xu]at jB;cases jB;rw[cg];exact hc hE
  ·rw[lU k hk]at jB;rw[dv _ _ hk];exact tB.bF (p:=σ k) hE (λb base h=>Zg k ok b base hk jB h) (hI.content k ok jB)
 ·intro k k' ok XY b base cr h1 h2 h3 h4 h5;by_cases hk:k=id <;> by_cases uB:k'=id
  ·rw[hk,uB]
  ·subst hk;rw[cg]at h4;rw[dv _ _ uB]at h5;rw[lU k' uB]at h2;rcases hp b base h4 with ⟨yV,h'⟩|h'
   ·exact hI.inj _ _ _ _ _ _ _ ho h2 hl h' h5
   ·have:=hI.lt h2 h5;omega
  ·subst uB;rw[cg]at h5;rw[dv _ _ hk]at h4;rw[lU k hk]at h1;rcases hp b cr h5 with ⟨yV,h'⟩|h'
   ·exact hI.inj _ _ _ _ _ _ _ h1 ho h3 h4 h'
   ·have:=hI.lt h1 h4;omega
  ·rw[dv _ _ hk]at h4;rw[dv _ _ uB]at h5;rw[lU k hk]at h1;rw[lU k' uB]at h2;exact hI.inj _ _ _ _ _ _ _ h1 h2 h3 h4 h5
theorem lE (hI:Inv σ s w)
  (hos:w'.os=w.os) (Gd:w'.tape=w.tape) (Lo:w'.output=w.output) (iA:w.heap.size<=w'.heap.size)
  (hkeep:∀b,b<w.heap.size->w'.heap[b]?=w.heap[b]?)
  (hp:∀b base,p=some (b,base)->w.heap.size<=b)
  (hc:aW σ s w (m7 σ s.length p) (s++[o']) w'->tB (m7 σ s.length p) (s++[o']) w' p o') :
  aW σ s w (m7 σ s.length p) (s++[o']) w'/\Inv (m7 σ s.length p) (s++[o']) w':=by
 have xu:(s++[o'])[s.length]?=some o':=by simp
 have lU:∀k ok,k≠s.length->(s++[o'])[k]?=some ok->s[k]?=some ok:=by
  intro k ok hk h;rw[List.getElem?_append]at h;split at h
  ·exact h
  ·rename_i h';have:k-s.length≠0:=by omega
   cases hh:k-s.length with
   |zero=>omega
   |succ n=>rw[hh]at h;simp at h
 have aH:∀k ok,s[k]?=some ok->k≠s.length:=λk ok h=>by have:=(List.getElem?_eq_some_iff.1 h).1;omega
 have hE:aW σ s w (m7 σ s.length p) (s++[o']) w':=by
  refine⟨hos,Gd,Lo,iA,λb hb _=>hkeep b hb,λb arr E _ hh=>⟨arr,by rw[hkeep b (fP hh)];exact hh,rfl⟩,λb _ hm=>let ⟨es,c,hh⟩:=hm;⟨es,c,by rw[hkeep b (fP hh)];exact hh⟩,?_,?_,rfl,λb hb _=>hkeep b hb⟩
  ·rintro b (hf|⟨k,ok,base,oG,AT,KE⟩)
   ·exact .inl (.inl hf)
   by_cases hk:k=s.length
   ·subst hk;rw[cg]at KE;exact .inr (hp b base KE)
   ·rw[dv _ _ hk]at KE;exact .inl (.inr ⟨k,ok,base,lU k ok hk oG,AT,KE⟩)
  ·intro k ok jB;exact⟨ok,by rw[adM (List.getElem?_eq_some_iff.1 jB).1];exact jB,adB _,λ_=>⟨rfl,dv _ _ (aH k ok jB)⟩⟩
 refine⟨hE,⟨?_,?_,λb hb=>Nat.lt_of_lt_of_le (hI.low b hb) iA,?_⟩⟩
 rotate_left 2
 ·intro k ok b base h1 h3 hf;by_cases hk:k=s.length
  ·subst hk;rw[cg]at h3;have:=hp b base h3;have:=hI.low b hf;omega
  ·rw[dv _ _ hk]at h3;exact hI.apart k ok b base (lU k ok hk h1) h3 hf
 ·intro k ok jB;by_cases hk:k=s.length
  ·subst hk;rw[xu]at jB;cases jB;rw[cg];exact hc hE
  ·have h':=lU k ok hk jB;rw[dv _ _ hk];exact tB.bF (p:=σ k) hE (λb base h=>hkeep b (hI.lt h' h)) (hI.content k ok h')
 ·intro k k' ok XY b base cr h1 h2 h3 h4 h5;by_cases hk:k=s.length <;> by_cases uB:k'=s.length
  ·rw[hk,uB]
  ·subst hk;rw[cg]at h4;rw[dv _ _ uB]at h5;have:=hI.lt (lU k' XY uB h2) h5;have:=hp b base h4;omega
  ·subst uB;rw[cg]at h5;rw[dv _ _ hk]at h4;have:=hI.lt (lU k ok hk h1) h4;have:=hp b cr h5;omega
  ·rw[dv _ _ hk]at h4;rw[dv _ _ uB]at h5;exact hI.inj _ _ _ _ _ _ _ (lU k ok hk h1) (lU k' XY uB h2) h3 h4 h5
theorem qI (hI:Inv σ s w) (hos:w'.os=w.os) (Gd:w'.tape=w.tape) (Lo:w'.output=w.output) (iA:w.heap.size<=w'.heap.size)
  (hkeep:∀b,b<w.heap.size->w'.heap[b]?=w.heap[b]?):aW σ s w σ s w'/\Inv σ s w':=by
 have hE:aW σ s w σ s w':=⟨hos,Gd,Lo,iA,λb hb _=>hkeep b hb,λb arr E _ hh=>⟨arr,by rw[hkeep b (fP hh)];exact hh,rfl⟩,λb _ hm=>let ⟨es,c,hh⟩:=hm;⟨es,c,by rw[hkeep b (fP hh)];exact hh⟩,λb h=>.inl h,
  λid o ho=>⟨o,ho,adB _,λ_=>⟨rfl,rfl⟩⟩,rfl,λb hb _=>hkeep b hb⟩
 exact⟨hE,λk ok jB=>tB.bF (p:=σ k) hE (λb base h=>hkeep b (hI.lt jB h)) (hI.content k ok jB),hI.inj,λb hb=>Nat.lt_of_lt_of_le (hI.low b hb) iA,hI.apart⟩
theorem qY (hI:Inv σ s w):aW σ s w σ s w.drew/\Inv σ s w.drew :=
 qI hI rfl rfl rfl (adB _) (λ_ _=>rfl)
theorem Bv (hI:Inv σ s w) (x:Go.Obj):aW σ s w σ s (w.alloc x)/\Inv σ s (w.alloc x) :=
 qI hI rfl rfl rfl (by simp) (λb hb=>Go.RowKit.Below.heap_alloc w x b hb)
structure RJ where
 sz:Nat
 agg:Bool
 F2:Nat
 zero:List Value
variable{i:RJ}
def cL (P:Program) (t:TypeId):Option RJ :=
 match P.info? t,P.underlying t with
 |some i,some d=>match i.zero with
  |some z=>if z.cells.size=i.size/\z.cells.toList.all Value.oneCell'=true then
    some ⟨i.size,(match d with|.struct _|.array _ _=>true|_=>false),i.bytes,z.cells.toList⟩ else none
  |none=>none
 |_,_=>none
theorem iC (h:cL P t=some i):∃ti d z,P.info? t=some ti/\P.underlying t=some d/\ti.zero=some z/\ti.size=i.sz/\ti.bytes=i.F2 /\
  z.cells.toList=i.zero/\i.zero.length=i.sz/\(∀v∈i.zero,v.oneCell'=true)/\(∀w,(isAgg t).run P w=.ok i.agg w):=by
 unfold cL at h;cases h1:P.info? t with
 |none=>simp [h1]at h
 |some ti =>
  cases h2:P.underlying t with
  |none=>simp [h1,h2]at h
  |some d =>
   cases h3:ti.zero with
   |none=>simp [h1,h2,h3]at h
   |some z =>
    simp only[h1,h2,h3]at h;split at h
    ·rename_i hc;simp only[adp]at h;subst h;refine⟨ti,d,z,rfl,rfl,h3,rfl,rfl,rfl,by simpa using hc.1,λv hv=>List.all_eq_true.1 hc.2 v hv,λw=>?_⟩;cases d <;> simp [isAgg,run_underlying h2]
    ·cases h
def cv:Value->V
 |.slice none 0 0=>.fu []
 |.agg _=>.any
 |.tuple _=>.any
 |v=>.d (.sc v)
theorem Dk {σ s w} (v:Value):aG σ s w (cv v) v:=by
 unfold cv;split
 ·exact .fu .nil
 ·exact .any
 ·exact .any
 ·rename_i h1 h2 h3;refine .d (.sc v ?_);cases v <;> simp_all [Value.oneCell']
def TO:Value->V
 |.agg cs=>if cs.toList.all Value.oneCell'=true then .ag (cs.toList.map cv) else .any
 |v=>cv v
theorem RG {σ s w} (v:Value):aG σ s w (TO v) v:=by
 unfold TO;split
 ·rename_i cs;split
  ·rename_i h;rw[adE]at h;refine .ag (by simp) (λi x hx=>?_) (λi x hx=>?_)
   ·rw[adL]at hx;obtain⟨y,hy,rfl⟩:=Option.map_eq_some_iff.1 hx;have h2:cs[i]?=some y:=by rw[<- aed];exact hy
    rw[adH,h2];exact h y (adw hy)
   ·rw[adL]at hx;obtain⟨y,hy,rfl⟩:=Option.map_eq_some_iff.1 hx;have h2:cs[i]?=some y:=by rw[<- aed];exact hy
    rw[adH,h2];exact Dk y
  ·exact .any
 ·exact Dk _
def ev (e:Nat->V):Operand->V
 |.tmp t=>e t
 |.const v=>TO v
 |.global _=>.any
 |.func f=>.cl (.func f) [] []
def eI:V->Option (List V)
 |.ag cs=>some cs
 |.un|.any|.tu _=>none
 |v=>some [v]
theorem dt.one {O w x u} (h:dt O w x u):u.oneCell'=true:=by
 cases h <;> first|assumption|rfl
theorem lK (hr:aG σ s w x u) (hc:eI x=some cs) :
  u.cells.size=cs.length/\∀(i:Nat) (y:V),cs[i]?=some y->∃c,u.cells[i]?=some c/\c.oneCell'=true/\aG σ s w y c:=by
 have single:∀{y:V}{c:Value},c.oneCell'=true->aG σ s w y c->c.cells.size=[y].length/\∀(i:Nat) (z:V),[y][i]?=some z->∃b,c.cells[i]?=some b/\b.oneCell'=true/\aG σ s w z b:=by
  intro y c h1 h2;have lT:c.cells=#[c]:=by cases c <;> first|rfl|simp [Value.oneCell']at h1
  refine⟨by simp [lT],λi z hz=>?_⟩;cases i with
  |zero=>simp at hz;subst hz;exact⟨c,by simp [lT],h1,h2⟩
  |succ n=>simp at hz
 cases hr with
 |d h=>simp only[eI,adp]at hc;subst hc;exact single h.one (.d h)
 |ag h1 h2 h3 =>
  simp only[eI,adp]at hc;subst hc;refine⟨h1,λi y hy=>?_⟩;have hi:=(List.getElem?_eq_some_iff.1 hy).1;have e:∀{arr:Array Value},i<arr.size->arr[i]?=some (arr.getD i undef):=λh=>by simp [Array.getD,h]
  exact⟨_,e (by simp only[Value.cells];omega),h2 i y hy,h3 i y hy⟩
 |tu h1 h2=>simp [eI]at hc
 |fu h=>simp only[eI,adp]at hc;subst hc;exact single rfl (.fu h)
 |so o h1 h2 h3 h4=>simp only[eI,adp]at hc;subst hc;exact single h3 (.so o h1 h2 h3 h4)
 |rf o h1 h2 h3 h4=>simp only[eI,adp]at hc;subst hc;exact single h3 (.rf o h1 h2 h3 h4)
 |pp o h1 h2 h3=>simp only[eI,adp]at hc;subst hc;exact single rfl (.pp o h1 h2 h3)
 |mp o h1 h2 h3 h4=>simp only[eI,adp]at hc;subst hc;exact single h3 (.mp o h1 h2 h3 h4)
 |bx h1 h2 h3 hu h4=>simp only[eI,adp]at hc;subst hc;exact single rfl (.bx h1 h2 h3 hu h4)
 |cl h1 h2 h3 h4=>simp only[eI,adp]at hc;subst hc;exact single rfl (.cl h1 h2 h3 h4)
 |un=>simp [eI]at hc
 |any=>simp [eI]at hc
def nL (agg:Bool) (n:Nat) (cs:List V) (K:V->Prop):Prop :=
 match agg with
 |true=>n<=cs.length/\K (.ag (cs.take n))
 |false=>n=1/\match cs with|[]=>False|v::_=>K v
def jM (P:Program) (t:TypeId) (s:List Obj) (p:V) (K:V->Prop):Prop :=
 match cL P t with
 |none=>False
 |some i=>match p with
  |.d (.el cs)=>nL i.agg i.sz (cs.map .d) K
  |.bx v=>nL i.agg i.sz [v] K
  |.rf id g k off=>match s[id]? with
   |none=>False
   |some o=>o.g=g/\match o.aI[k]? with
    |none=>False
    |some cs=>nL i.agg i.sz (cs.drop off) K
  |.pp id g k off _ _=>match s[id]? with
   |none=>False
   |some o=>o.g=g/\match o.aI[k]? with
    |none=>False
    |some cs=>nL i.agg i.sz (cs.drop off) K
  |_=>False
theorem fJ (h:a.spot=none) (n:Nat):a.add n=⟨a.block,a.off+n,none⟩:=by obtain⟨b,o,sp⟩:=a;simp only at h;subst h;unfold Addr.add;split <;> simp_all
theorem xN (ht:cL P t=some i) (ha:a.spot=none) (f:Nat->Value) (n1:i.agg=false->i.sz=1)
  (hc:∀j,j<i.sz->w.cell? ⟨a.block,a.off+j,none⟩=some (f j)) :
  (loadVar t a).run P w=.ok (if i.agg then .agg ((List.range i.sz).map f).toArray else f 0) w:=by
 obtain⟨ti,d,z,h1,h2,h3,h4,h5,h6,h7,h8,h9⟩:=iC ht;have gf:(sizeOf t).run P w=.ok i.sz w:=by simp [sizeOf,typeInfo,h1,h4]
 cases wj:i.agg with
 |true =>
  rw[wj]at h9;have hl:=run_loadCells (P:=P) w a i.sz f (λj hj=>by rw[fJ ha];exact hc j hj);simp [loadVar,h9,gf,hl]
 |false =>
  rw[wj]at h9;have KG:=hc 0 (by rw[n1 wj];omega);have e:(⟨a.block,a.off+0,none⟩:Addr)=a:=by obtain⟨b,o,sp⟩:=a;simp_all
  rw[e]at KG;simp [loadVar,h9,KG]
theorem zN (ht:cL P t=some i) {σ s w} (ha:a.spot=none){K:V->Prop} (hk:nL i.agg i.sz cs K)
  (hc:∀j x,cs[j]?=some x->∃u,w.cell? ⟨a.block,a.off+j,none⟩=some u/\u.oneCell'=true/\aG σ s w x u) :
  ∃v c,(loadVar t a).run P w=.ok c w/\aG σ s w v c/\K v:=by
 have hf:∃f:Nat->Value,∀j x,cs[j]?=some x->w.cell? ⟨a.block,a.off+j,none⟩=some (f j)/\(f j).oneCell'=true/\aG σ s w x (f j):=by refine⟨λj=>(w.cell? ⟨a.block,a.off+j,none⟩).getD undef,λj x hx=>?_⟩;obtain⟨u,h1,h2,h3⟩:=hc j x hx;simp only[h1,Option.getD_some];exact⟨trivial,h2,h3⟩
 obtain⟨f,hf⟩:=hf;unfold nL at hk;cases wj:i.agg with
 |true =>
  rw[wj]at hk;obtain⟨hn,hk⟩:=hk;have kK:∀j,j<i.sz->cs[j]?=some (cs[j]?.getD .any):=λj hj=>by simp [show j<cs.length by omega]
  refine⟨_,_,xN ht ha f (by simp [wj]) (λj hj=>(hf j _ (kK j hj)).1),?_,hk⟩;rw[wj];simp only[if_true];have e:∀j,j<i.sz->((List.range i.sz).map f).toArray.getD j undef=f j:=λj hj=>by simp [Array.getD,hj]
  have e2:∀j x,(cs.take i.sz)[j]?=some x->j<i.sz/\cs[j]?=some x:=by
   intro j x hx;rw[ad1]at hx;split at hx
   ·exact⟨by assumption,hx⟩
   ·cases hx
  refine .ag (by simp [Nat.min_eq_left hn]) (λj x hx=>?_) (λj x hx=>?_)
  ·rw[e j (e2 j x hx).1];exact(hf j x (e2 j x hx).2).2.1
  ·rw[e j (e2 j x hx).1];exact(hf j x (e2 j x hx).2).2.2
 |false =>
  rw[wj]at hk;obtain⟨hn,hk⟩:=hk;cases cs with
  |nil=>exact hk.elim
  |cons v rest =>
   refine⟨v,_,xN ht ha f (λ_=>hn) (λj hj=>?_),?_,hk⟩
   ·have:j=0:=by omega
    subst this;exact(hf 0 v rfl).1
   ·rw[wj];exact(hf 0 v rfl).2.2
theorem JY{p:V}{K:V->Prop} (hI:Inv σ s w) (hp:aG σ s w p u) (Wa:∀id g i off b a,p≠.pp id g i off b a) (h:jM P t s p K) :
  ∃v c,(Instr.loadAt t u).run P w=.ok c w/\aG σ s w v c/\K v:=by
 unfold jM at h;cases ht:cL P t with
 |none=>rw[ht]at h;exact h.elim
 |some i =>
  rw[ht]at h;simp only at h;have fin:∀(a:Addr) (v:V) (c:Value),u=.pointer (some a)->(loadVar t a).run P w=.ok c w->aG σ s w v c->K v->∃v c,(Instr.loadAt t u).run P w=.ok c w/\aG σ s w v c/\K v:=by rintro a v c rfl h1 h2 h3;exact⟨v,c,by simp [Instr.loadAt,Instr.sureAddr,h1],h2,h3⟩
  cases hp with
  |pp o ho hg hk=>exact absurd rfl (Wa _ _ _ _ _ _)
  |d hx =>
   cases hx with
   |el cs a f h1 h2 h3 =>
    obtain⟨v,c,k1,k2,k3⟩:=zN (σ:=σ) (s:=s) (w:=w) ht h1 h (λj x hx=>by
     rw[adL]at hx;obtain⟨y,hy,rfl⟩:=Option.map_eq_some_iff.1 hx;exact⟨f j,(h2 j y hy).1,(h3 j y hy).one,.d (h3 j y hy)⟩)
    exact fin a v c rfl k1 k2 k3
   |_=>exact h.elim
  |bx h1 h2 h3 hu h4 =>
   obtain⟨v,c,k1,k2,k3⟩:=zN (σ:=σ) (s:=s) (w:=w) ht h1 h (λj x hx=>by
    cases j with
    |zero=>simp at hx;subst hx;exact⟨_,h2,hu,h4⟩
    |succ j=>simp at hx)
   exact fin _ v c rfl k1 k2 k3
  |rf o ho hg hu hk =>
   simp only[ho]at h;obtain⟨uF,h⟩:=h;obtain⟨b,base,hs,hC,rfl⟩:=hk uF;split at h
   ·exact h.elim
   ·rename_i id g k off _ cs nn;rcases hI.content _ o ho with h1|⟨b',cr,arr,E,h1,h2,h3,h4,h5⟩
    ·exact(h1.CW hs hC).elim
    ·rw[hs]at h1;cases h1;obtain⟨v,c,k1,k2,k3⟩:=zN (σ:=σ) (s:=s) (w:=w) (a:=⟨b,base+k*o.sz+off,none⟩) ht rfl h (λj x hx=>by
      rw[List.getElem?_drop]at hx;obtain⟨y,k1,k2,k3⟩:=h5 k (off+j) x (by rw[nn];exact hx);refine⟨y,?_,k2,k3⟩;simp only[World.cell?,h2];simpa [Nat.add_assoc]using k1)
     exact fin _ v c rfl k1 k2 k3
  |_=>exact h.elim
theorem Aj{p:V}{K:V->Prop} (hI:Inv σ s w) (hp:aG σ s w p u) (h:jM P t s p K) :
  ∃v c,(Instr.loadAt t u).run P w=.ok c w/\aG σ s w v c/\K v:=by
 by_cases HE:∃id g i off b a,p=.pp id g i off b a
 ·obtain⟨id,g,i,off,b,a,rfl⟩:=HE;exact JY hI hp.RX (by intros;simp) h
 ·exact JY hI hp (λid g i off b a he=>HE ⟨id,g,i,off,b,a,he⟩) h
def gr (cs:List V) (off:Nat) (ns:List V):List V:=cs.take off++ns++cs.drop (off+ns.length)
def gN (P:Program) (t:TypeId) (s:List Obj) (p x:V) (K:List Obj->Prop):Prop :=
 match cL P t with
 |none=>False
 |some i=>match p with
  |.rf id g k off=>match s[id]? with
   |none=>False
   |some o=>o.g=g/\o.live=true/\match o.aI[k]? with
    |none=>False
    |some cs=>match eI x with
     |none=>False
     |some ns=>ns.length=i.sz/\off+i.sz<=cs.length/\K (s.set id { o with aI:=o.aI.set k (gr cs off ns) })
  |.pp id g k off _ _=>match s[id]? with
   |none=>False
   |some o=>o.g=g/\o.live=true/\match o.aI[k]? with
    |none=>False
    |some cs=>match eI x with
     |none=>False
     |some ns=>ns.length=i.sz/\off+i.sz<=cs.length/\K (s.set id { o with aI:=o.aI.set k (gr cs off ns) })
  |_=>False
theorem nD (cs:List V) (off:Nat) (ns:List V) (h:off+ns.length<=cs.length) (j:Nat) :
  (gr cs off ns)[j]?=if off<=j/\j<off+ns.length then ns[j-off]? else cs[j]?:=by
 have hl:(cs.take off).length=off:=by simp;omega
 unfold gr;by_cases h1:j<off
 ·rw[am (by omega),adX,adM (by omega),ad1,ap h1]
 ·by_cases h2:j<off+ns.length
  ·rw[ap (by omega),adX,adN (by omega),hl,adM (by omega)]
  ·rw[am (by omega),adN (by simp;omega),List.getElem?_drop];congr 1;simp;omega
theorem qs (cs:List V) (off:Nat) (ns:List V) (h:off+ns.length<=cs.length):(gr cs off ns).length=cs.length:=by simp [gr];omega
theorem sB (σ:Gh) (id:Nat):m7 σ id (σ id)=σ:=by
 obtain⟨m,b⟩:=σ;unfold m7;congr 1;funext k;split
 ·rename_i h;rw[h]
 ·rfl
theorem Lp (hI:Inv σ s w){o:Obj} (ho:s[id]?=some o) (hl:o.live=true){ns:List V} (nn:o.aI[k]?=some cs)
  (hfit:off+ns.length<=cs.length) (hs:σ id=some (b,base)) (hC:HP w b) {us:List Value} (Xc:us.length=ns.length)
  (hrep:∀(j:Nat) (x:V),ns[j]?=some x->∃u,us[j]?=some u/\u.oneCell'=true/\aG σ s w x u) (UK:∀u∈us,u.oneCell'=true) (P:Program) :
  ∃w',(storeCells ⟨b,base+k*o.sz+off,none⟩ us).run P w=.ok () w'/\aW σ s w σ (s.set id { o with aI:=o.aI.set k (gr cs off ns) }) w' /\
   Inv σ (s.set id { o with aI:=o.aI.set k (gr cs off ns) }) w':=by
 rcases hI.content _ o ho with h1|⟨b',cr,arr,E,h1,h2,h3,h4,h5⟩
 ·exact(h1.CW hs hC).elim
 rw[hs]at h1;cases h1;have hk:k<o.aI.length:=(List.getElem?_eq_some_iff.1 nn).1;have cZ:cs.length=o.sz:=h3 cs (adw nn);have XS:k*o.sz+o.sz<=o.aI.length*o.sz:=by have:=aeb o.sz (show k+1<=o.aI.length from hk);rw[Nat.add_mul,Nat.one_mul]at this;exact this
 have dJ:=run_storeCells_at P b (base+k*o.sz+off) E us 0 arr w h2 (by rw[Xc];omega) UK;simp only[Nat.add_zero]at dJ;generalize nr:(arr.toList.take (base+k*o.sz+off)++us++arr.toList.drop (base+k*o.sz+off+us.length)).toArray=cH at dJ;have iA:cH.size=arr.size:=by rw[<- nr];simp;omega
 have kK:∀p,cH[p]?=if base+k*o.sz+off<=p/\p<base+k*o.sz+off+us.length then us[p-(base+k*o.sz+off)]? else arr[p]?:=by
  intro p;have hl:(arr.toList.take (base+k*o.sz+off)).length=base+k*o.sz+off:=by simp;omega
  rw[<- nr,List.getElem?_toArray];by_cases g1:p<base+k*o.sz+off
  ·rw[am (by omega),adX,adM (by omega),ad1,ap g1,aed]
  ·by_cases g2:p<base+k*o.sz+off+us.length
   ·rw[ap (by omega),adX,adN (by omega),hl,adM (by omega)]
   ·rw[am (by omega),adN (by simp;omega),List.getElem?_drop,aed];congr 1;simp;omega
 refine⟨_,dJ,?_⟩;have:=la (p:=σ id) (w':=w.setRow b cH) (o':={ o with aI:=o.aI.set k (gr cs off ns) }) hI ho hl rfl rfl rfl (by simp)
  (λb1 _ fG=>setRow_other w b b1 cH (λe=>fG base (by rw[hs,e])))
  (λb1 jk TY E1 he hh=>by
   rw[hs]at he;cases he;rw[h2]at hh;cases hh;exact⟨cH,setRow_heap w b arr cH E (0,0) h2,iA⟩)
  (λb1 jk he hm=>by
   rw[hs]at he;cases he;exact(hC.notM hm).elim)
  (adB _) (λ_=>⟨rfl,rfl⟩) (λb1 jk he=>.inl ⟨jk,he⟩)
  (λhE=>.inr ⟨b,base,cH,E,hs,setRow_heap w b arr cH E (0,0) h2,(by
   intro e he;simp only at he;rcases List.mem_or_eq_of_mem_set he with h'|h'
   ·exact h3 e h'
   ·rw[h',qs _ _ _ hfit];exact cZ),(by simp only[List.length_set];omega),(by
   intro i j x hx;simp only at hx ⊢;rw[sB]at hE ⊢;by_cases MW:i=k
   ·subst MW;rw[List.getElem?_set_self hk]at hx;simp only[Option.bind_some]at hx;rw[nD _ _ _ hfit]at hx;split at hx
    ·rename_i tD;obtain⟨u,k1,k2,k3⟩:=hrep _ x hx;refine⟨u,?_,k2,k3.bF hE⟩;rw[kK,ap (by omega),<- k1];congr 1;omega
    ·rename_i tD;obtain⟨u,k1,k2,k3⟩:=h5 i j x (by rw[nn];exact hx);refine⟨u,?_,k2,k3.bF hE⟩;rw[kK,am (by omega)];exact k1
   ·rw[List.getElem?_set_ne (Ne.symm MW)]at hx;obtain⟨u,k1,k2,k3⟩:=h5 i j x hx;refine⟨u,?_,k2,k3.bF hE⟩;rw[kK,am ?_]
    ·exact k1
    ·have Xj:j<o.sz:=by
      cases he:o.aI[i]? with
      |none=>rw[he]at hx;cases hx
      |some e =>
       rw[he]at hx;have:=(List.getElem?_eq_some_iff.1 hx).1;rw[h3 e (adw he)]at this;exact this
     rcases Nat.lt_or_gt_of_ne MW with aH|aH
     ·have:=aeb o.sz (show i+1<=k from aH);rw[Nat.add_mul,Nat.one_mul]at this;omega
     ·have:=aeb o.sz (show k+1<=i from aH);rw[Nat.add_mul,Nat.one_mul]at this;omega)⟩)
 rw[sB]at this;exact this
theorem Hp{p:V}{K:List Obj->Prop} (hI:Inv σ s w) (hp:aG σ s w p u) (hx:aG σ s w x c) (Wa:∀id g i off b a,p≠.pp id g i off b a) (h:gN P t s p x K) :
  ∃s' w',(Instr.storeAt t u c).run P w=.ok () w'/\aW σ s w σ s' w'/\Inv σ s' w'/\K s':=by
 unfold gN at h;cases ht:cL P t with
 |none=>rw[ht]at h;exact h.elim
 |some i =>
  rw[ht]at h;simp only at h;cases hp with
  |rf o ho hg hu hk =>
   simp only[ho]at h;obtain⟨uF,hl,h⟩:=h;obtain⟨b,base,hs,hC,rfl⟩:=hk uF;split at h
   ·exact h.elim
   ·rename_i id g k off _ cs nn;split at h
    ·exact h.elim
    ·rename_i ns xA;obtain⟨h1,h2,h3⟩:=h;obtain⟨x0,zJ⟩:=lK hx xA;obtain⟨ti,d,z,k1,k2,k3,k4,k5,k6,k7,k8,k9⟩:=iC ht;have gf:∀w,(sizeOf t).run P w=.ok i.sz w:=λw=>by simp [sizeOf,typeInfo,k1,k4]
     obtain⟨w',r1,r2,r3⟩:=Lp hI ho hl nn (ns:=ns) (off:=off) (by omega) hs hC (us:=c.cells.toList) (by simpa using x0)
      (λj x hx=>by
       obtain⟨u,e1,e2,e3⟩:=zJ j x hx;exact⟨u,by rw[aed];exact e1,e2,e3⟩)
      (λu hu=>by
       obtain⟨j,hj,rfl⟩:=List.mem_iff_getElem.1 hu;have OK:j<ns.length:=by simpa [x0]using hj
       obtain⟨u,e1,e2,e3⟩:=zJ j ns[j] (by simp [OK]);have:c.cells.toList[j]=u:=by rw[<- aed]at e1;exact(List.getElem?_eq_some_iff.1 e1).2
       rw[this];exact e2) P
     refine⟨_,w',?_,r2,r3,h3⟩;simp [Instr.storeAt,Instr.sureAddr,storeVar,gf,x0,h1,r1]
  |pp o ho hg hk=>exact absurd rfl (Wa _ _ _ _ _ _)
  |_=>exact h.elim
theorem Gj{p:V}{K:List Obj->Prop} (hI:Inv σ s w) (hp:aG σ s w p u) (hx:aG σ s w x c) (h:gN P t s p x K) :
  ∃s' w',(Instr.storeAt t u c).run P w=.ok () w'/\aW σ s w σ s' w'/\Inv σ s' w'/\K s':=by
 by_cases HE:∃id g i off b a,p=.pp id g i off b a
 ·obtain⟨id,g,i,off,b,a,rfl⟩:=HE;exact Hp hI hp.RX hx (by intros;simp) h
 ·exact Hp hI hp hx (λid g i off b a he=>HE ⟨id,g,i,off,b,a,he⟩) h
def bc (P:Program) (t:TypeId) (f:Nat):Option Nat :=
 match P.underlying t with
 |some (.struct fields)=>match fields[f]? with
  |some fd=>match P.info? fd.type with
   |some i=>if i.size=0 then none else some fd.offset
   |none=>none
  |none=>none
 |_=>none
theorem La{t f off} (h:bc P t f=some off):∃fields fd,P.underlying t=some (.struct fields)/\fields[f]?=some fd/\fd.offset=off /\
  ∀(a:Addr) (w:World),(fieldPlace a fd).run P w=.ok (a.add off) w:=by
 unfold bc at h;split at h
 ·rename_i fields hu;split at h
  ·rename_i fd hf;split at h
   ·rename_i i hi;split at h
    ·cases h
    ·rename_i fG;simp only[adp]at h;exact⟨fields,fd,hu,hf,h,λa w=>by simp [fieldPlace,sizeOf,typeInfo,hi,fG,h]⟩
   ·cases h
  ·cases h
 ·cases h
def sh (s:List Obj) (id g:Nat) (K:Obj->Prop):Prop :=
 match s[id]? with
 |none=>False
 |some o=>o.g=g/\K o
theorem ep{K:Obj->Prop} (h:sh s id g K):∃o,s[id]?=some o/\o.g=g/\K o:=by
 unfold sh at h;split at h
 ·exact h.elim
 ·rename_i o ho;exact⟨o,ho,h.1,h.2⟩
def eK (P:Program) (t:TypeId) (s:List Obj) (p:V) (f:Nat) (K:V->Prop):Prop :=
 match bc P t f with
 |none=>False
 |some d=>match p with
  |.d (.el cs)=>K (.d (.el (cs.drop d)))
  |.rf id g k off=>sh s id g λ_=>K (.rf id g k (off+d))
  |.pp id g k off b a=>sh s id g λ_=>K (.pp id g k (off+d) b (a+d))
  |.d (.sc (.pointer (some ⟨b,a,none⟩)))=>K (.d (.sc (.pointer (some ⟨b,a+d,none⟩))))
  |_=>False
theorem H8 (hp:aG σ s w (.rf id g k off) u) (ho:s[id]?=some o) (hg:o.g=g) :
  ∃b base,σ id=some (b,base)/\HP w b/\u=.pointer (some ⟨b,base+k*o.sz+off,none⟩):=by
 cases hp with
 |rf o' mo CP hu hk =>
  rw[ho]at mo;cases mo;exact hk hg
theorem dt.drop {O:Nat->Prop}{cs:List D} (h:dt O w (.el cs) (.pointer (some a))) (d:Nat):dt O w (.el (cs.drop d)) (.pointer (some (a.add d))):=by
 cases h with
 |el _ _ f h1 h2 h3 =>
  rw[fJ h1];refine .el _ _ (λj=>f (d+j)) rfl (λj x hx=>?_) (λj x hx=>?_)
  ·rw[List.getElem?_drop]at hx;have:=h2 (d+j) x hx;simpa [Nat.add_assoc]using this
  ·rw[List.getElem?_drop]at hx;exact h3 (d+j) x hx
theorem x4{p:V}{f:Nat}{K:V->Prop} (hp:aG σ s w p u) (h:eK P t s p f K) :
  ∃v c,(Instr.fieldAt t u f).run P w=.ok c w/\aG σ s w v c/\K v:=by
 unfold eK at h;split at h
 ·exact h.elim
 ·rename_i d hd;obtain⟨fields,fd,h1,h2,h3,h4⟩:=La hd;have dJ:∀a:Addr,(Instr.fieldAt t (.pointer (some a)) f).run P w=.ok (.pointer (some (a.add d))) w:=λa=>by simp [Instr.fieldAt,run_underlying h1,h2,Instr.sureAddr,h4]
  cases hp with
  |d hx =>
   cases hx with
   |el cs a f' k1 k2 k3=>exact⟨_,_,dJ a,.d (dt.drop (.el cs a f' k1 k2 k3) d),h⟩
   |sc v hv =>
    split at h
    case h_4 =>
     rename_i b a he;simp only[V.d.injEq,D.sc.injEq]at he;subst he;refine⟨_,_,dJ _,?_,h⟩;rw[fJ rfl];exact .d (.sc _ rfl)
    all_goals first|exact h.elim|(rename_i he;cases he)
   |_=>exact h.elim
  |rf o ho hg hu hk =>
   obtain⟨o',e1,e2,e3⟩:=ep h;rw[ho]at e1;cases e1;obtain⟨b,base,k1,kC,rfl⟩:=hk e2;refine⟨_,_,dJ _,.rf o ho hg rfl (λ_=>⟨b,base,k1,kC,?_⟩),e3⟩;rw[fJ rfl];simp [Nat.add_assoc]
  |pp o ho hg hk =>
   obtain⟨o',e1,e2,e3⟩:=ep h;rw[ho]at e1;cases e1;refine⟨_,_,dJ _,?_,e3⟩;rw[fJ rfl];exact .pp o ho hg λhe=>let ⟨base,h1,h2,h3⟩:=hk he;⟨base,h1,h2,by rw[h3];simp [Nat.add_assoc]⟩
  |_=>exact h.elim
def HQ (P:Program) (t:TypeId):Option Nat :=
 match P.underlying t with
 |some (.slice e)=>(P.info? e).map (·.size)
 |_=>none
def Ur (P:Program) (t:TypeId):Option (Nat×Nat) :=
 match P.underlying t with
 |some (.array n e)=>(P.info? e).map λi=>(n,i.size)
 |_=>none
theorem EK{t z} (h:HQ P t=some z):∃e i,P.underlying t=some (.slice e)/\P.info? e=some i/\i.size=z:=by
 unfold HQ at h;split at h
 ·rename_i e hu;obtain⟨i,h1,h2⟩:=Option.map_eq_some_iff.1 h;exact⟨e,i,hu,h1,h2⟩
 ·cases h
theorem zQ{t n z} (h:Ur P t=some (n,z)):∃e i,P.underlying t=some (.array n e)/\P.info? e=some i/\i.size=z:=by
 unfold Ur at h;split at h
 ·rename_i m e hu;obtain⟨i,h1,h2⟩:=Option.map_eq_some_iff.1 h;simp only[ad3]at h2;obtain⟨rfl,h2⟩:=h2;exact⟨e,i,hu,h1,h2⟩
 ·cases h
def SG (aI:List (List D)) (i z:Nat) (K:V->Prop):Prop :=
 match aI[i]? with
 |none=>False
 |some cs=>cs.length=z/\K (.d (.el cs))
def dK (P:Program) (t:TypeId) (s:List Obj) (x i:V) (K:V->Prop):Prop :=
 match i with
 |.d (.sc (.int _ n))=>match HQ P t with
  |some z=>match x with
   |.d (.sl aI)=>0<=n/\n<aI.length/\SG aI n.toNat z K
   |.fu aI=>0<=n/\n<aI.length/\SG aI n.toNat z K
   |.so id g lo m=>sh s id g λo=>0<=n/\n<m/\o.sz=z/\K (.rf id g (lo+n.toNat) 0)
   |_=>False
  |none=>match Ur P t with
   |some (len,z)=>match x with
    |.d (.el cs)=>0<=n/\n<len/\K (.d (.el (cs.drop (n.toNat*z))))
    |.rf id g k off=>sh s id g λ_=>0<=n/\n<len/\K (.rf id g k (off+n.toNat*z))
    |_=>False
   |none=>False
 |_=>False
theorem dt.elem {O:Nat->Prop}{a:Option Addr} (h:dt O w (.sl aI) (.slice a n cap)) {i:Nat}{cs:List D} (nn:aI[i]?=some cs) (hz:cs.length=z) :
  ∃ad,a=some ad/\n=aI.length/\dt O w (.el cs) (.pointer (some (ad.add (i*z)))):=by
 have aH:=(List.getElem?_eq_some_iff.1 nn).1;cases h with
 |nil=>simp at aH
 |sl _ ad _ sz f h1 h2 h3 h4 h5 =>
  have fG:aI≠[]:=by intro e;rw[e]at aH;simp at aH
  have gf:sz=z:=by rw[<- hz];exact(h3 cs (adw nn)).symm
  subst gf;refine⟨ad,rfl,rfl,?_⟩;rw[fJ (h2 fG)];exact .el _ _ (f i) rfl (λj x hx=>h4 i j x (by rw[nn];exact hx)) (λj x hx=>h5 i j x (by rw[nn];exact hx))
theorem x6{i:V}{K:V->Prop} (hx:aG σ s w x u) (hi:aG σ s w i ui) (h:dK P t s x i K) :
  ∃v c,(Instr.indexAt t u ui).run P w=.ok c w/\aG σ s w v c/\K v:=by
 unfold dK at h;split at h
 case h_2=>exact h.elim
 rename_i k n;cases hi with|d hi=>?_
 cases hi with|sc _ _=>?_
 split at h
 ·rename_i z hz;obtain⟨e,ti,h1,h2,h3⟩:=EK hz;have dJ:∀(ad:Addr) (len cap:Nat),0<=n->n<len->(Instr.indexAt t (.slice (some ad) len cap) (.int k n)).run P w=.ok (.pointer (some (ad.add (n.toNat*z)))) w:=by intro ad len cap g1 g2;simp [Instr.indexAt,asIntOf,run_underlying h1,g1,g2,sizeOf,typeInfo,h2,h3]
  have BQ:∀(aI:List (List D)) (a:Option Addr) (m cap:Nat),dt (Own σ s) w (.sl aI) (.slice a m cap)->0<=n/\n<aI.length/\SG aI n.toNat z K ->
    ∃v c,(Instr.indexAt t (.slice a m cap) (.int k n)).run P w=.ok c w/\aG σ s w v c/\K v:=by
   intro aI a m cap hr ⟨g1,g2,g3⟩;unfold SG at g3;split at g3
   ·exact g3.elim
   ·rename_i cs nn;obtain⟨ad,rfl,rfl,G5⟩:=hr.elem nn g3.1;exact⟨_,_,dJ ad _ cap g1 g2,.d G5,g3.2⟩
  cases hx with
  |d hx =>
   cases hx with
   |nil=>exact BQ _ _ _ _ .nil h
   |sl aI a cap sz f k1 k2 k3 k4 k5=>exact BQ _ _ _ _ (.sl aI a cap sz f k1 k2 k3 k4 k5) h
   |_=>exact h.elim
  |fu hx=>exact BQ _ _ _ _ hx h
  |so o ho hg hu hk =>
   obtain⟨o',e1,e2,e3,e4,e5,e6⟩:=ep h;rw[ho]at e1;cases e1;rcases hk e2 with ⟨_,⟨a,rfl⟩,_,rfl⟩|⟨b,base,cap,E,arr,g1,g2,rfl,g4,g5⟩
   ·omega
   ·refine⟨_,_,dJ _ _ _ e3 e4,.rf o ho hg rfl (λ_=>⟨b,base,g1,⟨arr,E,g2⟩,?_⟩),e6⟩;rw[fJ rfl,e5,Nat.add_mul];simp [Nat.add_assoc]
  |_=>exact h.elim
 ·split at h
  ·rename_i sO len z hz;obtain⟨e,ti,h1,h2,h3⟩:=zQ hz;have dJ:∀(ad:Addr),0<=n->n<len->(Instr.indexAt t (.pointer (some ad)) (.int k n)).run P w=.ok (.pointer (some (ad.add (n.toNat*z)))) w:=by intro ad g1 g2;simp [Instr.indexAt,asIntOf,run_underlying h1,Instr.sureAddr,g1,g2,sizeOf,typeInfo,h2,h3]
   cases hx with
   |d hx =>
    cases hx with
    |el cs a f k1 k2 k3=>exact⟨_,_,dJ a h.1 h.2.1,.d (dt.drop (.el cs a f k1 k2 k3) _),h.2.2⟩
    |_=>exact h.elim
   |rf o ho hg hu hk =>
    obtain⟨o',e1,e2,e3,e4,e5⟩:=ep h;rw[ho]at e1;cases e1;obtain⟨b,base,k1,kC,rfl⟩:=hk e2;refine⟨_,_,dJ _ e3 e4,.rf o ho hg rfl (λ_=>⟨b,base,k1,kC,?_⟩),e5⟩;rw[fJ rfl];simp [Nat.add_assoc]
   |_=>exact h.elim
  ·exact h.elim
def rI (P:Program) (t:TypeId) (cs:List V) (off:Nat) (K:V->Prop):Prop :=
 match cL P t with
 |none=>False
 |some i=>match i.agg with
  |true=>off+i.sz<=cs.length/\K (.ag ((cs.drop off).take i.sz))
  |false=>match cs[off]? with
   |none=>False
   |some v=>K v
theorem AS{K:V->Prop} (hx:aG σ s w (.ag cs) (.agg arr)) (h:rI P t cs off K) :
  ∃v c,(part t arr off).run P w=.ok c w/\aG σ s w v c/\K v:=by
 unfold rI at h;cases hx with|ag h1 h2 h3=>?_
 split at h
 ·exact h.elim
 ·rename_i i hi;obtain⟨ti,d,z,k1,k2,k3,k4,k5,k6,k7,k8,k9⟩:=iC hi;have gf:∀w,(sizeOf t).run P w=.ok i.sz w:=λw=>by simp [sizeOf,typeInfo,k1,k4]
  split at h
  ·rename_i wj;rw[wj]at k9;refine⟨_,.agg (arr.extract off (off+i.sz)),by simp [part,k9,gf],?_,h.2⟩;have e:∀(j:Nat) (x:V),((cs.drop off).take i.sz)[j]?=some x->cs[off+j]?=some x/\(arr.extract off (off+i.sz)).getD j undef=arr.getD (off+j) undef:=by
    intro j x hx;rw[ad1]at hx;split at hx
    ·rename_i hj;rw[List.getElem?_drop]at hx;refine⟨hx,?_⟩;have e2:(arr.extract off (off+i.sz))[j]?=arr[off+j]?:=by rw[Array.getElem?_extract,ap (by rw[h1];omega)]
     rw[adH,adH,e2]
    ·cases hx
   refine .ag (by simp [h1];omega) (λj x hx=>?_) (λj x hx=>?_)
   ·rw[(e j x hx).2];exact h2 _ _ (e j x hx).1
   ·rw[(e j x hx).2];exact h3 _ _ (e j x hx).1
  ·rename_i wj;rw[wj]at k9;split at h
   ·exact h.elim
   ·rename_i v hv;have aH:=(List.getElem?_eq_some_iff.1 hv).1;obtain⟨c,hc⟩:∃c,arr[off]?=some c:=⟨arr[off]'(by omega),by rw[Array.getElem?_eq_getElem]⟩
    have hd:arr.getD off undef=c:=by rw[adH,hc];rfl
    exact⟨v,c,by simp [part,k9,hc],by rw[<- hd];exact h3 _ _ hv,h⟩
def lq (P:Program) (t:TypeId) (x:V) (f:Nat) (K:V->Prop):Prop :=
 match x with
 |.ag cs=>match P.underlying t with
  |some (.struct fields)=>match fields[f]? with
   |some fd=>rI P fd.type cs fd.offset K
   |none=>False
  |_=>False
 |_=>False
theorem HA{f:Nat}{K:V->Prop} (hx:aG σ s w x u) (h:lq P t x f K) :
  ∃v c,(Instr.field t u f).run P w=.ok c w/\aG σ s w v c/\K v:=by
 unfold lq at h;split at h
 case h_2=>exact h.elim
 split at h
 case h_2=>exact h.elim
 split at h
 case h_2=>exact h.elim
 rename_i hu _ fd hfd;cases hx with|ag h1 h2 h3=>?_
 obtain⟨v,c,r1,r2,r3⟩:=AS (.ag h1 h2 h3) h;exact⟨v,c,by simp [Instr.field,run_underlying hu,hfd,asAgg,r1],r2,r3⟩
def jt (P:Program) (t:TypeId) (x i:V) (K:V->Prop):Prop :=
 match i with
 |.d (.sc (.int _ n))=>match x with
  |.ag cs=>match P.underlying t with
   |some (.array len e)=>match (P.info? e).map (·.size) with
    |some z=>0<=n/\n<len/\rI P e cs (n.toNat*z) K
    |none=>False
   |_=>False
  |_=>False
 |_=>False
theorem Gp{i:V}{K:V->Prop} (hx:aG σ s w x u) (hi:aG σ s w i ui) (h:jt P t x i K) :
  ∃v c,(Instr.index t u ui).run P w=.ok c w/\aG σ s w v c/\K v:=by
 unfold jt at h;split at h
 case h_2=>exact h.elim
 rename_i k n;cases hi with|d hi=>?_
 cases hi with|sc _ _=>?_
 split at h
 case h_2=>exact h.elim
 split at h
 case h_2=>exact h.elim
 rename_i hu;split at h
 case h_2=>exact h.elim
 rename_i z hz;obtain⟨ti,h1,h2⟩:=Option.map_eq_some_iff.1 hz;cases hx with|ag k1 k2 k3=>?_
 obtain⟨v,c,r1,r2,r3⟩:=AS (.ag k1 k2 k3) h.2.2;refine⟨v,c,?_,r2,r3⟩;simp [Instr.index,asIntOf,run_underlying hu,h.1,h.2.1,sizeOf,typeInfo,h1,h2,r1]
def uK (σ:Gh) (s:List Obj) (w:World) (cs:List V) (arr:Array Value):Prop :=
 arr.size=cs.length/\∀(i:Nat) (x:V),cs[i]?=some x->∃c,arr[i]?=some c/\c.oneCell'=true/\aG σ s w x c
theorem uK.ag {σ s w cs arr} (h:uK σ s w cs arr):aG σ s w (.ag cs) (.agg arr):=by
 have e:∀(i:Nat) (x:V),cs[i]?=some x->(arr.getD i undef).oneCell'=true/\aG σ s w x (arr.getD i undef):=by intro i x hx;obtain⟨c,h1,h2,h3⟩:=h.2 i x hx;rw[adH,h1];exact⟨h2,h3⟩
 exact .ag h.1 (λi x hx=>(e i x hx).1) (λi x hx=>(e i x hx).2)
theorem xd (ht:cL P t=some i) (σ:Gh) (s:List Obj) (w:World):∃z,(∀w,(zeroValue t).run P w=.ok z w)/\uK σ s w (i.zero.map cv) z.cells/\z.cells.size=i.sz/\z.cells.toList=i.zero:=by obtain⟨ti,d,z,k1,k2,k3,k4,k5,k6,k7,k8,k9⟩:=iC ht;refine⟨z,λw=>by simp [zeroValue,typeInfo,k1,k3],⟨by rw[<- Array.length_toList,k6];simp,λj x hx=>?_⟩,by rw[<- Array.length_toList,k6,k7],k6⟩;rw[adL]at hx;obtain⟨v,hv,rfl⟩:=Option.map_eq_some_iff.1 hx;exact⟨v,by rw[<- aed,k6];exact hv,k8 v (adw hv),Dk v⟩
theorem xh (off:Nat):∀(l:List Value) (k:Nat) (cells:Array Value),off+k+l.length<=cells.size ->
  ((l.zipIdx k).foldl (λcs (x:Value×Nat)=>cs.setIfInBounds (off+x.2) x.1) cells).size=cells.size /\
  ∀p,((l.zipIdx k).foldl (λcs (x:Value×Nat)=>cs.setIfInBounds (off+x.2) x.1) cells)[p]?=if off+k<=p/\p<off+k+l.length then l[p-(off+k)]? else cells[p]?
 |[],k,cells,_=>by simp;intro p h1 h2;omega
 |v::l,k,cells,h=>by
  simp only[adA]at h;simp only[List.zipIdx_cons,List.foldl_cons];obtain⟨h1,h2⟩:=xh off l (k+1) (cells.setIfInBounds (off+k) v) (by simp;omega);refine⟨by rw[h1];simp,λp=>?_⟩;rw[h2 p];by_cases hp:p=off+k
  ·subst hp;rw[am (by omega),ap (by simp),Array.getElem?_setIfInBounds_self_of_lt (by omega)];simp
  ·rw[Array.getElem?_setIfInBounds_ne (by omega)];by_cases hq:off+(k+1)<=p/\p<off+(k+1)+l.length
   ·rw[ap hq,ap (by simp only[adA];omega)];rw[show p-(off+k)=(p-(off+(k+1)))+1 by omega];simp
   ·rw[am hq,am (by simp only[adA];omega)]
def tx (place:Nat->Option (Nat×Nat)) (cs:List V):List (Nat×V)->Option (List V)
 |[]=>some cs
 |(i,v)::rest=>match place i with
  |none=>none
  |some (off,size)=>match eI v with
   |none=>none
   |some ns=>if ns.length=size/\off+ns.length<=cs.length then tx place (gr cs off ns) rest else none
theorem tR {σ:Gh}{s:List Obj}{w:World}{place:Nat->Option (Nat×Nat)}:∀(parts:List (Nat×V)) (ps:List (Nat×Value)) (cs:List V) (arr:Array Value) (UW:List V),uK σ s w cs arr ->
  ps.length=parts.length->(∀(j:Nat) i x,parts[j]?=some (i,x)->∃u,ps[j]?=some (i,u)/\aG σ s w x u)->tx place cs parts=some UW ->
  ∃cH,Instr.fill place arr ps=some cH/\uK σ s w UW cH
 |[],[],cs,arr,UW,hr,_,_,h=>by simp only[tx,adp]at h;subst h;exact⟨arr,rfl,hr⟩
 |[],p::ps,_,_,_,_,hl,_,_=>by simp at hl
 |_::_,[],_,_,_,_,hl,_,_=>by simp at hl
 |(i,v)::parts,(i',u)::ps,cs,arr,UW,hr,hl,hp,h=>by
  obtain⟨u',hu,NF⟩:=hp 0 i v rfl;simp only[adU,adp,ad3]at hu;obtain⟨rfl,rfl⟩:=hu;simp only[tx]at h;split at h
  ·cases h
  ·rename_i off size tW;split at h
   ·cases h
   ·rename_i ns xA;split at h
    ·rename_i hc;obtain⟨h1,h2⟩:=lK NF xA;have hrep:=xh off u.cells.toList 0 arr (by simp;rw[hr.1,h1];exact hc.2);have e:u.cells.zipIdx.foldl (λcs (x:Value×Nat)=>cs.setIfInBounds (off+x.2) x.1) arr=(u.cells.toList.zipIdx 0).foldl (λcs (x:Value×Nat)=>cs.setIfInBounds (off+x.2) x.1) arr:=by rw[<- Array.foldl_toList];simp
     have Qi:uK σ s w (gr cs off ns) ((u.cells.toList.zipIdx 0).foldl (λcs (x:Value×Nat)=>cs.setIfInBounds (off+x.2) x.1) arr):=by
      refine⟨by rw[hrep.1,hr.1,qs _ _ _ hc.2],λj x hx=>?_⟩;rw[nD _ _ _ hc.2]at hx;rw[hrep.2];split at hx
      ·rename_i hj;rw[ap (by simp;omega)];obtain⟨c,k1,k2,k3⟩:=h2 _ x hx;exact⟨c,by rw[aed];simpa using k1,k2,k3⟩
      ·rename_i hj;rw[am (by simp;omega)];exact hr.2 j x hx
     obtain⟨cH,k1,k2⟩:=tR parts ps _ _ UW Qi (by simpa using hl) (λj i x hx=>hp (j+1) i x (by simpa using hx)) h;refine⟨cH,?_,k2⟩;simp only[Instr.fill,tW];rw[am (by simp [h1,hc.1,hr.1];omega)];rw[<- e]at k1;exact k1
    ·cases h
def bz (P:Program) (t:TypeId):Option (List (Nat×Nat)) :=
 match P.underlying t with
 |some (.struct fields)=>fields.toList.mapM λf=>(P.info? f.type).map λi=>(f.offset,i.size)
 |_=>none
def nQ (P:Program) (t:TypeId) (parts:List (Nat×V)) (K:V->Prop):Prop :=
 match cL P t with
 |none=>False
 |some i=>match bz P t with
  |some pl=>match tx (pl[·]?) (i.zero.map cv) parts with
   |some cs=>K (.ag cs)
   |none=>False
  |none=>match Ur P t with
   |some (_,z)=>match tx (λj=>some (j*z,z)) (i.zero.map cv) parts with
    |some cs=>K (.ag cs)
    |none=>False
   |none=>False
theorem tF {P:Program}{α β:Type} (f:α->Sem β) (g:α->Option β) (hfg:∀a b,g a=some b->∀w,(f a).run P w=.ok b w) (w:World):∀(l:List α) (r:List β),l.mapM g=some r->(l.mapM f).run P w=.ok r w
 |[],r,h=>by simp at h;subst h;simp [List.mapM_nil]
 |a::l,r,h=>by
  rw[List.mapM_cons]at h;cases ha:g a with
  |none=>simp [ha]at h
  |some b =>
   cases hl:l.mapM g with
   |none=>simp [ha,hl]at h
   |some r' =>
    simp [ha,hl]at h;subst h;rw[List.mapM_cons];simp [hfg a b ha w,tF f g hfg w l r' hl]
theorem F8{K:V->Prop}
  (hl:ps.length=parts.length) (hp:∀(j:Nat) i x,parts[j]?=some (i,x)->∃u,ps[j]?=some (i,u)/\aG σ s w x u) (h:nQ P t parts K) :
  ∃v c,(Instr.build t ps.toArray).run P w=.ok c w/\aG σ s w v c/\K v:=by
 unfold nQ at h;split at h
 ·exact h.elim
 ·rename_i i hi;obtain⟨z,hz,hzr,_,_⟩:=xd hi σ s w;split at h
  ·rename_i pl tW;unfold bz at tW;split at tW
   ·rename_i fields hu;split at h
    ·rename_i cs nn;obtain⟨cH,k1,k2⟩:=tR parts ps _ _ cs hzr hl hp nn;refine⟨_,_,?_,k2.ag,h⟩;have hm:(fields.mapM (λf=>do pure (f.offset,<- sizeOf f.type):Field->Sem (Nat×Nat))).run P w=.ok pl.toArray w:=by
      have:=tF (P:=P) (λf=>do pure (f.offset,<- sizeOf f.type):Field->Sem (Nat×Nat)) (λf=>(P.info? f.type).map λi=>(f.offset,i.size))
       (λf b hb w=>by
        obtain⟨ti,e1,rfl⟩:=Option.map_eq_some_iff.1 hb;simp [sizeOf,typeInfo,e1]) w fields.toList pl tW
      rw[<- Array.toArray_toList (xs:=fields)];rw[List.mapM_toArray,Sem.run_map,this];rfl
     have YL:(λx:Nat=>pl.toArray[x]?)=(λx:Nat=>pl[x]?):=by funext x;simp
     simp only[Instr.build,Sem.run_bind,hz,Result.andThen_ok,run_underlying hu,hm,YL,k1,Sem.run_pure]
    ·exact h.elim
   ·cases tW
  ·split at h
   ·rename_i len zz X6;obtain⟨e,ti,h1,h2,h3⟩:=zQ X6;split at h
    ·rename_i cs nn;obtain⟨cH,k1,k2⟩:=tR parts ps _ _ cs hzr hl hp nn;refine⟨_,_,?_,k2.ag,h⟩;have gf:(sizeOf e).run P w=.ok zz w:=by simp [sizeOf,typeInfo,h2,h3]
     simp only[Instr.build,Sem.run_bind,hz,Result.andThen_ok,run_underlying h1,gf,k1,Sem.run_pure]
    ·exact h.elim
   ·exact h.elim
theorem sd (hI:Inv σ s w){aI:List (List V)} (E:TypeId) (hl:∀e∈aI,e.length=sz) (hs:aI.length*sz<=arr.size)
  (hc:∀(i j:Nat) (x:V),(aI[i]?.bind (·[j]?))=some x->∃u,arr[i*sz+j]?=some u/\u.oneCell'=true/\aG σ s w x u) :
  aW σ s w (m7 σ s.length (some (w.heap.size,0))) (s++[⟨0,true,sz,aI⟩]) (w.alloc (.cells arr E)) /\
  Inv (m7 σ s.length (some (w.heap.size,0))) (s++[⟨0,true,sz,aI⟩]) (w.alloc (.cells arr E)):=by
 refine lE (p:=some (w.heap.size,0)) hI rfl rfl rfl (by simp) (λb hb=>Go.RowKit.Below.heap_alloc w _ b hb) (λb base h=>by cases h;exact adB _)
  (λhE=>.inr ⟨w.heap.size,0,arr,E,rfl,heap_alloc_new w _,hl,by simpa using hs,λi j x hx=>?_⟩)
 obtain⟨u,h1,h2,h3⟩:=hc i j x hx;exact⟨u,by simpa using h1,h2,h3.bF hE⟩
theorem OQ (hC:HP w b):aG (m7 σ s.length (some (b,base))) (s++[o]) w (.rf s.length o.g 0 0) (.pointer (some ⟨b,base,none⟩)) :=
 .rf o (by simp) (adB _) rfl (λ_=>⟨b,base,cg _ _ _,hC,by simp⟩)
def nS (P:Program) (t:TypeId) (s:List Obj) (K:V->List Obj->Prop):Prop :=
 match cL P t with
 |none=>False
 |some i=>K (.rf s.length 0 0 0) (s++[⟨0,true,i.sz,[i.zero.map cv]⟩])
theorem rU (h:uK σ s w cs arr) (sz:Nat) :
  ∀(i j:Nat) (x:V),(([cs]:List (List V))[i]?.bind (·[j]?))=some x->∃u,arr[i*sz+j]?=some u/\u.oneCell'=true/\aG σ s w x u:=by
 intro i j x hx;cases i with
 |zero=>simp at hx;simpa using h.2 j x hx
 |succ n=>simp at hx
theorem GV{K:V->List Obj->Prop} (hI:Inv σ s w) (h:nS P t s K) :
  ∃v c σ' s' w',(Instr.alloc t true (.tuple #[])).run P w=.ok c w'/\aW σ s w σ' s' w'/\Inv σ' s' w'/\aG σ' s' w' v c/\K v s':=by
 unfold nS at h;split at h
 ·exact h.elim
 ·rename_i i hi;obtain⟨z,hz,hr,hs,hl⟩:=xd hi σ s w;have:=sd (aI:=[i.zero.map cv]) (sz:=i.sz) (arr:=z.cells) hI t (by simp;rw[<- hl];simpa using hs) (by simp [hs]) (rU hr i.sz);refine⟨_,.pointer (some ⟨w.heap.size,0,none⟩),_,_,w.alloc (.cells z.cells t),?_,this.1,this.2,OQ (o:=⟨0,true,i.sz,[i.zero.map cv]⟩) ⟨_,_,heap_alloc_new w _⟩,h⟩;simp [Instr.alloc,hz,newVar,newRow]
def xr (s:List Obj) (x:V) (K:V->List Obj->Prop):Prop :=
 match eI x with
 |none=>False
 |some cs=>K (.rf s.length 0 0 0) (s++[⟨0,true,cs.length,[cs]⟩])
theorem K9{K:V->List Obj->Prop} (hI:Inv σ s w) (hx:aG σ s w x u) (h:xr s x K) :
  ∃v c σ' s' w',(Instr.box t u).run P w=.ok c w'/\aW σ s w σ' s' w'/\Inv σ' s' w'/\aG σ' s' w' v c/\K v s':=by
 unfold xr at h;split at h
 ·exact h.elim
 ·rename_i cs nn;have hr:uK σ s w cs u.cells:=lK hx nn;have:=sd (aI:=[cs]) (sz:=cs.length) (arr:=u.cells) hI t (by simp) (by simp [hr.1]) (rU hr _);refine⟨_,.pointer (some ⟨w.heap.size,0,none⟩),_,_,w.alloc (.cells u.cells t),?_,this.1,this.2,OQ (o:=⟨0,true,cs.length,[cs]⟩) ⟨_,_,heap_alloc_new w _⟩,h⟩;simp [Instr.box,newVar,newRow]
def KF (σ:Gh) (s:List Obj) (w:World) (sz:Nat) (aI:List (List V)) (arr:Array Value):Prop :=
 (∀e∈aI,e.length=sz)/\arr.size=aI.length*sz /\
 ∀(i j:Nat) (x:V),(aI[i]?.bind (·[j]?))=some x->∃c,arr[i*sz+j]?=some c/\c.oneCell'=true/\aG σ s w x c
def vW (sz:Nat) (aI:List (List V)):List (Nat×V)->Option (List (List V))
 |[]=>some aI
 |(i,v)::rest=>match eI v with
  |none=>none
  |some ns=>if i<aI.length/\ns.length=sz then vW sz (aI.set i ns) rest else none
theorem xl {σ:Gh}{s:List Obj}{w:World}{sz:Nat}:∀(parts:List (Nat×V)) (ps:List (Nat×Value)) (aI:List (List V)) (arr:Array Value) (els':List (List V)),KF σ s w sz aI arr ->
  ps.length=parts.length->(∀(j:Nat) i x,parts[j]?=some (i,x)->∃u,ps[j]?=some (i,u)/\aG σ s w x u)->vW sz aI parts=some els' ->
  ∃cH,Instr.fill (λi=>some (i*sz,sz)) arr ps=some cH/\KF σ s w sz els' cH/\els'.length=aI.length
 |[],[],aI,arr,els',hr,_,_,h=>by simp only[vW,adp]at h;subst h;exact⟨arr,rfl,hr,rfl⟩
 |[],p::ps,_,_,_,_,hl,_,_=>by simp at hl
 |_::_,[],_,_,_,_,hl,_,_=>by simp at hl
 |(i,v)::parts,(i',u)::ps,aI,arr,els',hr,hl,hp,h=>by
  obtain⟨u',hu,NF⟩:=hp 0 i v rfl;simp only[adU,adp,ad3]at hu;obtain⟨rfl,rfl⟩:=hu;simp only[vW]at h;split at h
  ·cases h
  ·rename_i ns xA;split at h
   ·rename_i hc;obtain⟨x0,zJ⟩:=hc;obtain⟨h1,h2⟩:=lK NF xA;obtain⟨r1,r2,r3⟩:=hr;have hb:=aeb sz (show i'+1<=aI.length from x0);rw[Nat.add_mul,Nat.one_mul]at hb;have hrep:=xh (i'*sz) u.cells.toList 0 arr (by simp;rw[h1];omega);have e:u.cells.zipIdx.foldl (λcs (x:Value×Nat)=>cs.setIfInBounds (i'*sz+x.2) x.1) arr=(u.cells.toList.zipIdx 0).foldl (λcs (x:Value×Nat)=>cs.setIfInBounds (i'*sz+x.2) x.1) arr:=by rw[<- Array.foldl_toList];simp
    have Qi:KF σ s w sz (aI.set i' ns) ((u.cells.toList.zipIdx 0).foldl (λcs (x:Value×Nat)=>cs.setIfInBounds (i'*sz+x.2) x.1) arr):=by
     refine⟨λe he=>?_,by rw[hrep.1,r2,List.length_set],λk j x hx=>?_⟩
     ·rcases List.mem_or_eq_of_mem_set he with h'|h'
      ·exact r1 e h'
      ·rw[h'];exact zJ
     ·rw[hrep.2];have iA:u.cells.toList.length=sz:=by simp [h1,zJ]
      by_cases hk:k=i'
      ·subst hk;rw[List.getElem?_set_self x0]at hx;simp only[Option.bind_some]at hx;have hj:=(List.getElem?_eq_some_iff.1 hx).1;rw[ap (by rw[iA];omega)];obtain⟨c,k1,k2,k3⟩:=h2 _ x hx;refine⟨c,?_,k2,k3⟩;rw[aed,<- k1];congr 1;omega
      ·rw[List.getElem?_set_ne (Ne.symm hk)]at hx;have hj:j<sz:=by
        cases he:aI[k]? with
        |none=>rw[he]at hx;cases hx
        |some e =>
         rw[he]at hx;have:=(List.getElem?_eq_some_iff.1 hx).1;rw[r1 e (adw he)]at this;exact this
       rw[am ?_]
       ·exact r3 k j x hx
       ·rw[iA];rcases Nat.lt_or_gt_of_ne hk with aH|aH
        ·have:=aeb sz (show k+1<=i' from aH);rw[Nat.add_mul,Nat.one_mul]at this;omega
        ·have:=aeb sz (show i'+1<=k from aH);rw[Nat.add_mul,Nat.one_mul]at this;omega
    obtain⟨cH,k1,k2,k3⟩:=xl parts ps _ _ els' Qi (by simpa using hl) (λj i x hx=>hp (j+1) i x (by simpa using hx)) h;refine⟨cH,?_,k2,by simpa using k3⟩;simp only[Instr.fill];rw[am (by simp [h1,zJ,r2];omega)];rw[<- e]at k1;exact k1
   ·cases h
def MU:V->Option D
 |.d x=>some x
 |.fu aI=>some (.sl aI)
 |_=>none
theorem mE{y:D} (hr:aG σ s w x u) (h:MU x=some y):dt (Own σ s) w y u:=by
 cases hr <;> simp only[MU,adp]at h <;> first|(cases h;done)|(subst h;assumption)
def oy (aI:List (List V)):Option (List (List D)):=aI.mapM λe=>e.mapM MU
theorem jc {α β:Type}{f:α->Option β}:∀{l:List α}{r:List β},l.mapM f=some r->r.length=l.length/\∀(i:Nat) (y:β),r[i]?=some y->∃x,l[i]?=some x/\f x=some y
 |[],r,h=>by simp at h;subst h;simp
 |a::l,r,h=>by
  rw[List.mapM_cons]at h;cases ha:f a with
  |none=>simp [ha]at h
  |some b =>
   cases hl:l.mapM f with
   |none=>simp [ha,hl]at h
   |some r' =>
    simp [ha,hl]at h;subst h;obtain⟨h1,h2⟩:=jc hl;refine⟨by simp [h1],λi y hy=>?_⟩;cases i with
    |zero=>simp at hy;subst hy;exact⟨a,rfl,ha⟩
    |succ i=>simpa using h2 i y (by simpa using hy)
theorem LM {aI:List (List V)}{ds:List (List D)} (h:oy aI=some ds):ds.length=aI.length /\
  (∀(i:Nat) (e:List D),ds[i]?=some e->∃e',aI[i]?=some e'/\e.length=e'.length) /\
  ∀(i j:Nat) (y:D),(ds[i]?.bind (·[j]?))=some y->∃x,(aI[i]?.bind (·[j]?))=some x/\MU x=some y:=by
 obtain⟨h1,h2⟩:=jc h;refine⟨h1,λi e he=>?_,λi j y hy=>?_⟩
 ·obtain⟨e',k1,k2⟩:=h2 i e he;exact⟨e',k1,(jc k2).1⟩
 ·cases he:ds[i]? with
  |none=>rw[he]at hy;cases hy
  |some e =>
   rw[he]at hy;obtain⟨e',k1,k2⟩:=h2 i e he;obtain⟨x,k3,k4⟩:=(jc k2).2 j y hy;exact⟨x,by rw[k1];exact k3,k4⟩
theorem dt.I3 {O:Nat->Prop} (fS:aI.length<=cap) (gf:∀e∈aI,e.length=sz) (hO:¬O b)
  (h:∀(i j:Nat) (x:D),(aI[i]?.bind (·[j]?))=some x->∃u,w.cell? ⟨b,base+i*sz+j,none⟩=some u/\dt O w x u):dt O w (.sl aI) (.slice (some ⟨b,base,none⟩) aI.length cap):=by
 refine .sl aI ⟨b,base,none⟩ cap sz (λi j=>(w.cell? ⟨b,base+i*sz+j,none⟩).getD undef) fS (λ_=>rfl) gf (λi j x hx=>?_) (λi j x hx=>?_)
 ·obtain⟨u,h1,h2⟩:=h i j x hx;simp only[h1,Option.getD_some];exact⟨trivial,hO⟩
 ·obtain⟨u,h1,h2⟩:=h i j x hx;simpa only[h1,Option.getD_some]using h2
theorem ud (hI:Inv σ s w) (h:Own σ s b):b<w.heap.size:=by
 rcases h with h|⟨id,o,base,h1,_,h3⟩
 ·exact hI.low b h
 ·exact hI.lt h1 h3
def lS (P:Program) (t:TypeId):Option (TypeId×RJ) :=
 match P.underlying t with
 |some (.slice e)=>(cL P e).map λi=>(e,i)
 |_=>none
theorem mA (h:lS P t=some (e,i)):P.underlying t=some (.slice e)/\cL P e=some i:=by
 unfold lS at h;split at h
 ·rename_i e' hu;obtain⟨i',h1,h2⟩:=Option.map_eq_some_iff.1 h;simp only[ad3]at h2;obtain⟨rfl,rfl⟩:=h2;exact⟨hu,h1⟩
 ·cases h
def ff (P:Program) (t:TypeId) (len:Nat) (parts:List (Nat×V)) (s:List Obj) (K:V->List Obj->Prop):Prop :=
 match lS P t with
 |none=>False
 |some (_,i)=>(len*i.sz<=16777216/\0<i.sz)/\match vW i.sz (List.replicate len (i.zero.map cv)) parts with
  |none=>False
  |some aI=>match oy aI with
   |some ds=>K (.fu ds) s
   |none=>K (.so s.length 0 0 len) (s++[⟨0,true,i.sz,aI⟩])
theorem C0 (ht:cL P t=some i) (σ:Gh) (s:List Obj) (w:World) (n:Nat) (z:Value) (hz:z.cells.toList=i.zero) :
  KF σ s w i.sz (List.replicate n (i.zero.map cv)) ((Array.range (n*i.sz)).map (z.cells[· % z.cells.size]!)):=by
 obtain⟨ti,d,z',k1,k2,k3,k4,k5,k6,k7,k8,k9⟩:=iC ht;have hzs:z.cells.size=i.sz:=by rw[<- Array.length_toList,hz,k7]
 refine⟨λe he=>by rw[List.eq_of_mem_replicate he];simp [k7],by simp,λa j x hx=>?_⟩;have ha:a<n:=by
  cases he:(List.replicate n (i.zero.map cv))[a]? with
  |none=>rw[he]at hx;cases hx
  |some e=>simpa using (List.getElem?_eq_some_iff.1 he).1
 simp only[List.getElem?_replicate,ha,if_true,Option.bind_some,adL]at hx;obtain⟨v,hv,rfl⟩:=Option.map_eq_some_iff.1 hx;have hj:j<i.sz:=by rw[<- k7];exact(List.getElem?_eq_some_iff.1 hv).1
 have hb:=aeb i.sz (show a+1<=n from ha);rw[Nat.add_mul,Nat.one_mul]at hb;refine⟨v,?_,k8 v (adw hv),Dk v⟩;have Yq:(a*i.sz+j) % z.cells.size=j:=by rw[hzs,Nat.mul_add_mod_self_right,Nat.mod_eq_of_lt hj]
 have kK:z.cells[j]! = v:=by rw[getElem!_def,<- aed,hz,hv]
 simp [show a*i.sz+j<n*i.sz by omega,Yq,kK]
theorem wR{K:V->List Obj->Prop} (hI:Inv σ s w)
  (hl:ps.length=parts.length) (hp:∀(j:Nat) i x,parts[j]?=some (i,x)->∃u,ps[j]?=some (i,u)/\aG σ s w x u) (h:ff P t len parts s K) :
  ∃v c σ' s' w',(Instr.buildSlice t len ps.toArray).run P w=.ok c w'/\aW σ s w σ' s' w'/\Inv σ' s' w'/\aG σ' s' w' v c/\K v s':=by
 unfold ff at h;split at h
 ·exact h.elim
 rename_i e i Nw;obtain⟨hu,hi⟩:=mA Nw;obtain⟨⟨hb,dx⟩,h⟩:=h;split at h
 ·exact h.elim
 rename_i aI oA;obtain⟨ti,d,z,k1,k2,k3,k4,k5,k6,k7,k8,k9⟩:=iC hi;have hz:∀w,(zeroValue e).run P w=.ok z w:=λw=>by simp [zeroValue,typeInfo,k1,k3]
 have gf:∀w,(sizeOf e).run P w=.ok i.sz w:=λw=>by simp [sizeOf,typeInfo,k1,k4]
 obtain⟨cH,f1,f2,f3⟩:=xl parts ps _ _ aI (C0 hi σ s w len z k6) hl hp oA;have hlen:aI.length=len:=by simpa using f3
 have dJ:(Instr.buildSlice t len ps.toArray).run P w=.ok (.slice (some ⟨w.heap.size,0,none⟩) len len) (w.alloc (.cells cH e)):=by
  have HO:¬(len*i.sz>2 ^ 24):=by omega
  by_cases h0:len=0
  ·subst h0;have vY:∀g:Nat->Value,(Array.range 0).map g=#[]:=λg=>by apply Array.ext' ;simp
   rw[Nat.zero_mul,vY]at f1;simp only[Instr.buildSlice,Sem.run_bind,run_underlying hu,gf,Result.andThen_ok,Nat.zero_mul,vY,f1];simp [newRow]
  ·have h0':¬(len*i.sz=0):=by have:=Nat.mul_pos (Nat.pos_of_ne_zero h0) dx;omega
   simp only[Instr.buildSlice,Sem.run_bind,run_underlying hu,gf,Result.andThen_ok,am HO,am h0',hz,f1,Sem.run_pure];simp [newRow]
 obtain⟨r1,r2,r3⟩:=f2;split at h
 ·rename_i ds YC;obtain⟨d1,d2,d3⟩:=LM YC;obtain⟨hE,gS⟩:=Bv hI (.cells cH e);refine⟨_,_,σ,s,_,dJ,hE,gS,?_,h⟩;have hd:dt (Own σ s) (w.alloc (.cells cH e)) (.sl ds) (.slice (some ⟨w.heap.size,0,none⟩) ds.length ds.length):=by
   refine dt.I3 (sz:=i.sz) (adB _) (λx hx=>?_) (λho=>by have:=ud hI ho;omega) (λa j y hy=>?_)
   ·obtain⟨a,ha⟩:=List.mem_iff_getElem?.1 hx;obtain⟨e',g1,g2⟩:=d2 a x ha;rw[g2];exact r1 e' (adw g1)
   ·obtain⟨x,g1,g2⟩:=d3 a j y hy;obtain⟨c,c1,c2,c3⟩:=r3 a j x g1;exact⟨c,by simpa using c1,(mE c3 g2).bF hE⟩
  rw[show len=ds.length by omega];exact .fu hd
 ·have:=sd (aI:=aI) (sz:=i.sz) (arr:=cH) hI e r1 (by omega) r3;refine⟨_,_,_,_,_,dJ,this.1,this.2,?_,h⟩;refine .so ⟨0,true,i.sz,aI⟩ (by simp) (adB _) rfl (λ_=>.inr ⟨w.heap.size,0,len,e,cH,cg _ _ _,heap_alloc_new w _,by simp,adB _,by simp [r2,hlen]⟩)
def fK (P:Program) (t:TypeId) (l c:V) (s:List Obj) (K:V->List Obj->Prop):Prop :=
 match lS P t with
 |none=>False
 |some (_,i)=>match l,c with
  |.d (.sc (.int _ n)),.d (.sc (.int _ m))=>(0<=n/\n<=m/\i.F2*m<=140737488355328/\m<=9223372036854775807/\0<i.sz) /\
    K (.so s.length 0 0 n.toNat) (s++[⟨0,true,i.sz,List.replicate n.toNat (i.zero.map cv)⟩])
  |_,_=>False
theorem yc{l c:V}{ul uc:Value}{K:V->List Obj->Prop} (hI:Inv σ s w) (hl:aG σ s w l ul) (hc:aG σ s w c uc)
  (h:fK P t l c s K):∃v r σ' s' w',(Instr.makeSlice t ul uc).run P w=.ok r w'/\aW σ s w σ' s' w'/\Inv σ' s' w'/\aG σ' s' w' v r/\K v s':=by
 unfold fK at h;split at h
 ·exact h.elim
 rename_i e i Nw;obtain⟨hu,hi⟩:=mA Nw;split at h
 case h_2=>exact h.elim
 rename_i kl n kc m;obtain⟨⟨h1,h2,h3,h4,h5⟩,h⟩:=h;cases hl with|d hl=>?_
 cases hl with|sc _ _=>?_
 cases hc with|d hc=>?_
 cases hc with|sc _ _=>?_
 obtain⟨ti,d,z,k1,k2,k3,k4,k5,k6,k7,k8,k9⟩:=iC hi;have hz:∀w,(zeroValue e).run P w=.ok z w:=λw=>by simp [zeroValue,typeInfo,k1,k3]
 have gf:∀w,(sizeOf e).run P w=.ok i.sz w:=λw=>by simp [sizeOf,typeInfo,k1,k4]
 obtain⟨N,rfl⟩:=Int.eq_ofNat_of_zero_le h1;obtain⟨M,rfl⟩:=Int.eq_ofNat_of_zero_le (show 0<=m by omega);have w1:IntKind.i64.wrap (N:Int)=N:=IntWalk.i64_in _ (by omega);have w2:IntKind.i64.wrap (M:Int)=M:=IntWalk.i64_in _ (by omega);have abi:¬((i.F2:Int)*(M:Int)>2 ^ 48):=by omega
 obtain⟨r1,r2,r3⟩:=C0 hi σ s w M z k6;have dJ:(Instr.makeSlice t (.int kl N) (.int kc M)).run P w=.ok (.slice (some ⟨w.heap.size,0,none⟩) N M) (w.alloc (.cells ((Array.range (M*i.sz)).map (z.cells[· % z.cells.size]!)) e)):=by
  have vY:∀g:Nat->Value,(Array.range 0).map g=#[]:=λg=>by apply Array.ext' ;simp
  have c1:¬((M:Int)<0):=by omega
  have c2:¬((N:Int)<0):=by omega
  have c3:¬((N:Int)>M):=by omega
  by_cases h0:M*i.sz=0
  ·simp only[Instr.makeSlice,run_underlying hu,asInt,asIntOf,typeInfo,k1,k5,w1,w2,Sem.run_bind,Result.andThen_ok,run_program,Sem.run_pure,adR,h0,vY];simp [c1,c2,c3,gf,newRow,h0,vY];intro hx;exfalso;omega
  ·simp only[Instr.makeSlice,run_underlying hu,asInt,asIntOf,typeInfo,k1,k5,w1,w2,Sem.run_bind,Result.andThen_ok,run_program,Sem.run_pure,adR];simp [c1,c2,c3,gf,newRow,h0,hz];intro hx;exfalso;omega
 have:=sd (aI:=List.replicate N (i.zero.map cv)) (sz:=i.sz) (arr:=(Array.range (M*i.sz)).map (z.cells[· % z.cells.size]!)) hI e (λx hx=>by rw[List.eq_of_mem_replicate hx];simp [k7])
  (by simp;exact aeb _ (by omega)) (λa j x hx=>by
   refine r3 a j x ?_;rw[List.getElem?_replicate]at hx ⊢;split at hx
   ·rw[ap (by omega)];exact hx
   ·cases hx)
 refine⟨_,_,_,_,_,dJ,this.1,this.2,?_,h⟩;refine .so ⟨0,true,i.sz,List.replicate N (i.zero.map cv)⟩ (by simp) (adB _) rfl (λ_=>.inr ⟨w.heap.size,0,M,e,(Array.range (M*i.sz)).map (z.cells[· % z.cells.size]!),cg _ _ _,heap_alloc_new w _,by simp,by omega,by simp⟩)
def Gk:V->Option Int
 |.d (.sc (.int _ n))=>some n
 |_=>none
theorem Cu{n:Int} (hr:aG σ s w x u) (h:Gk x=some n):∃k,u=.int k n:=by
 unfold Gk at h;split at h
 ·simp only[adp]at h;subst h;cases hr with|d hr=>?_
  cases hr with|sc _ _=>exact⟨_,rfl⟩
 ·cases h
def iX (s:List Obj):V->Option (List (List V))
 |.d (.sl aI)=>some (aI.map (·.map .d))
 |.fu aI=>some (aI.map (·.map .d))
 |.so id g lo n=>match s[id]? with
  |some o=>if o.g=g/\lo+n<=o.aI.length then some ((o.aI.drop lo).take n) else none
  |none=>none
 |_=>none
theorem MX{i j:Nat} (h:((aI.map (·.map V.d))[i]?.bind (·[j]?))=some x):∃y,x=.d y/\(aI[i]?.bind (·[j]?))=some y:=by
 rw[adL]at h;cases he:aI[i]? with
 |none=>rw[he]at h;cases h
 |some e =>
  rw[he]at h;simp only[ad9,Option.bind_some,adL]at h;obtain⟨y,hy,rfl⟩:=Option.map_eq_some_iff.1 h;exact⟨y,rfl,hy⟩
theorem kM (hI:Inv σ s w) (hr:aG σ s w x u) (h:iX s x=some es) (hz:∀e∈es,e.length=z) :
  ∃a cap,u=.slice a es.length cap/\(a=none->es=[])/\es.length<=cap/\∃news:List Value,news.length=es.length*z/\(∀c∈news,c.oneCell'=true) /\
   (∀ad,a=some ad->∀(j:Nat) (c:Value),news[j]?=some c->w.cell? (ad.add j)=some c) /\
   ∀(i j:Nat) (y:V),(es[i]?.bind (·[j]?))=some y->∃c,news[i*z+j]?=some c/\c.oneCell'=true/\aG σ s w y c:=by
 -- from cells Zh are there
 have key:∀(a:Option Addr) (cap:Nat),(a=none->es=[])->es.length<=cap->(es≠[]->∃ad,a=some ad/\ad.spot=none/\∀(i j:Nat) (y:V),(es[i]?.bind (·[j]?))=some y ->
    ∃c,w.cell? ⟨ad.block,ad.off+i*z+j,none⟩=some c/\c.oneCell'=true/\aG σ s w y c) ->
   ∃a' np,Value.slice a es.length cap=.slice a' es.length np/\(a'=none->es=[])/\es.length<=np/\∃news:List Value,news.length=es.length*z/\(∀c∈news,c.oneCell'=true) /\
    (∀ad,a'=some ad->∀(j:Nat) (c:Value),news[j]?=some c->w.cell? (ad.add j)=some c) /\
    ∀(i j:Nat) (y:V),(es[i]?.bind (·[j]?))=some y->∃c,news[i*z+j]?=some c/\c.oneCell'=true/\aG σ s w y c:=by
  intro a cap h1 h2 h3;refine⟨a,cap,rfl,h1,h2,?_⟩;by_cases fG:es=[]
  ·subst fG;exact⟨[],by simp,by simp,by simp,by simp⟩
  ·obtain⟨ad,rfl,du,hc⟩:=h3 fG;have hdiv:∀p,p<es.length*z->0<z/\p / z<es.length/\p / z*z+p % z=p/\p % z<z:=by
    intro p hp;have Yu:0<z:=by
     rcases Nat.eq_zero_or_pos z with h'|h'
     ·subst h';simp at hp
     ·exact h'
    refine⟨Yu,?_,by rw[Nat.mul_comm];exact Nat.div_add_mod p z,Nat.mod_lt _ Yu⟩;rw[Nat.div_lt_iff_lt_mul Yu];exact hp
   have UU:∀p,p<es.length*z->∃y,(es[p / z]?.bind (·[p % z]?))=some y:=by intro p hp;obtain⟨g1,g2,g3,g4⟩:=hdiv p hp;have G5:(es[p / z]'g2).length=z:=hz _ (List.getElem_mem g2);exact⟨(es[p / z]'g2)[p % z]'(by omega),by simp [g2,G5,g4]⟩
   have xp:∀p,p<es.length*z->∃c,w.cell? ⟨ad.block,ad.off+p,none⟩=some c/\c.oneCell'=true:=by intro p hp;obtain⟨y,hy⟩:=UU p hp;obtain⟨c,k1,k2,_⟩:=hc _ _ y hy;exact⟨c,by rw[<- k1,Nat.add_assoc,(hdiv p hp).2.2.1],k2⟩
   refine⟨(List.range (es.length*z)).map λp=>(w.cell? ⟨ad.block,ad.off+p,none⟩).getD undef,by simp,?_,?_,?_⟩
   ·intro c UJ;obtain⟨p,hp,rfl⟩:=List.mem_map.1 UJ;obtain⟨c,k1,k2⟩:=xp p (by simpa using hp);rw[k1];exact k2
   ·intro ad' had j c hj;cases had;rw[adL]at hj;obtain⟨p,hp,rfl⟩:=Option.map_eq_some_iff.1 hj;have aH:j<es.length*z:=by simpa using (List.getElem?_eq_some_iff.1 hp).1
    obtain rfl:p=j:=by have:=(List.getElem?_eq_some_iff.1 hp).2;simpa using this.symm
    obtain⟨c,k1,_⟩:=xp p aH;rw[fJ du,k1];rfl
   ·intro i j y hy;obtain⟨c,k1,k2,k3⟩:=hc i j y hy;refine⟨c,?_,k2,k3⟩;have UY:i*z+j<es.length*z:=by
     cases he:es[i]? with
     |none=>rw[he]at hy;cases hy
     |some e =>
      rw[he]at hy;have hj:=(List.getElem?_eq_some_iff.1 hy).1;rw[hz e (adw he)]at hj;have:=aeb z (show i+1<=es.length from (List.getElem?_eq_some_iff.1 he).1);rw[Nat.add_mul,Nat.one_mul]at this;omega
    rw[adL,List.getElem?_range UY];simp only[ad9];rw[<- Nat.add_assoc,k1];rfl
 have BQ:∀(aI:List (List D)) (a:Option Addr) (n cap:Nat),dt (Own σ s) w (.sl aI) (.slice a n cap)->es=aI.map (·.map .d)->n=es.length/\(a=none->es=[])/\es.length<=cap /\
   (es≠[]->∃ad,a=some ad/\ad.spot=none/\∀(i j:Nat) (y:V),(es[i]?.bind (·[j]?))=some y ->
    ∃c,w.cell? ⟨ad.block,ad.off+i*z+j,none⟩=some c/\c.oneCell'=true/\aG σ s w y c):=by
  intro aI a n cap hd he;subst he;cases hd with
  |nil=>simp
  |sl _ ad _ sz f h1 h2 h3 h4 h5 =>
   refine⟨by simp,by simp,by simpa using h1,λfG=>⟨ad,rfl,h2 (by intro h';subst h';simp at fG),λi j y hy=>?_⟩⟩;obtain⟨y',rfl,To⟩:=MX hy;have gf:sz=z:=by
    cases Ab:aI[i]? with
    |none=>rw[Ab]at To;cases To
    |some e =>
     have:=h3 e (adw Ab);have QP:=hz (e.map .d) (List.mem_map.2 ⟨e,adw Ab,rfl⟩);simp at QP;omega
   subst gf;exact⟨f i j,(h4 i j y' To).1,(h5 i j y' To).one,.d (h5 i j y' To)⟩
 unfold iX at h;split at h
 ·simp only[adp]at h;cases hr with|d hr=>?_
  have hu:∃a n cap,u=.slice a n cap:=by cases hr <;> exact⟨_,_,_,rfl⟩
  obtain⟨a,n,cap,rfl⟩:=hu;obtain⟨rfl,e2,e3,e4⟩:=BQ _ a n cap hr h.symm;exact key a cap e2 e3 e4
 ·simp only[adp]at h;cases hr with|fu hr=>?_
  obtain⟨e1,e2,e3,e4⟩:=BQ _ _ _ _ hr h.symm;rw[e1];exact key _ _ e2 (by omega) e4
 ·rename_i id g lo n;split at h
  case h_2=>cases h
  rename_i o ho;split at h
  case isFalse=>cases h
  rename_i hc;simp only[adp]at h;subst h;have hlen:((o.aI.drop lo).take n).length=n:=by simp;omega
  cases hr with|so o' mo hg hu hk=>?_
  rw[ho]at mo;cases mo;rcases hk hc.1 with ⟨_,⟨a,rfl⟩,rfl,rfl⟩|⟨b,base,cap,E,arr,g1,g2,rfl,g4,g5⟩
  ·have:=key a 0 (by simp) (by simp) (by simp);simp only[List.take_zero]at this ⊢;exact this
  ·have:=key (some ⟨b,base+lo*o.sz,none⟩) cap (by simp) (by omega) (λfG=>⟨_,rfl,rfl,λi j y hy=>?_⟩)
   ·rw[hlen]at this ⊢;exact this
   ·have hi:i<n/\(o.aI[lo+i]?.bind (·[j]?))=some y:=by
     rw[ad1]at hy;split at hy
     ·rw[List.getElem?_drop]at hy;exact⟨by assumption,hy⟩
     ·cases hy
    rcases hI.content _ o ho with h1|⟨b',cr,cH,E',h1,h2,h3,h4,h5⟩
    ·exact(h1.CW g1 ⟨arr,E,g2⟩).elim
    ·rw[g1]at h1;cases h1;rw[g2]at h2;cases h2;have gf:o.sz=z:=by
      cases Ab:o.aI[lo+i]? with
      |none=>rw[Ab]at hi;cases hi.2
      |some e =>
       have e1:=h3 e (adw Ab);have e2:=hz e (adw (i:=i) (by rw[ad1,ap hi.1,List.getElem?_drop];exact Ab));omega
     subst gf;obtain⟨c,k1,k2,k3⟩:=h5 (lo+i) j y hi.2;refine⟨c,?_,k2,k3⟩;simp only[World.cell?,g2];rw[Nat.add_mul]at k1;simpa [Nat.add_assoc]using k1
 ·cases h
def dH (P:Program) (t:TypeId) (a x:V) (s:List Obj) (K:V->List Obj->Prop):Prop :=
 match lS P t with
 |none=>False
 |some (_,i)=>match iX s x with
  |none=>False
  |some ns=>((∀e∈ns,e.length=i.sz)/\0<i.sz/\0<i.F2)/\match a with
   |.fu aI=>match aI,x with
    |_::_,.d (.sl ds)=>((aI.length+ds.length)*i.F2<=140737488355328/\∀e∈aI,e.length=i.sz)/\K (.d (.sl (aI++ds))) s
    |_,_=>((aI=[]\/0<ns.length)/\(aI.length+ns.length)*i.F2<=140737488355328/\∀e∈aI,e.length=i.sz) /\
      K (.so s.length 0 0 (aI.length+ns.length)) (s++[⟨0,true,i.sz,aI.map (·.map .d)++ns⟩])
   |.so id g lo n=>sh s id g λo=>(o.live=true/\o.sz=i.sz/\lo+n<=o.aI.length/\(n+ns.length)*i.F2<=140737488355328) /\
     K (.so id (g+1) 0 (n+ns.length)) (s.set id ⟨g+1,true,i.sz,(o.aI.drop lo).take n++ns⟩)
   |_=>False
theorem rp{ns:List (List V)}{kH news:List Value} (ho:kH.length=es.length*z)
  (h1:∀(i j:Nat) (y:V),(es[i]?.bind (·[j]?))=some y->∃c,kH[i*z+j]?=some c/\c.oneCell'=true/\aG σ s w y c)
  (h2:∀(i j:Nat) (y:V),(ns[i]?.bind (·[j]?))=some y->∃c,news[i*z+j]?=some c/\c.oneCell'=true/\aG σ s w y c) :
  ∀(i j:Nat) (y:V),((es++ns)[i]?.bind (·[j]?))=some y->∃c,(kH++news)[i*z+j]?=some c/\c.oneCell'=true/\aG σ s w y c:=by
 intro i j y hy;by_cases hi:i<es.length
 ·rw[adM hi]at hy;obtain⟨c,k1,k2,k3⟩:=h1 i j y hy;refine⟨c,?_,k2,k3⟩;rw[adM (by
   have:=(List.getElem?_eq_some_iff.1 k1).1;exact this)]
  exact k1
 ·rw[adN (by omega)]at hy;obtain⟨c,k1,k2,k3⟩:=h2 _ j y hy;refine⟨c,?_,k2,k3⟩;have hmul:i*z=es.length*z+(i-es.length)*z:=by rw[<- Nat.add_mul];congr 1;omega
  rw[adN (by rw[ho,hmul];omega),<- k1];congr 1;rw[ho,hmul];omega
theorem Ca {l:List Value}{p:Nat} (h:l[p]?=some c):(l.toArray++arr)[p]?=some c:=by have aH:=(List.getElem?_eq_some_iff.1 h).1;rw[Array.getElem?_append_left (by simpa using aH)];simpa using h
theorem lV{ti:TypeInfo} (hu:P.underlying t=some (.slice e)) (hi:P.info? e=some ti) (hs:Src P ti.size t ux 0 [] w)
  (base:Option Addr) (n cap:Nat) (h:n<=cap):(Builtin.append_ #[t,t] ty #[.slice base n cap,ux]).run P w=.ok (.slice base n cap) w:=by
 cases base <;> simp [Builtin.append_,run_underlying hu,sizeOf,typeInfo,hi,hs.len,h,hs.cells,storeCells]
theorem CO{a:V}{ua:Value}{K:V->List Obj->Prop} (hI:Inv σ s w) (ha:aG σ s w a ua) (hx:aG σ s w x ux)
  (h:dH P t a x s K):∃v r σ' s' w',(Builtin.append_ #[t,t] ty #[ua,ux]).run P w=.ok r w'/\aW σ s w σ' s' w'/\Inv σ' s' w'/\aG σ' s' w' v r/\K v s':=by
 unfold dH at h;split at h
 ·exact h.elim
 rename_i e i Nw;obtain⟨hu,hi⟩:=mA Nw;split at h
 ·exact h.elim
 rename_i ns xA;obtain⟨⟨hz,dx,Ys⟩,h⟩:=h;obtain⟨ti,d,z,k1,k2,k3,k4,k5,k6,k7,k8,k9⟩:=iC hi;obtain⟨ax,yj,rfl,Eg,VJ,news,n1,n2,n3,n4⟩:=kM hI hx xA hz;have Te:z.cells.size=i.sz:=by rw[<- Array.length_toList,k6,k7]
 have tP:Src P ti.size t (.slice ax ns.length yj) ns.length news w:=by
  rw[k4];cases ax with
  |none =>
   have:ns=[]:=Eg rfl;subst this;have hn:news=[]:=adJ (by simpa using n1);subst hn;exact Src.ofNil w hu yj
  |some ad=>exact Src.ofSlice w hu ad ns.length yj news n1 (n3 ad rfl) n2
 -- it Sq
 have grow:∀(es:List (List V)) (base:Option Addr) (cap:Nat) (kH:List Value),kH.length=es.length*i.sz->(base=none->es=[])->(∀e∈es,e.length=i.sz) ->
   (∀ad,base=some ad->∀(j:Nat) (c:Value),kH[j]?=some c->w.cell? (ad.add j)=some c) ->
   (∀(i' j:Nat) (y:V),(es[i']?.bind (·[j]?))=some y->∃c,kH[i'*i.sz+j]?=some c/\c.oneCell'=true/\aG σ s w y c) ->
   cap<es.length+ns.length->(es.length+ns.length)*i.F2<=140737488355328 ->
   ∃(arr:Array Value) (np:Nat),(Builtin.append_ #[t,t] ty #[.slice base es.length cap,.slice ax ns.length yj]).run P w=.ok (.slice (some ⟨w.heap.size,0,none⟩) (es.length+ns.length) np) (w.drew.alloc (.cells arr e)) /\
    es.length+ns.length<=np/\arr.size=np*i.sz /\
    ∀(i' j:Nat) (y:V),((es++ns)[i']?.bind (·[j]?))=some y->∃c,arr[i'*i.sz+j]?=some c/\c.oneCell'=true/\aG σ s w y c:=by
  intro es base cap kH o1 o2 o3 o4 o5 fS X2;have hold:(Builtin.firstCells ti.size es.length (.slice base es.length cap)).run P w.drew=.ok kH.toArray w.drew:=by
   rw[k4];cases base with
   |none =>
    have:es=[]:=o2 rfl;subst this;have hn:kH=[]:=adJ (by simpa using o1);subst hn;exact run_firstCells_none w.drew i.sz 0 0 cap
   |some ad=>exact run_firstCells_some w.drew i.sz es.length ad es.length cap kH o1 (by simpa using o4 ad rfl)
  have hle:es.length+ns.length<=(es.length+ns.length)*i.F2:=Nat.le_mul_of_pos_right _ Ys;have dJ:=run_append_grow_src (P:=P) w t t ty e ti z hu k1 k3 base es.length cap kH hold (.slice ax ns.length yj) ns.length news tP fS (by omega) (growslice_fits fS (by rw[k5];exact X2));have iP:=grownCap_ge w (es.length+ns.length) cap e;refine⟨_,_,dJ,iP,?_,?_⟩
  ·simp only[Array.size_append,List.size_toArray,size_zeroCells,adx,o1,n1,Te];rw[<- Nat.add_mul,<- Nat.add_mul];congr 1;omega
  ·intro i' j y hy;obtain⟨c,c1,c2,c3⟩:=rp o1 o5 n4 i' j y hy;exact⟨c,Ca c1,c2,c3⟩
 have OB:∀(es:List (List V)),(∀e∈es,e.length=i.sz)->∀e∈es++ns,e.length=i.sz:=by
  intro es HI e he;rcases List.mem_append.1 he with h'|h'
  ·exact HI e h'
  ·exact hz e h'
 obtain⟨Tv,Wc⟩:=qY hI;split at h
 ·-- a full slice
  rename_i aI;have oA:iX s (.fu aI)=some (aI.map (·.map .d)):=rfl;have V8:(∀e∈aI,e.length=i.sz)->∀e∈aI.map (·.map V.d),e.length=i.sz:=by intro hh e he;obtain⟨e',lu,rfl⟩:=List.mem_map.1 he;simpa using hh e' lu
  split at h
  ·-- by value
   rename_i d0 uO ds;obtain⟨⟨hb,hl⟩,h⟩:=h;have LU:ns=ds.map (·.map .d):=by simpa [iX]using xA.symm
   obtain⟨base,cap,Ec,a1,a2,kH,o1,o2,o3,o4⟩:=kM hI ha oA (V8 hl);have Jj:cap=(d0::uO).length:=by
    cases ha with|fu ha=>?_
    simp only[Value.slice.injEq]at Ec;omega
   subst Ec;have m9:((d0::uO).map (·.map V.d)).length=(d0::uO).length:=by simp
   by_cases hm:ns.length=0
   ·have YC:ds=[]:=by rw[LU]at hm;simpa using hm
    subst YC;have nq:ns=[]:=by simpa using LU
    subst nq;have s5:news=[]:=adJ (by simpa using n1);subst s5;cases base with
    |none=>simp at a1
    |some ad =>
     refine⟨_,.slice (some ad) ((d0::uO).map (·.map V.d)).length cap,σ,s,w,lV hu k1 tP _ _ _ (by simp [Jj]),aW.refl _ _ _,hI,?_,h⟩
     ·rw[adS];exact .d (mE ha rfl)
   ·obtain⟨arr,np,g1,g2,g3,g4⟩:=grow ((d0::uO).map (·.map .d)) base cap kH o1 a1 (V8 hl) o3 o4 (by rw[m9];omega) (by rw[m9,LU];simpa using hb);obtain⟨hE,gS⟩:=Bv Wc (.cells arr e);refine⟨_,_,σ,s,_,g1,Tv.trans hE,gS,?_,h⟩;have hlen:((d0::uO).map (·.map V.d)).length+ns.length=((d0::uO)++ds).length:=by rw[LU];simp;omega
    rw[hlen];refine .d (dt.I3 (sz:=i.sz) (by rw[<- hlen];exact g2) (λx hx=>?_) (λho=>by have:=ud Wc ho;simp at this) (λa j y hy=>?_))
    ·rcases List.mem_append.1 hx with h'|h'
     ·exact hl x h'
     ·have:=hz (x.map .d) (by rw[LU];exact List.mem_map.2 ⟨x,h',rfl⟩);simpa using this
    ·have To:(((d0::uO).map (·.map V.d)++ns)[a]?.bind (·[j]?))=some (.d y):=by
      rw[LU,<- List.map_append,adL];cases ZJ:((d0::uO)++ds)[a]? with
      |none=>rw[ZJ]at hy;cases hy
      |some ea =>
       rw[ZJ]at hy;simp only[ad9,Option.bind_some,adL];rw[show ea[j]?=some y from hy];rfl
     obtain⟨c,c1,c2,c3⟩:=g4 a j _ To;refine⟨c,by
      show (w.drew.alloc (.cells arr e)).cell? ⟨w.drew.heap.size,0+a*i.sz+j,none⟩=some c;rw[World.cell?_alloc_new];simpa using c1,?_⟩
     have:=(c3.bF Tv).bF hE;cases this with|d h'=>exact h'
  ·-- a new object
   obtain⟨⟨fG,hb,hl⟩,h⟩:=h;obtain⟨base,cap,Ec,a1,a2,kH,o1,o2,o3,o4⟩:=kM hI ha oA (V8 hl);have Jj:cap=aI.length:=by
    cases ha with|fu ha=>?_
    simp only[Value.slice.injEq]at Ec;omega
   subst Ec;have m9:(aI.map (·.map V.d)).length=aI.length:=by simp
   by_cases hm:ns.length=0
   ·have VG:aI=[]:=fG.resolve_right (by omega);subst VG;have nq:ns=[]:=adJ hm;subst nq;have s5:news=[]:=adJ (by simpa using n1);subst s5;have:=lE (p:=none) (o':=⟨0,true,i.sz,[]⟩) (w':=w) hI rfl rfl rfl (adB _) (λ_ _=>rfl) (λ_ _ h'=>by cases h') (λ_=>.inl (.inl ⟨rfl,rfl⟩));refine⟨_,.slice base 0 cap,_,_,w,lV hu k1 tP _ _ _ (Nat.zero_le _),this.1,this.2,?_,h⟩
    ·subst Jj;exact .so ⟨0,true,i.sz,[]⟩ (by simp) (adB _) rfl (λ_=>.inl ⟨cg _ _ _,⟨base,rfl⟩,rfl,rfl⟩)
   ·obtain⟨arr,np,g1,g2,g3,g4⟩:=grow (aI.map (·.map .d)) base cap kH o1 a1 (V8 hl) o3 o4 (by rw[m9];omega) (by rw[m9];exact hb);have:=sd (aI:=aI.map (·.map .d)++ns) (sz:=i.sz) (arr:=arr) Wc e (OB _ (V8 hl)) (by rw[g3];exact aeb _ (by simpa using g2))
     (λi' j y hy=>let ⟨c,c1,c2,c3⟩:=g4 i' j y hy;⟨c,c1,c2,c3.bF Tv⟩)
    refine⟨_,_,_,_,_,g1,Tv.trans this.1,this.2,?_,h⟩;rw[m9];refine .so ⟨0,true,i.sz,aI.map (·.map .d)++ns⟩ (by simp) (adB _) rfl (λ_=>.inr ⟨w.heap.size,0,np,e,arr,cg _ _ _,heap_alloc_new w.drew _,by simp,by rw[m9]at g2;exact g2,by simp [g3]⟩)
 ·-- a slice of JL Yz own
  rename_i id g lo n;obtain⟨o,ho,hg,⟨qX,Lb,hlo,hb⟩,h⟩:=ep h;have oA:iX s (.so id g lo n)=some ((o.aI.drop lo).take n):=by simp [iX,ho,hg,hlo]
  have m9:((o.aI.drop lo).take n).length=n:=by simp;omega
  have TE:∀e∈(o.aI.drop lo).take n,e.length=i.sz:=by
   intro e he;have lu:e∈o.aI:=List.mem_of_mem_drop (List.mem_of_mem_take he);rcases hI.content _ o ho with h0|⟨b,base,arr,E,h1,h2,h3,h4,h5⟩
   ·cases ha with|so o' mo CP Q2 hk=>?_
    rw[ho]at mo;cases mo;rcases hk hg with ⟨fW,_⟩|⟨b,bs,cp,E,arr,eC,hh,_⟩
    ·rw[h0.KI fW]at lu;cases lu
    ·exact(h0.CW eC ⟨arr,E,hh⟩).elim
   ·rw[<- Lb];exact h3 e lu
  obtain⟨base,cap,Ec,a1,a2,kH,o1,o2,o3,o4⟩:=kM hI ha oA TE;rw[m9]at Ec a2;cases ha with|so o' mo CP Q2 hk=>?_
  rw[ho]at mo;cases mo;have uB:=hk hg;by_cases fS:cap<n+ns.length
  ·-- it Sq
   obtain⟨arr,np,g1,g2,g3,g4⟩:=grow _ base cap kH o1 a1 TE o3 o4 (by rw[m9];exact fS) (by rw[m9];exact hb);rw[m9]at g1 g2;subst Ec;have:=la (p:=some (w.heap.size,0)) (o':=⟨g+1,true,i.sz,(o.aI.drop lo).take n++ns⟩) (w':=w.drew.alloc (.cells arr e)) hI ho qX rfl rfl rfl (by simp)
    (λb HO _=>Go.RowKit.Below.heap_alloc w.drew _ b HO)
    (λb cr cH E' he hh=>⟨cH,by rw[Go.RowKit.Below.heap_alloc w.drew _ b (by exact fP hh)];exact hh,rfl⟩)
    (λb cr he hm=>let ⟨es,c,hh⟩:=hm;⟨es,c,by rw[Go.RowKit.Below.heap_alloc w.drew _ b (by exact fP hh)];exact hh⟩)
    (by simp only;omega) (λh'=>by simp only at h';omega) (λb cr he=>by cases he;exact .inr (adB _))
    (λhE=>.inr ⟨w.heap.size,0,arr,e,rfl,heap_alloc_new w.drew _,OB _ TE,by simp only[adx,m9,g3];rw[adI];exact aeb _ g2,λi' j y hy=>by
     obtain⟨c,c1,c2,c3⟩:=g4 i' j y hy;exact⟨c,by simpa using c1,c2,c3.bF hE⟩⟩)
   refine⟨_,_,_,_,_,g1,this.1,this.2,?_,h⟩;exact .so ⟨g+1,true,i.sz,(o.aI.drop lo).take n++ns⟩ (by simp [(List.getElem?_eq_some_iff.1 ho).1]) (adB _) rfl (λ_=>.inr ⟨w.heap.size,0,np,e,arr,cg _ _ _,heap_alloc_new w.drew _,by simp,g2,by simp [g3]⟩)
  ·-- there is room
   have qF:n+ns.length<=cap:=by omega
   rcases uB with ⟨fW,⟨aa,vH⟩,rfl,rfl⟩|⟨b,bs,cp,E,arr,eC,hh,vH,uA,hfit⟩
   ·-- no block yet: nothing is W1
    rw[Ec]at vH;simp only[Value.slice.injEq]at vH;obtain⟨rfl,_,rfl⟩:=vH;have nq:ns=[]:=adJ (by omega);subst nq;have s5:news=[]:=adJ (by simpa using n1);subst s5;subst Ec;have:=la (p:=none) (o':=⟨g+1,true,i.sz,(o.aI.drop 0).take 0++[]⟩) (w':=w) hI ho qX rfl rfl rfl (adB _) (λ_ _ _=>rfl)
     (λ_ _ cH _ _ hh=>⟨cH,hh,rfl⟩) (λ_ _ _ hm=>hm) (by simp only;omega) (λh'=>by simp only at h';omega) (λ_ _ he=>by cases he) (λ_=>.inl (.inl ⟨rfl,by simp⟩))
    refine⟨_,.slice base 0 0,_,_,w,lV hu k1 tP _ _ _ (adB _),this.1,this.2,?_,h⟩
    ·exact .so ⟨g+1,true,i.sz,(o.aI.drop 0).take 0++[]⟩ (by simp [(List.getElem?_eq_some_iff.1 ho).1]) (adB _) rfl (λ_=>.inl ⟨cg _ _ _,⟨base,rfl⟩,rfl,rfl⟩)
   ·rw[Ec]at vH;simp only[Value.slice.injEq]at vH;obtain⟨rfl,_,rfl⟩:=vH;subst Ec;have hq:bs+lo*o.sz+n*i.sz+news.length<=arr.size:=by rw[n1,<- Lb];have e1:(lo+cap)*o.sz=lo*o.sz+cap*o.sz:=Nat.add_mul _ _ _;have e2:=aeb o.sz qF;rw[Nat.add_mul]at e2;omega
    have aU:=run_storeCells_at P b (bs+lo*o.sz+n*i.sz) E news 0 arr w hh (by omega) n2;simp only[Nat.add_zero]at aU;generalize nr:(arr.toList.take (bs+lo*o.sz+n*i.sz)++news++arr.toList.drop (bs+lo*o.sz+n*i.sz+news.length)).toArray=cH at aU;have iA:cH.size=arr.size:=by rw[<- nr];simp;omega
    have aH:∀p,p<bs+lo*o.sz+n*i.sz->cH[p]?=arr[p]?:=by intro p hp;rw[<- nr,List.getElem?_toArray,adX,adM (by simp;omega),ad1,ap hp,aed]
    have tD:∀q,q<news.length->cH[bs+lo*o.sz+n*i.sz+q]?=news[q]?:=by
     intro q Io;have hl:(arr.toList.take (bs+lo*o.sz+n*i.sz)).length=bs+lo*o.sz+n*i.sz:=by simp;omega
     rw[<- nr,List.getElem?_toArray,adX,adN (by omega),hl,adM (by omega)];congr 1;omega
    have:=la (p:=some (b,bs+lo*o.sz)) (o':=⟨g+1,true,i.sz,(o.aI.drop lo).take n++ns⟩) (w':=w.setRow b cH) hI ho qX rfl rfl rfl (by simp)
     (λb1 _ fG=>setRow_other w b b1 cH (λe=>fG bs (by rw[eC,e])))
     (λb1 jk TY E1 he P8=>by
      rw[eC]at he;cases he;rw[hh]at P8;cases P8;exact⟨cH,setRow_heap w b arr cH E (0,0) hh,iA⟩)
     (λb1 jk he hm=>by
      rw[eC]at he;cases he;exact(HP.notM ⟨arr,E,hh⟩ hm).elim)
     (by simp only;omega) (λh'=>by simp only at h';omega) (λb1 jk he=>by cases he;exact .inl ⟨bs,eC⟩)
     (λhE=>.inr ⟨b,bs+lo*o.sz,cH,E,rfl,setRow_heap w b arr cH E (0,0) hh,OB _ TE,(by
      simp only[adx,m9,Nat.add_mul];rw[iA];omega),λi' j y hy=>by
      obtain⟨c,c1,c2,c3⟩:=rp (z:=i.sz) o1 o4 n4 i' j y hy;refine⟨c,?_,c2,c3.bF hE⟩;simp only;by_cases UY:i'*i.sz+j<kH.length
      ·rw[adM UY]at c1;rw[aH _ (by rw[o1,m9]at UY;omega)];have hc:=o3 ⟨b,bs+lo*o.sz,none⟩ rfl _ c c1;rw[fJ rfl]at hc;simp only[World.cell?,hh]at hc;simpa [Nat.add_assoc]using hc
      ·rw[adN (by omega)]at c1;have bo:=(List.getElem?_eq_some_iff.1 c1).1;have:=tD _ bo;rw[c1]at this;rw[<- this];congr 1;rw[o1,m9]at *;omega⟩)
    refine⟨_,.slice (some ⟨b,bs+lo*o.sz,none⟩) (n+ns.length) cap,_,_,w.setRow b cH,?_,this.1,this.2,?_,h⟩
    ·have lT:=tP.cells;rw[k4]at lT;simp [Builtin.append_,run_underlying hu,sizeOf,typeInfo,k1,Builtin.lenOf,qF,lT,k4,Addr.add_lit,aU]
    ·exact .so ⟨g+1,true,i.sz,(o.aI.drop lo).take n++ns⟩ (by simp [(List.getElem?_eq_some_iff.1 ho).1]) (adB _) rfl
      (λ_=>.inr ⟨b,bs+lo*o.sz,cap,E,cH,cg _ _ _,setRow_heap w b arr cH E (0,0) hh,by simp,qF,by rw[iA];simp only[adI];rw[<- Lb,Nat.add_mul]at *;omega⟩)
 ·exact h.elim
def yh (x:Option V) (Rn:Int):Option Int :=
 match x with
 |none=>some Rn
 |some v=>Gk v
def rK (cs:List D) (z l n:Nat):List (List D):=(List.range n).map λi=>(cs.drop ((l+i)*z)).take z
def kO (P:Program) (t:TypeId) (x:V) (lo hi mx:Option V) (K:V->Prop):Prop :=
 match Ur P t with
 |none=>False
 |some (len,z)=>match x,yh lo 0,yh hi len,mx with
  |.d (.el cs),some l,some h,none=>((0<=l/\l<=h/\h<=len)/\cs.length=len*z)/\K (.d (.sl (rK cs z l.toNat (h-l).toNat)))
  |_,_,_,_=>False
def kj (P:Program) (t:TypeId) (x:V) (lo hi mx:Option V) (s:List Obj) (K:V->Prop):Prop :=
 match HQ P t with
 |none=>kO P t x lo hi mx K
 |some z=>match iX s x with
  |none=>False
  |some es=>match yh lo 0,yh hi es.length with
   |some l,some h=>(0<=l/\l<=h/\h<=es.length)/\match x,mx with
    |.d (.sl aI),none=>(l=0\/∀e∈aI,e.length=z)/\K (.d (.sl ((aI.drop l.toNat).take (h-l).toNat)))
    |.fu aI,none=>(l=0\/∀e∈aI,e.length=z)/\K (.d (.sl ((aI.drop l.toNat).take (h-l).toNat)))
    |.d (.sl aI),some m=>hi.isSome=true/\Gk m=some h/\(l=0\/∀e∈aI,e.length=z)/\K (.fu ((aI.drop l.toNat).take (h-l).toNat))
    |.so id g PY _,none=>sh s id g λo=>o.sz=z/\if l=0\/l<h then K (.so id g (PY+l.toNat) (h-l).toNat) else K (.d (.sl []))
    |_,_=>False
   |_,_=>False
theorem dt.sub {O:Nat->Prop}{a:Option Addr}{h m:Nat} (hr:dt O w (.sl aI) (.slice a n cap)) (hl:l<=h) (hh:h<=aI.length) (hm:h<=m) (mr:m<=cap)
  (hz:l=0\/∀e∈aI,e.length=z):dt O w (.sl ((aI.drop l).take (h-l))) (.slice (if m=l then a else a.map (·.add (l*z))) (h-l) (m-l)):=by
 have hlen:((aI.drop l).take (h-l)).length=h-l:=by simp;omega
 cases hr with
 |nil =>
  simp only[adF]at hh;obtain rfl:h=0:=by omega
  obtain rfl:l=0:=by omega
  obtain rfl:m=0:=by omega
  exact .nil
 |sl _ ad _ sz f h1 h2 h3 h4 h5 =>
  by_cases Vb:m=l
  ·rw[ap Vb];have e0:(aI.drop l).take (h-l)=[]:=adJ (by rw[hlen];omega);have:=dt.sl (O:=O) (w:=w) [] ad (m-l) sz f (by simp) (by simp) (by simp) (by simp) (by simp);rw[e0,show h-l=0 by omega];exact this
  ·rw[am Vb];simp only[ad9];have kK:∀(i:Nat) (e:List D),((aI.drop l).take (h-l))[i]?=some e->aI[l+i]?=some e:=by
    intro i e he;rw[ad1]at he;split at he
    ·rw[List.getElem?_drop]at he;exact he
    ·cases he
   have Zi:∀e∈(aI.drop l).take (h-l),e.length=sz:=λe he=>h3 e (List.mem_of_mem_drop (List.mem_of_mem_take he));have hmul:∀(i j:Nat) (x:D),(((aI.drop l).take (h-l))[i]?.bind (·[j]?))=some x->(aI[l+i]?.bind (·[j]?))=some x/\ad.add (l*z)=⟨ad.block,ad.off+l*sz,none⟩:=by
    intro i j x hx;cases he:((aI.drop l).take (h-l))[i]? with
    |none=>rw[he]at hx;cases hx
    |some e =>
     rw[he]at hx;have lu:=kK i e he;refine⟨by rw[lu];exact hx,?_⟩;have fG:aI≠[]:=by intro h';subst h';simp at lu
     rw[fJ (h2 fG)];rcases hz with rfl|hz
     ·simp
     ·have:=hz e (adw lu);have:=h3 e (adw lu);rw[show z=sz by omega]
   have:=dt.sl (O:=O) (w:=w) ((aI.drop l).take (h-l)) (ad.add (l*z)) (m-l) sz (λi j=>f (l+i) j) (by rw[hlen];omega)
    (λfG=>by
     have YZ:aI≠[]:=by intro h';subst h';simp at fG
     rw[fJ (h2 YZ)]) Zi
    (λi j x hx=>by
     obtain⟨g1,g2⟩:=hmul i j x hx;have:=h4 (l+i) j x g1;rw[g2];simpa [Nat.add_mul,Nat.add_assoc]using this)
    (λi j x hx=>h5 (l+i) j x (hmul i j x hx).1)
   rw[hlen]at this;exact this
theorem u6{x:Option V}{u:Option Value}{Rn n:Int} (hr:∀v,x=some v->∃c,u=some c/\aG σ s w v c) (hn:x=none->u=none) (h:yh x Rn=some n) :
  (u=none/\n=Rn)\/∃k,u=some (.int k n):=by
 cases x with
 |none=>simp only[yh,adp]at h;exact .inl ⟨hn rfl,h.symm⟩
 |some v =>
  obtain⟨c,rfl,hc⟩:=hr v rfl;obtain⟨k,rfl⟩:=Cu hc h;exact .inr ⟨k,rfl⟩
theorem w8{ti:TypeInfo} (hu:P.underlying t=some (.slice e)) (hi:P.info? e=some ti) {a:Option Addr}{lo hi' mx:Option Value}{h m:Nat}
  (hlo:(lo=none/\l=0)\/∃k,lo=some (.int k l)) (hhi:(hi'=none/\h=n)\/∃k,hi'=some (.int k h)) (AV:(mx=none/\m=cap)\/(hi'≠none/\∃k,mx=some (.int k m)))
  (hlh:l<=h) (hhm:h<=m) (hmc:m<=cap) (w:World) :
  (Instr.sliceAt t (.slice a n cap) lo hi' mx).run P w=.ok (.slice (if m=l then a else a.map (·.add (l*ti.size))) (h-l) (m-l)) w:=by
 have b:∀(k:IntKind) (i y:Nat) (c:BoundsCode),i<=y->(Instr.sliceBound (.int k i) y c).run P w=.ok i w:=by intro k i y c hh;simp [Instr.sliceBound,asIntOf,hh]
 rcases hlo with ⟨rfl,rfl⟩|⟨kl,rfl⟩ <;> rcases hhi with ⟨rfl,rfl⟩|⟨kh,rfl⟩ <;> rcases AV with ⟨rfl,rfl⟩|⟨fG,km,rfl⟩ <;>
  first
   |(exact absurd rfl fG)
   |simp [Instr.sliceAt,Instr.slice,run_underlying hu,Instr.sliceBounds,b,hlh,hhm,hmc,sizeOf,typeInfo,hi]
theorem dt.chunk {O:Nat->Prop}{cs:List D} (hr:dt O w (.el cs) (.pointer (some a))) (hlen:cs.length=len*z) (hn:l+n<=len) :
  dt O w (.sl (rK cs z l n)) (.slice (some (if len=l then a else a.add (l*z))) n (len-l)):=by
 cases hr with
 |el _ _ f h1 h2 h3 =>
  have hl:(rK cs z l n).length=n:=by simp [rK]
  by_cases nq:n=0
  ·subst nq;exact dt.sl [] _ (len-l) 0 (λ_ _=>undef) (by simp) (by simp) (by simp) (by simp) (by simp)
  ·rw[am (by omega),fJ h1];have kK:∀(i j:Nat) (x:D),((rK cs z l n)[i]?.bind (·[j]?))=some x->cs[(l+i)*z+j]?=some x:=by
    intro i j x hx;unfold rK at hx;rw[adL]at hx;cases hi:(List.range n)[i]? with
    |none=>rw[hi]at hx;cases hx
    |some k =>
     have hk:k=i:=by have:=List.getElem?_eq_some_iff.1 hi;obtain⟨h1,h2⟩:=this;simpa using h2.symm
     subst hk;rw[hi]at hx;simp only[ad9,Option.bind_some]at hx;rw[ad1]at hx;split at hx
     ·rwa [List.getElem?_drop]at hx
     ·cases hx
   have:=dt.sl (O:=O) (w:=w) (rK cs z l n) ⟨a.block,a.off+l*z,none⟩ (len-l) z (λi j=>f ((l+i)*z+j)) (by omega) (λ_=>rfl)
    (λe he=>by
     unfold rK at he;obtain⟨i,hi,rfl⟩:=List.mem_map.1 he;have hi:=List.mem_range.1 hi;have:=aeb z (show l+i+1<=len by omega);rw[Nat.add_mul,Nat.one_mul]at this;rw[ad5,List.length_drop];omega)
    (λi j x hx=>by
     have:=h2 _ x (kK i j x hx);have e:a.off+((l+i)*z+j)=a.off+l*z+i*z+j:=by rw[Nat.add_mul];omega
     rw[e]at this;exact this)
    (λi j x hx=>h3 _ x (kK i j x hx))
   rw[hl]at this;exact this
theorem Ba{K:V->Prop} (hx:aG σ s w x ux)
  (hl:∀v,lo=some v->∃c,ul=some c/\aG σ s w v c) (T0:lo=none->ul=none) (hh:∀v,hi=some v->∃c,uh=some c/\aG σ s w v c) (Xm:hi=none->uh=none)
  (hmn:mx=none->um=none) (h:kO P t x lo hi mx K) :
  ∃v c,(Instr.sliceAt t ux ul uh um).run P w=.ok c w/\aG σ s w v c/\K v:=by
 unfold kO at h;split at h
 ·exact h.elim
 rename_i len z hz;obtain⟨e,ti,e1,e2,e3⟩:=zQ hz;split at h
 case h_2=>exact h.elim
 rename_i cs l h' ek Yg;obtain⟨⟨⟨b1,b2,b3⟩,hlen⟩,hK⟩:=h;obtain⟨L,rfl⟩:=Int.eq_ofNat_of_zero_le b1;obtain⟨H,rfl⟩:=Int.eq_ofNat_of_zero_le (show 0<=h' by omega);have oV:=u6 hl T0 ek;have U8:=u6 hh Xm Yg;have oa:=hmn rfl;subst oa;cases hx with|d hx=>?_
 have V6:=hx;cases hx with|el _ a f h1 h2 h3=>?_
 have hr:=dt.chunk (l:=L) (n:=H-L) V6 hlen (by omega);rw[<- e3]at hr;refine⟨_,_,?_,.d hr,by rw[show ((H:Int)-L).toNat=H-L by omega,adR,<- e3]at hK;exact hK⟩;have b:∀(k:IntKind) (i y:Nat) (c:BoundsCode),i<=y->(Instr.sliceBound (.int k i) y c).run P w=.ok i w:=by intro k i y c hh;simp [Instr.sliceBound,asIntOf,hh]
 have hL:L<=H:=by omega
 have hH:H<=len:=by omega
 rcases oV with ⟨rfl,oV⟩|⟨kl,rfl⟩ <;> rcases U8 with ⟨rfl,U8⟩|⟨kh,rfl⟩
 ·obtain rfl:L=0:=by omega
  obtain rfl:H=len:=by omega
  simp [Instr.sliceAt,run_underlying e1,Instr.sureAddr,Instr.sliceBounds,sizeOf,typeInfo,e2]
 ·obtain rfl:L=0:=by omega
  simp [Instr.sliceAt,run_underlying e1,Instr.sureAddr,Instr.sliceBounds,b,hH,sizeOf,typeInfo,e2]
 ·obtain rfl:H=len:=by omega
  simp [Instr.sliceAt,run_underlying e1,Instr.sureAddr,Instr.sliceBounds,b,hL,sizeOf,typeInfo,e2]
 ·simp [Instr.sliceAt,run_underlying e1,Instr.sureAddr,Instr.sliceBounds,b,hL,hH,sizeOf,typeInfo,e2]
theorem Fj{K:V->Prop} (hx:aG σ s w x ux)
  (hl:∀v,lo=some v->∃c,ul=some c/\aG σ s w v c) (T0:lo=none->ul=none) (hh:∀v,hi=some v->∃c,uh=some c/\aG σ s w v c) (Xm:hi=none->uh=none)
  (hm:∀v,mx=some v->∃c,um=some c/\aG σ s w v c) (hmn:mx=none->um=none) (h:kj P t x lo hi mx s K) :
  ∃v c,(Instr.sliceAt t ux ul uh um).run P w=.ok c w/\aG σ s w v c/\K v:=by
 unfold kj at h;split at h
 ·exact Ba hx hl T0 hh Xm hmn h
 rename_i z hz;obtain⟨e,ti,e1,e2,e3⟩:=EK hz;split at h
 ·exact h.elim
 rename_i es HI;split at h
 case h_2=>exact h.elim
 rename_i l h' ek Yg;obtain⟨⟨b1,b2,b3⟩,h⟩:=h;obtain⟨L,rfl⟩:=Int.eq_ofNat_of_zero_le b1;obtain⟨H,rfl⟩:=Int.eq_ofNat_of_zero_le (show 0<=h' by omega);have oV:=u6 hl T0 ek;have U8:=u6 hh Xm Yg;have MQ:(ul=none/\L=0)\/∃k,ul=some (.int k (L:Int)):=oV.imp (λh=>⟨h.1,by omega⟩) id;have e4:((H:Int)-L).toNat=H-L:=by omega
 simp only[adR,e4]at h;have data:∀(aI:List (List D)),dt (Own σ s) w (.sl aI) ux->es.length=aI.length->(L=0\/∀e∈aI,e.length=z)->∀(M:Nat),H<=M->(∀a n cap,ux=.slice a n cap->M<=cap/\((um=none/\M=cap)\/(uh≠none/\∃k,um=some (.int k (M:Int))))) ->
   ∃c a cap,ux=.slice a aI.length cap/\(Instr.sliceAt t ux ul uh um).run P w=.ok c w/\dt (Own σ s) w (.sl ((aI.drop L).take (H-L))) c/\c=.slice (if M=L then a else a.map (·.add (L*z))) (H-L) (M-L):=by
  intro aI hd hlen X6 M hM zK;have hu:∃a n cap,ux=.slice a n cap:=by cases hd <;> exact⟨_,_,_,rfl⟩
  obtain⟨a,n,cap,rfl⟩:=hu;have hn:n=aI.length/\aI.length<=cap:=by cases hd <;> simp_all
  obtain⟨rfl,fS⟩:=hn;obtain⟨c1,c2⟩:=zK a _ cap rfl;have dJ:=w8 (P:=P) e1 e2 (a:=a) (n:=aI.length) (cap:=cap) (lo:=ul) (hi':=uh) (mx:=um) (l:=L) (h:=H) (m:=M) MQ (U8.imp (λh=>⟨h.1,by omega⟩) id) c2 (by omega) hM c1 w;rw[e3]at dJ;exact⟨_,a,cap,rfl,dJ,dt.sub hd (by omega) (by omega) hM c1 X6,rfl⟩
 split at h
 ·-- data,no max
  rename_i aI;have hd:dt (Own σ s) w (.sl aI) ux:=mE hx rfl;have hlen:es.length=aI.length:=by simp only[iX,adp]at HI;rw[<- HI];simp
  have hu:∃a n cap,ux=.slice a n cap:=by cases hd <;> exact⟨_,_,_,rfl⟩
  obtain⟨a,n,cap,rfl⟩:=hu;have hn:n=aI.length/\aI.length<=cap:=by cases hd <;> simp_all
  obtain⟨c,_,_,_,r1,r2,_⟩:=data aI hd hlen (h.1.imp (by omega) id) cap (by omega) (λa' n' np he=>by cases he;exact⟨adB _,.inl ⟨hmn rfl,rfl⟩⟩);exact⟨_,c,r1,.d r2,h.2⟩
 ·rename_i aI;have hd:dt (Own σ s) w (.sl aI) ux:=mE hx rfl;have hlen:es.length=aI.length:=by simp only[iX,adp]at HI;rw[<- HI];simp
  have hu:∃a n cap,ux=.slice a n cap:=by cases hd <;> exact⟨_,_,_,rfl⟩
  obtain⟨a,n,cap,rfl⟩:=hu;have hn:n=aI.length/\aI.length<=cap:=by cases hd <;> simp_all
  obtain⟨c,_,_,_,r1,r2,_⟩:=data aI hd hlen (h.1.imp (by omega) id) cap (by omega) (λa' n' np he=>by cases he;exact⟨adB _,.inl ⟨hmn rfl,rfl⟩⟩);exact⟨_,c,r1,.d r2,h.2⟩
 ·rename_i aI m;obtain⟨h1,h2,h3,h⟩:=h;have hd:dt (Own σ s) w (.sl aI) ux:=mE hx rfl;have hlen:es.length=aI.length:=by simp only[iX,adp]at HI;rw[<- HI];simp
  obtain⟨cm,hcm,UG⟩:=hm m rfl;obtain⟨km,rfl⟩:=Cu UG h2;have X5:uh≠none:=by
   cases hi with
   |none=>simp at h1
   |some v=>obtain⟨c,rfl,_⟩:=hh v rfl;simp
  have hu:∃a n cap,ux=.slice a n cap:=by cases hd <;> exact⟨_,_,_,rfl⟩
  obtain⟨a,n,cap,rfl⟩:=hu;have hn:n=aI.length/\aI.length<=cap:=by cases hd <;> simp_all
  obtain⟨c,a',np,_,r1,r2,r3⟩:=data aI hd hlen (h3.imp (by omega) id) H (adB _) (λa' n' np he=>by cases he;exact⟨by omega,.inr ⟨X5,km,hcm⟩⟩);refine⟨_,c,r1,?_,h⟩;have x9:((aI.drop L).take (H-L)).length=H-L:=by simp;omega
  rw[r3]at r2 ⊢;have:aG σ s w (.fu ((aI.drop L).take (H-L))) (.slice (if H=L then a' else a'.map (·.add (L*z))) ((aI.drop L).take (H-L)).length ((aI.drop L).take (H-L)).length):=.fu (by rw[x9];exact r2);rw[x9]at this;exact this
 ·rename_i oid g PY n;obtain⟨o,ho,hg,TI,hK⟩:=ep h;clear h;cases hx with|so o' mo CP Q2 hk=>?_
  rw[ho]at mo;cases mo;have hn:es.length=n:=by
   simp only[iX,ho,hg]at HI;split at HI
   ·simp only[adp]at HI;rw[<- HI];simp;omega
   ·cases HI
  rcases hk hg with ⟨fW,⟨aa,rfl⟩,rfl,rfl⟩|⟨b,bs,cp,E,arr,eC,hhp,rfl,uA,hfit⟩
  ·obtain rfl:L=0:=by omega
   obtain rfl:H=0:=by omega
   have dJ:=w8 (P:=P) e1 e2 (a:=aa) (n:=0) (cap:=0) (lo:=ul) (hi':=uh) (mx:=um) (l:=0) (h:=0) (m:=0) MQ (U8.imp (λh=>⟨h.1,rfl⟩) id) (.inl ⟨hmn rfl,rfl⟩) (by omega) (by omega) (by omega) w;rw[ap (.inl rfl)]at hK;refine⟨_,_,dJ,?_,hK⟩;exact .so o ho CP (by simp [Value.oneCell']) (λ_=>.inl ⟨fW,⟨aa,by simp⟩,rfl,rfl⟩)
  ·have dJ:=w8 (P:=P) e1 e2 (a:=some ⟨b,bs+PY*o.sz,none⟩) (n:=n) (cap:=cp) (lo:=ul) (hi':=uh) (mx:=um) (l:=L) (h:=H) (m:=cp) MQ (U8.imp (λh=>⟨h.1,by omega⟩) id) (.inl ⟨hmn rfl,rfl⟩) (by omega) (by omega) (by omega) w;by_cases aH:(L:Int)=0\/(L:Int)<(H:Int)
   case neg =>
    rw[am aH]at hK;obtain rfl:H=L:=by omega
    refine⟨_,_,dJ,.d ?_,hK⟩;have Pl:∃a',(if cp=H then some (⟨b,bs+PY*o.sz,none⟩:Addr) else (some (⟨b,bs+PY*o.sz,none⟩:Addr)).map (·.add (H*ti.size)))=some a':=by split <;> exact⟨_,rfl⟩
    obtain⟨a',N0⟩:=Pl;rw[N0,Nat.sub_self];exact dt.sl [] a' _ 0 (λ_ _=>undef) (by simp) (by simp) (by simp) (by simp) (by simp)
   rw[ap aH]at hK;refine⟨_,_,dJ,?_,hK⟩;refine .so o ho CP (by simp [Value.oneCell']) (λ_=>.inr ⟨b,bs,cp-L,E,arr,eC,hhp,?_,by omega,?_⟩)
   ·rcases aH with h0|h0
    ·obtain rfl:L=0:=by omega
     simp [Addr.add]
    ·rw[am (by omega)];simp only[ad9];rw[fJ rfl,e3,TI,Nat.add_mul];simp [Nat.add_assoc]
   ·rw[show PY+L+(cp-L)=PY+cp by omega];exact hfit
 ·exact h.elim
def jO (P:Program) (t:TypeId) (x:V) (s:List Obj) (K:V->Prop):Prop :=
 match P.underlying t with
 |some (.slice _)=>match x with
  |.d (.sl aI)=>K (.d (.sc (.int .i64 aI.length)))
  |.fu aI=>K (.d (.sc (.int .i64 aI.length)))
  |.so id g _ n=>sh s id g λ_=>K (.d (.sc (.int .i64 n)))
  |_=>False
 |some .string=>match x with
  |.d (.sc (.string b))=>K (.d (.sc (.int .i64 b.size)))
  |_=>False
 |_=>False
theorem Ld{K:V->Prop} (hx:aG σ s w x ux) (h:jO P t x s K) :
  ∃v c,(Builtin.len_ #[t] ty #[ux]).run P w=.ok c w/\aG σ s w v c/\K v:=by
 unfold jO at h;split at h
 ·rename_i e hu;have fin:∀(a:Option Addr) (n cap:Nat),ux=.slice a n cap->K (.d (.sc (.int .i64 n)))->∃v c,(Builtin.len_ #[t] ty #[ux]).run P w=.ok c w/\aG σ s w v c/\K v:=by rintro a n cap rfl hk;exact⟨_,.int .i64 n,by simp [Builtin.len_,run_underlying hu,goInt],.d (.sc _ rfl),hk⟩
  split at h
  ·have hd:=mE hx rfl;cases hd <;> exact fin _ _ _ rfl h
  ·have hd:=mE hx rfl;cases hd <;> exact fin _ _ _ rfl h
  ·obtain⟨o,ho,hg,h⟩:=ep h;cases hx with|so o' mo CP Q2 hk=>?_
   rw[ho]at mo;cases mo;rcases hk hg with ⟨fW,⟨aa,rfl⟩,rfl,rfl⟩|⟨b,bs,cp,E,arr,eC,hhp,rfl,uA,hfit⟩
   ·exact fin _ _ _ rfl h
   ·exact fin _ _ _ rfl h
  ·exact h.elim
 ·rename_i hu;split at h
  ·cases hx with|d hx=>?_
   cases hx with|sc _ _=>?_
   exact⟨_,_,by simp [Builtin.len_,run_underlying hu,goInt],.d (.sc _ rfl),h⟩
  ·exact h.elim
 ·exact h.elim
open Go.ChangeMaps (setBlock)
variable{rest:List (List V)}{k:IntKind}{v:V}{a:Act}{t:TypeId}{P:Program}{id:Nat}{s:List Obj}{u:Value}{σ:Gh}{o:Oper}{w:World}{uk:Value}{m:V}{um:Value}{x:V}{ux:Value}{ns:List (List V)}{ty:TypeId}{u0:Value}{e0:V}{f:FuncId}{s':List Obj}{σ':Gh}{N:Nat}{args:List V}{i:Nat}{d:Option Nat}{M:Nat}{full:List Oper}{L:Nat}{ops:Array Oper}{c:Code}{ck:Nat}{ex:Exit}
def Fb (k:IntKind):List (List V)->Option (List (Int×Bool))
 |[]=>some []
 |[.d (.sc (.int k' n)),.d (.sc (.bool b))]::rest=>if k'=k then (Fb k rest).map ((n,b)::·) else none
 |_::_=>none
theorem Nq{a v:Value}{l:List (Int×Bool)} (h:Fb k ([V.d (.sc a),V.d (.sc v)]::rest)=some l):∃n b l',a=.int k n/\v=.bool b/\l=(n,b)::l'/\Fb k rest=some l':=by
 unfold Fb at h;split at h
 ·rename_i he;cases he
 ·rename_i k' n b WZ he;simp only[List.cons.injEq,V.d.injEq,D.sc.injEq,and_true]at he;obtain⟨⟨rfl,rfl⟩,rfl⟩:=he;split at h
  ·rename_i hk;subst hk;obtain⟨l',h1,h2⟩:=Option.map_eq_some_iff.1 h;exact⟨n,b,l',rfl,rfl,h2.symm,h1⟩
  ·cases h
 ·cases h
def DN (l:List (Int×Bool)) (n:Int):Option Bool:=(l.find? λp=>n == p.1).map (·.2)
def E7 (P:Program) (t:TypeId):Option IntKind :=
 match P.underlying t with
 |some (.map key elem)=>match P.underlying key,(P.info? elem).bind (·.zero) with
  |some (.int k),some (.bool false)=>some k
  |_,_=>none
 |_=>none
theorem Az (h:E7 P t=some k):∃key elem ti,P.underlying t=some (.map key elem)/\P.underlying key=some (.int k)/\P.info? elem=some ti/\ti.zero=some (.bool false):=by
 unfold E7 at h;split at h
 ·rename_i key elem hu;split at h
  ·rename_i k' h1 h2;cases h;obtain⟨ti,h3,h4⟩:=Option.bind_eq_some_iff.1 h2;exact⟨key,elem,ti,hu,h1,h3,h4⟩
  ·cases h
 ·cases h
theorem rk {k k0:IntKind}{n:Int}:∀(es:List MapEntry) (l:List (Int×Bool)) (i:Nat),Fb k (es.map λe=>[V.d (.sc e.key),V.d (.sc e.val)])=some l ->
  (DN l n=none/\Instr.findNow (.int k0) (.int k n) es i=some none)\/∃b j,DN l n=some b/\Instr.findNow (.int k0) (.int k n) es i=some (some (j,.bool b))
 |[],l,i,h=>by simp only[adP,Fb,adp]at h;subst h;exact .inl ⟨rfl,rfl⟩
 |e::es,l,i,h=>by
  rw[adG]at h;obtain⟨m,b,l',h1,h2,rfl,h4⟩:=Nq h;unfold Instr.findNow;rw[h1];simp only[Instr.sameNow,if_true];by_cases Tm:n=m
  ·subst Tm;refine .inr ⟨b,i,by simp [DN],?_⟩;simp [h2]
  ·have hb:(n == m)=false:=by simpa using Tm
   rw[hb];simp only;have hg:DN ((m,b)::l') n=DN l' n:=by simp [DN,hb]
   rw[hg];exact rk es l' (i+1) h4
theorem run_checkKey (hu:P.underlying t=some (.int k)) (b:Bool) (n:Int) (w:World):(Instr.checkKey b 10000 t (.int k n)).run P w=.ok () w:=by
 have h:∀d:Nat,(Instr.checkKey b (d+1) t (.int k n)).run P w=.ok () w:=λd=>by simp [Instr.checkKey,run_underlying hu]
 exact h 9999
theorem yQ (hI:Inv σ s w) {g:Nat}{o:Obj} (hm:aG σ s w (.mp id g) u) (ho:s[id]?=some o) (hg:o.g=g) :
  ∃b es c,σ id=some (b,0)/\w.heap[b]?=some (.map es c)/\o.aI=kI es/\u=.map (some b):=by
 cases hm with
 |mp o' mo CP hu hk =>
  rw[ho]at mo;cases mo;obtain⟨b,h1,hM,h2⟩:=hk hg;rcases hI.content _ o ho with (⟨h3,_⟩|⟨b',es,c,h3,h4,h5⟩)|⟨b',base,arr,E,h3,h4,_⟩
  ·rw[h1]at h3;cases h3
  ·rw[h1]at h3;cases h3;exact⟨b,es,c,h1,h4,h5,h2⟩
  ·rw[h1]at h3;cases h3;exact(HP.notM ⟨arr,E,h4⟩ hM).elim
def xC (k:IntKind):List (List V)->Option (List (Int×Fn))
 |[]=>some []
 |[.d (.sc (.int k' n)),.d (.sc (.func fn ⟨[]⟩ ⟨[]⟩))]::rest=>if k'=k then (xC k rest).map ((n,fn)::·) else none
 |_::_=>none
theorem MJ{a v:Value}{l:List (Int×Fn)} (h:xC k ([V.d (.sc a),V.d (.sc v)]::rest)=some l):∃n fn l',a=.int k n/\v=.func fn #[] #[]/\l=(n,fn)::l'/\xC k rest=some l':=by
 unfold xC at h;split at h
 ·rename_i he;cases he
 ·rename_i k' n b WZ he;simp only[List.cons.injEq,V.d.injEq,D.sc.injEq,and_true]at he;obtain⟨⟨rfl,rfl⟩,rfl⟩:=he;split at h
  ·rename_i hk;subst hk;obtain⟨l',h1,h2⟩:=Option.map_eq_some_iff.1 h;exact⟨n,b,l',rfl,rfl,h2.symm,h1⟩
  ·cases h
 ·cases h
def xI (l:List (Int×Fn)) (n:Int):Option Fn:=(l.find? λp=>n == p.1).map (·.2)
def zO (P:Program) (t:TypeId):Option IntKind :=
 match P.underlying t with
 |some (.map key elem)=>match P.underlying key,(P.info? elem).bind (·.zero) with
  |some (.int k),some .nilFunc=>some k
  |_,_=>none
 |_=>none
theorem xJ (h:zO P t=some k):∃key elem,P.underlying t=some (.map key elem)/\P.underlying key=some (.int k):=by
 unfold zO at h;split at h
 ·rename_i key elem hu;split at h
  ·rename_i k' h1 h2;cases h;exact⟨key,elem,hu,h1⟩
  ·cases h
 ·cases h
theorem qf {k k0:IntKind}{n:Int}:∀(es:List MapEntry) (l:List (Int×Fn)) (i:Nat),xC k (es.map λe=>[V.d (.sc e.key),V.d (.sc e.val)])=some l ->
  (xI l n=none/\Instr.findNow (.int k0) (.int k n) es i=some none)\/∃b j,xI l n=some b/\Instr.findNow (.int k0) (.int k n) es i=some (some (j,.func b #[] #[]))
 |[],l,i,h=>by simp only[adP,xC,adp]at h;subst h;exact .inl ⟨rfl,rfl⟩
 |e::es,l,i,h=>by
  rw[adG]at h;obtain⟨m,b,l',h1,h2,rfl,h4⟩:=MJ h;unfold Instr.findNow;rw[h1];simp only[Instr.sameNow,if_true];by_cases Tm:n=m
  ·subst Tm;refine .inr ⟨b,i,by simp [xI],?_⟩;simp [h2]
  ·have hb:(n == m)=false:=by simpa using Tm
   rw[hb];simp only;have hg:xI ((m,b)::l') n=xI l' n:=by simp [xI,hb]
   rw[hg];exact qf es l' (i+1) h4
def nM (P:Program) (t:TypeId) (s:List Obj) (m k:V) (K:V->Prop):Prop :=
 match zO P t with
 |none=>False
 |some ik=>match m with
  |.mp id g=>match k with
   |.d (.sc (.int k' n))=>sh s id g λo=>k'=ik/\match (xC ik o.aI).bind λl=>xI l n with
    |none=>False
    |some fn=>K (.cl fn [] [])
   |_=>False
  |_=>False
theorem GD{k:V}{K:V->Prop} (hI:Inv σ s w) (hm:aG σ s w m um) (hk:aG σ s w k uk) (h:nM P t s m k K) :
  ∃v c,(Instr.lookup t um uk false).run P w=.ok c w/\aG σ s w v c/\K v:=by
 unfold nM at h;split at h
 ·exact h.elim
 rename_i ik MW;obtain⟨key,elem,t1,t2⟩:=xJ MW;split at h
 case h_2=>exact h.elim
 rename_i id g;split at h
 case h_2=>exact h.elim
 rename_i k' n;obtain⟨o,ho,hg,rfl,h⟩:=ep h;split at h
 ·exact h.elim
 rename_i fn W6;obtain⟨l,hl,So⟩:=Option.bind_eq_some_iff.1 W6;obtain⟨b,es,c,h1,h2,h3,rfl⟩:=yQ hI hm ho hg;cases hk with|d hk=>?_
 cases hk with|sc _ _=>?_
 rw[h3]at hl;refine⟨_,.func fn #[] #[],?_,.cl rfl (λi x hx=>by simp at hx) rfl (λi x hx=>by simp at hx),h⟩;rcases qf (k0:=k') (n:=n) es.toList l 0 hl with ⟨g1,g2⟩|⟨b',j,g1,g2⟩
 ·rw[So]at g1;cases g1
 ·rw[So]at g1;cases g1;simp [Instr.lookup,run_underlying t1,run_underlying t2,MapKept.run_getObj_map h2,run_checkKey t2,Instr.findKey,g2]
def yX (P:Program) (t:TypeId) (s:List Obj) (m k x:V) (K:List Obj->Prop):Prop :=
 match zO P t with
 |none=>False
 |some ik=>match m with
  |.mp id g=>match k with
   |.d (.sc (.int k' n))=>match x with
    |.cl fn [] []=>sh s id g λo=>(o.live=true/\k'=ik)/\match xC ik o.aI with
     |none=>False
     |some l=>xI l n=none/\K (s.set id { o with aI:=o.aI++[[.d (.sc (.int k' n)),.d (.sc (.func fn ⟨[]⟩ ⟨[]⟩))]] })
    |_=>False
   |_=>False
  |_=>False
theorem H6{k:V}{K:List Obj->Prop} (hI:Inv σ s w) (hm:aG σ s w m um) (hk:aG σ s w k uk) (hx:aG σ s w x ux) (h:yX P t s m k x K) :
  ∃s' w',(Instr.mapUpdate t um uk ux).run P w=.ok () w'/\aW σ s w σ s' w'/\Inv σ s' w'/\K s':=by
 unfold yX at h;split at h
 ·exact h.elim
 rename_i ik MW;obtain⟨key,elem,t1,t2⟩:=xJ MW;split at h
 case h_2=>exact h.elim
 rename_i id g;split at h
 case h_2=>exact h.elim
 rename_i k' n;split at h
 case h_2=>exact h.elim
 rename_i fn;obtain⟨o,ho,hg,⟨qX,rfl⟩,h⟩:=ep h;split at h
 ·exact h.elim
 rename_i l hl;obtain⟨hn,h⟩:=h;obtain⟨b,es,c,h1,h2,h3,rfl⟩:=yQ hI hm ho hg;cases hk with|d hk=>?_
 cases hk with|sc _ _=>?_
 cases hx with|@cl _ _ _ f' c' q1 _ q2 _=>?_
 obtain rfl:f'=#[]:=Array.eq_empty_of_size_eq_zero (by simpa using q1);obtain rfl:c'=#[]:=Array.eq_empty_of_size_eq_zero (by simpa using q2);rw[h3]at hl;have W6:Instr.findNow (.int k') (.int k' n) es.toList 0=some none:=by
  rcases qf (k0:=k') (n:=n) es.toList l 0 hl with ⟨g1,g2⟩|⟨b',j,g1,g2⟩
  ·exact g2
  ·rw[hn]at g1;cases g1
 have cC:(setObj b (.map (es.push { key:=.int k' n,val:=.func fn #[] #[],born:=c }) (c+1))).run P w=.ok () (setBlock w b (.map (es.push { key:=.int k' n,val:=.func fn #[] #[],born:=c }) (c+1))):=by simp [setObj,Sem.run,h2,setBlock]
 have dJ:(Instr.mapUpdate t (.map (some b)) (.int k' n) (.func fn #[] #[])).run P w=.ok () (setBlock w b (.map (es.push { key:=.int k' n,val:=.func fn #[] #[],born:=c }) (c+1))):=by simp [Instr.mapUpdate,run_underlying t1,run_underlying t2,MapKept.run_getObj_map h2,run_checkKey t2,Instr.findKey,W6,cC]
 have:=la (p:=σ id) (w':=setBlock w b (.map (es.push { key:=.int k' n,val:=.func fn #[] #[],born:=c }) (c+1))) (o':={ o with aI:=o.aI++[[.d (.sc (.int k' n)),.d (.sc (.func fn ⟨[]⟩ ⟨[]⟩))]] }) hI ho qX rfl rfl rfl (by simp [setBlock])
  (λb1 _ fG=>Go.ChangeMaps.heap_setBlock_other h2 _ (λe=>fG 0 (by rw[h1,e])))
  (λb1 jk arr E he hh=>by
   rw[h1]at he;cases he;rw[h2]at hh;cases hh)
  (λb1 jk he hm=>by
   rw[h1]at he;cases he;exact⟨_,_,Go.ChangeMaps.heap_setBlock_same h2 _⟩)
  (adB _) (λ_=>⟨rfl,rfl⟩) (λb1 jk he=>.inl ⟨jk,he⟩)
  (λhE=>.inl (.inr ⟨b,_,_,h1,Go.ChangeMaps.heap_setBlock_same h2 _,by simp [h3,kI]⟩))
 rw[sB]at this;exact⟨_,_,dJ,this.1,this.2,h⟩
def il (P:Program) (t:TypeId) (s:List Obj) (m k:V) (K:V->Prop):Prop :=
 match E7 P t with
 |none=>nM P t s m k K
 |some ik=>match m with
  |.mp id g=>match k with
   |.d (.sc (.int k' n))=>sh s id g λo=>k'=ik/\match Fb ik o.aI with
    |none=>False
    |some l=>K (.d (.sc (.bool ((DN l n).getD false))))
   |_=>False
  |_=>False
theorem D0{k:V}{K:V->Prop} (hI:Inv σ s w) (hm:aG σ s w m um) (hk:aG σ s w k uk) (h:il P t s m k K) :
  ∃v c,(Instr.lookup t um uk false).run P w=.ok c w/\aG σ s w v c/\K v:=by
 unfold il at h;split at h
 ·exact GD hI hm hk h
 rename_i ik MW;obtain⟨key,elem,ti,t1,t2,t3,t4⟩:=Az MW;split at h
 case h_2=>exact h.elim
 rename_i id g;split at h
 case h_2=>exact h.elim
 rename_i k' n;obtain⟨o,ho,hg,rfl,h⟩:=ep h;split at h
 ·exact h.elim
 rename_i l hl;obtain⟨b,es,c,h1,h2,h3,rfl⟩:=yQ hI hm ho hg;cases hk with|d hk=>?_
 cases hk with|sc _ _=>?_
 rw[h3]at hl;refine⟨_,.bool ((DN l n).getD false),?_,.d (.sc _ rfl),h⟩;rcases rk (k0:=k') (n:=n) es.toList l 0 hl with ⟨g1,g2⟩|⟨b',j,g1,g2⟩
 ·simp [Instr.lookup,run_underlying t1,run_underlying t2,MapKept.run_getObj_map h2,run_checkKey t2,Instr.findKey,g1,g2,zeroValue,typeInfo,t3,t4]
 ·simp [Instr.lookup,run_underlying t1,run_underlying t2,MapKept.run_getObj_map h2,run_checkKey t2,Instr.findKey,g1,g2]
def tt (P:Program) (t:TypeId) (s:List Obj) (m k x:V) (K:List Obj->Prop):Prop :=
 match E7 P t with
 |none=>yX P t s m k x K
 |some ik=>match m with
  |.mp id g=>match k with
   |.d (.sc (.int k' n))=>match x with
    |.d (.sc (.bool b))=>sh s id g λo=>(o.live=true/\k'=ik)/\match Fb ik o.aI with
     |none=>False
     |some l=>DN l n=none/\K (s.set id { o with aI:=o.aI++[[.d (.sc (.int k' n)),.d (.sc (.bool b))]] })
    |_=>False
   |_=>False
  |_=>False
theorem BH{k:V}{K:List Obj->Prop} (hI:Inv σ s w) (hm:aG σ s w m um) (hk:aG σ s w k uk) (hx:aG σ s w x ux) (h:tt P t s m k x K) :
  ∃s' w',(Instr.mapUpdate t um uk ux).run P w=.ok () w'/\aW σ s w σ s' w'/\Inv σ s' w'/\K s':=by
 unfold tt at h;split at h
 ·exact H6 hI hm hk hx h
 rename_i ik MW;obtain⟨key,elem,ti,t1,t2,t3,t4⟩:=Az MW;split at h
 case h_2=>exact h.elim
 rename_i id g;split at h
 case h_2=>exact h.elim
 rename_i k' n;split at h
 case h_2=>exact h.elim
 rename_i bv;obtain⟨o,ho,hg,⟨qX,rfl⟩,h⟩:=ep h;split at h
 ·exact h.elim
 rename_i l hl;obtain⟨hn,h⟩:=h;obtain⟨b,es,c,h1,h2,h3,rfl⟩:=yQ hI hm ho hg;cases hk with|d hk=>?_
 cases hk with|sc _ _=>?_
 cases hx with|d hx=>?_
 cases hx with|sc _ _=>?_
 rw[h3]at hl;have W6:Instr.findNow (.int k') (.int k' n) es.toList 0=some none:=by
  rcases rk (k0:=k') (n:=n) es.toList l 0 hl with ⟨g1,g2⟩|⟨b',j,g1,g2⟩
  ·exact g2
  ·rw[hn]at g1;cases g1
 have cC:(setObj b (.map (es.push { key:=.int k' n,val:=.bool bv,born:=c }) (c+1))).run P w=.ok () (setBlock w b (.map (es.push { key:=.int k' n,val:=.bool bv,born:=c }) (c+1))):=by simp [setObj,Sem.run,h2,setBlock]
 have dJ:(Instr.mapUpdate t (.map (some b)) (.int k' n) (.bool bv)).run P w=.ok () (setBlock w b (.map (es.push { key:=.int k' n,val:=.bool bv,born:=c }) (c+1))):=by simp [Instr.mapUpdate,run_underlying t1,run_underlying t2,MapKept.run_getObj_map h2,run_checkKey t2,Instr.findKey,W6,cC]
 have:=la (p:=σ id) (w':=setBlock w b (.map (es.push { key:=.int k' n,val:=.bool bv,born:=c }) (c+1))) (o':={ o with aI:=o.aI++[[.d (.sc (.int k' n)),.d (.sc (.bool bv))]] }) hI ho qX rfl rfl rfl (by simp [setBlock])
  (λb1 _ fG=>Go.ChangeMaps.heap_setBlock_other h2 _ (λe=>fG 0 (by rw[h1,e])))
  (λb1 jk arr E he hh=>by
   rw[h1]at he;cases he;rw[h2]at hh;cases hh)
  (λb1 jk he hm=>by
   rw[h1]at he;cases he;exact⟨_,_,Go.ChangeMaps.heap_setBlock_same h2 _⟩)
  (adB _) (λ_=>⟨rfl,rfl⟩) (λb1 jk he=>.inl ⟨jk,he⟩)
  (λhE=>.inl (.inr ⟨b,_,_,h1,Go.ChangeMaps.heap_setBlock_same h2 _,by simp [h3,kI]⟩))
 rw[sB]at this;exact⟨_,_,dJ,this.1,this.2,h⟩
def my (P:Program) (t:TypeId) (r:Option Operand) (s:List Obj) (K:V->List Obj->Prop):Prop :=
 r=none/\K (.mp s.length 0) (s++[⟨0,true,2,[]⟩])
theorem Bq{r:Option Operand}{K:V->List Obj->Prop} (hI:Inv σ s w) (h:my P t r s K) :
  ∃v c σ' s' w',(Instr.makeMap t none).run P w=.ok c w'/\aW σ s w σ' s' w'/\Inv σ' s' w'/\aG σ' s' w' v c/\K v s':=by
 have:=lE (p:=some (w.heap.size,0)) (o':=⟨0,true,2,[]⟩) (w':=w.alloc (.map #[] 0)) hI rfl rfl rfl (by simp) (λb hb=>Go.RowKit.Below.heap_alloc w _ b hb) (λb base h=>by cases h;exact adB _)
  (λhE=>.inl (.inr ⟨w.heap.size,#[],0,rfl,heap_alloc_new w _,rfl⟩))
 refine⟨_,.map (some w.heap.size),_,_,_,?_,this.1,this.2,.mp ⟨0,true,2,[]⟩ (by simp) (adB _) rfl (λ_=>⟨w.heap.size,cg _ _ _,⟨_,_,heap_alloc_new w _⟩,rfl⟩),h.2⟩;simp [Instr.makeMap]
def fX (es:List (List V)) (lo:Nat) (ns:List (List V)):List (List V):=es.take lo++ns++es.drop (lo+ns.length)
theorem x7 (es:List (List V)) (lo:Nat) (ns:List (List V)) (h:lo+ns.length<=es.length) (j:Nat) :
  (fX es lo ns)[j]?=if lo<=j/\j<lo+ns.length then ns[j-lo]? else es[j]?:=by
 have hl:(es.take lo).length=lo:=by simp;omega
 unfold fX;by_cases h1:j<lo
 ·rw[am (by omega),adX,adM (by omega),ad1,ap h1]
 ·by_cases h2:j<lo+ns.length
  ·rw[ap (by omega),adX,adN (by omega),hl,adM (by omega)]
  ·rw[am (by omega),adN (by simp;omega),List.getElem?_drop];congr 1;simp;omega
theorem A5 (es:List (List V)) (lo:Nat) (ns:List (List V)) (h:lo+ns.length<=es.length):(fX es lo ns).length=es.length:=by simp [fX];omega
theorem B5 (hI:Inv σ s w){o:Obj} (ho:s[id]?=some o) (hl:o.live=true) {lo:Nat} (hfit:lo+ns.length<=o.aI.length) (hz:∀e∈ns,e.length=o.sz)
  {b base:Nat} (hs:σ id=some (b,base)) (hC:HP w b) {us:List Value} (Xc:us.length=ns.length*o.sz)
  (hrep:∀(i j:Nat) (y:V),(ns[i]?.bind (·[j]?))=some y->∃c,us[i*o.sz+j]?=some c/\c.oneCell'=true/\aG σ s w y c) (UK:∀u∈us,u.oneCell'=true) (P:Program) :
  ∃w',(storeCells ⟨b,base+lo*o.sz,none⟩ us).run P w=.ok () w'/\aW σ s w σ (s.set id { o with aI:=fX o.aI lo ns }) w' /\
   Inv σ (s.set id { o with aI:=fX o.aI lo ns }) w':=by
 rcases hI.content _ o ho with h1|⟨b',cr,arr,E,h1,h2,h3,h4,h5⟩
 ·exact(h1.CW hs hC).elim
 rw[hs]at h1;cases h1;have XS:lo*o.sz+ns.length*o.sz<=o.aI.length*o.sz:=by rw[<- Nat.add_mul];exact aeb _ hfit
 have dJ:=run_storeCells_at P b (base+lo*o.sz) E us 0 arr w h2 (by rw[Xc];omega) UK;simp only[Nat.add_zero]at dJ;generalize nr:(arr.toList.take (base+lo*o.sz)++us++arr.toList.drop (base+lo*o.sz+us.length)).toArray=cH at dJ;have iA:cH.size=arr.size:=by rw[<- nr];simp;omega
 have kK:∀p,cH[p]?=if base+lo*o.sz<=p/\p<base+lo*o.sz+us.length then us[p-(base+lo*o.sz)]? else arr[p]?:=by
  intro p;have hl:(arr.toList.take (base+lo*o.sz)).length=base+lo*o.sz:=by simp;omega
  rw[<- nr,List.getElem?_toArray];by_cases g1:p<base+lo*o.sz
  ·rw[am (by omega),adX,adM (by omega),ad1,ap g1,aed]
  ·by_cases g2:p<base+lo*o.sz+us.length
   ·rw[ap (by omega),adX,adN (by omega),hl,adM (by omega)]
   ·rw[am (by omega),adN (by simp;omega),List.getElem?_drop,aed];congr 1;simp;omega
 refine⟨_,dJ,?_⟩;have:=la (p:=σ id) (w':=w.setRow b cH) (o':={ o with aI:=fX o.aI lo ns }) hI ho hl rfl rfl rfl (by simp)
  (λb1 _ fG=>setRow_other w b b1 cH (λe=>fG base (by rw[hs,e])))
  (λb1 jk TY E1 he hh=>by
   rw[hs]at he;cases he;rw[h2]at hh;cases hh;exact⟨cH,setRow_heap w b arr cH E (0,0) h2,iA⟩)
  (λb1 jk he hm=>by
   rw[hs]at he;cases he;exact(hC.notM hm).elim)
  (adB _) (λ_=>⟨rfl,rfl⟩) (λb1 jk he=>.inl ⟨jk,he⟩)
  (λhE=>.inr ⟨b,base,cH,E,hs,setRow_heap w b arr cH E (0,0) h2,(by
   intro e he;simp only at he;unfold fX at he;rcases List.mem_append.1 he with he|he
   ·rcases List.mem_append.1 he with he|he
    ·exact h3 e (List.mem_of_mem_take he)
    ·exact hz e he
   ·exact h3 e (List.mem_of_mem_drop he)),(by simp only[A5 _ _ _ hfit];omega),(by
   intro i j x hx;simp only at hx ⊢;rw[sB]at hE ⊢;rw[x7 _ _ _ hfit]at hx;split at hx
   ·rename_i tD;obtain⟨c,k1,k2,k3⟩:=hrep _ j x hx;refine⟨c,?_,k2,k3.bF hE⟩;have aH:=(List.getElem?_eq_some_iff.1 k1).1;have hmul:i*o.sz=lo*o.sz+(i-lo)*o.sz:=by rw[<- Nat.add_mul];congr 1;omega
    rw[kK,ap (by omega),<- k1];congr 1;omega
   ·rename_i tD;obtain⟨c,k1,k2,k3⟩:=h5 i j x hx;refine⟨c,?_,k2,k3.bF hE⟩;rw[kK,am ?_]
    ·exact k1
    ·have Xj:j<o.sz:=by
      cases he:o.aI[i]? with
      |none=>rw[he]at hx;cases hx
      |some e =>
       rw[he]at hx;have:=(List.getElem?_eq_some_iff.1 hx).1;rw[h3 e (adw he)]at this;exact this
     rw[Xc];rcases adV i lo with aH|iP
     ·have:=aeb o.sz (show i+1<=lo from aH);rw[Nat.add_mul,Nat.one_mul]at this;omega
     ·have:=aeb o.sz (show lo+ns.length<=i by omega);rw[Nat.add_mul]at this;omega)⟩)
 rw[sB]at this;exact this
def rD (P:Program) (t:TypeId) (a x:V) (s:List Obj) (K:V->List Obj->Prop):Prop :=
 match lS P t with
 |none=>False
 |some (_,i)=>match iX s x with
  |none=>False
  |some ns=>(∀e∈ns,e.length=i.sz)/\match a with
   |.so id g lo n=>sh s id g λo=>(o.live=true/\o.sz=i.sz/\lo+n<=o.aI.length/\ns.length<=n)/\K (.d (.sc (.int .i64 ns.length))) (s.set id { o with aI:=fX o.aI lo ns })
   |_=>False
theorem UF{e:TypeId}{z:Nat} (hu:P.underlying t=some (.slice e)) (hI:Inv σ s w) (hx:aG σ s w x ux) (xA:iX s x=some ns) (hz:∀e∈ns,e.length=z) :
  ∃news,Src P z t ux ns.length news w/\∀(i j:Nat) (y:V),(ns[i]?.bind (·[j]?))=some y->∃c,news[i*z+j]?=some c/\c.oneCell'=true/\aG σ s w y c:=by
 obtain⟨ax,yj,rfl,Eg,VJ,news,n1,n2,n3,n4⟩:=kM hI hx xA hz;refine⟨news,?_,n4⟩;cases ax with
 |none =>
  have:ns=[]:=Eg rfl;subst this;have hn:news=[]:=adJ (by simpa using n1);subst hn;exact Src.ofNil w hu yj
 |some ad=>exact Src.ofSlice w hu ad ns.length yj news n1 (n3 ad rfl) n2
theorem zm (es:List (List V)) (lo:Nat):fX es lo []=es:=by simp [fX]
theorem Jn{a:V}{ua:Value}{K:V->List Obj->Prop} (hI:Inv σ s w) (ha:aG σ s w a ua) (hx:aG σ s w x ux)
  (h:rD P t a x s K):∃v r s' w',(Builtin.copy_ #[t,t] ty #[ua,ux]).run P w=.ok r w'/\aW σ s w σ s' w'/\Inv σ s' w'/\aG σ s' w' v r/\K v s':=by
 unfold rD at h;split at h
 ·exact h.elim
 rename_i e i Nw;obtain⟨hu,hi⟩:=mA Nw;split at h
 ·exact h.elim
 rename_i ns xA;obtain⟨hz,h⟩:=h;obtain⟨ti,d,z,k1,k2,k3,k4,k5,k6,k7,k8,k9⟩:=iC hi;obtain⟨news,tP,n4⟩:=UF hu hI hx xA hz;split at h
 case h_2=>exact h.elim
 rename_i id g lo n;obtain⟨o,ho,hg,⟨hl,gf,hfit,hle⟩,hK⟩:=ep h;have oo:Nat.min ns.length n=ns.length:=Nat.min_eq_left hle;have lT:=tP.cells;cases ha with|so o' mo CP Q2 hk=>?_
 rw[ho]at mo;cases mo;rcases hk hg with ⟨hs,⟨ad,rfl⟩,rfl,rfl⟩|⟨b,base,cap,E,arr,hs,hh,rfl,fS,hbd⟩
 ·have hn:ns=[]:=adJ (by omega);subst hn;have WQ:news=[]:=adJ (by simpa using tP.newsLen);subst WQ;have cC:s.set id { o with aI:=fX o.aI 0 [] }=s:=by
   rw[zm];apply List.ext_getElem?;intro k;by_cases hk:k=id
   ·subst hk;rw[List.getElem?_set_self (List.getElem?_eq_some_iff.1 ho).1,ho]
   ·rw[List.getElem?_set_ne (Ne.symm hk)]
  rw[cC]at hK;refine⟨_,.int .i64 0,s,w,?_,aW.refl _ _ _,hI,.d (.sc _ rfl),hK⟩;have hlen:=tP.len w;simp only[adF]at hlen lT;cases ad <;> simp [Builtin.copy_,run_underlying hu,sizeOf,typeInfo,k1,k4,hlen,lT,goInt,storeCells]
 ·obtain⟨w',r1,r2,r3⟩:=B5 hI ho hl (lo:=lo) (ns:=ns) (by omega) (by rw[gf];exact hz) hs ⟨arr,E,hh⟩ (us:=news) (by rw[gf];exact tP.newsLen) (by rw[gf];exact n4) tP.one P;refine⟨_,.int .i64 ns.length,_,w',?_,r2,r3,.d (.sc _ rfl),hK⟩;have hlen:=tP.len w;simp [Builtin.copy_,run_underlying hu,sizeOf,typeInfo,k1,k4,hlen,oo,lT,goInt,r1]
def kX (P:Program) (t:TypeId) (x:V) (s:List Obj) (K:V->List Obj->Prop):Prop :=
 match lS P t with
 |none=>False
 |some (_,i)=>match x with
  |.so id g lo n=>sh s id g λo=>(o.live=true/\o.sz=i.sz/\lo+n<=o.aI.length)/\K (.tu []) (s.set id { o with aI:=fX o.aI lo (List.replicate n (i.zero.map cv)) })
  |.d (.sl [])=>K (.tu []) s
  |_=>False
theorem Ek{o:Obj} (ho:s[id]?=some o):s.set id o=s:=by
 apply List.ext_getElem?;intro k;by_cases hk:k=id
 ·subst hk;rw[List.getElem?_set_self (List.getElem?_eq_some_iff.1 ho).1,ho]
 ·rw[List.getElem?_set_ne (Ne.symm hk)]
theorem G4{K:V->List Obj->Prop} (hI:Inv σ s w) (hx:aG σ s w x ux)
  (h:kX P t x s K):∃v r s' w',(Builtin.clear_ #[t] ty #[ux]).run P w=.ok r w'/\aW σ s w σ s' w'/\Inv σ s' w'/\aG σ s' w' v r/\K v s':=by
 unfold kX at h;split at h
 ·exact h.elim
 rename_i e i Nw;obtain⟨hu,hi⟩:=mA Nw;split at h
 case h_3=>exact h.elim
 case h_2 =>
  refine⟨_,.tuple #[],s,w,?_,aW.refl _ _ _,hI,.tu rfl (λi x hx=>by simp at hx),h⟩;cases hx with|d hd=>?_
  cases hd with
  |nil=>simp [Builtin.clear_,run_underlying hu]
  |sl _ ad _ sz f h1 h2 h3 h4 h5=>simp [Builtin.clear_,run_underlying hu]
 rename_i id g lo n;obtain⟨o,ho,hg,⟨hl,gf,hfit⟩,hK⟩:=ep h;obtain⟨ti,d,z,k1,k2,k3,k4,k5,k6,k7,k8,k9⟩:=iC hi;have hz:∀w,(zeroValue e).run P w=.ok z w:=λw=>by simp [zeroValue,typeInfo,k1,k3]
 have ZM:∀(s':List Obj) (w':World),aG σ s' w' (.tu []) (.tuple #[]):=λs' w'=>.tu rfl (λi x hx=>by simp at hx);have zero:n=0->∃v r s' w',(Result.ok (Value.tuple #[]) w:Result Value)=.ok r w'/\aW σ s w σ s' w'/\Inv σ s' w'/\aG σ s' w' v r/\K v s':=by rintro rfl;refine⟨_,_,s,w,rfl,aW.refl _ _ _,hI,ZM _ _,?_⟩;rw[List.replicate_zero,zm,Ek ho]at hK;exact hK
 cases hx with|so o' mo CP Q2 hk=>?_
 rw[ho]at mo;cases mo;rcases hk hg with ⟨hs,⟨ad,rfl⟩,rfl,rfl⟩|⟨b,base,cap,E,arr,hs,hh,rfl,fS,hbd⟩
 ·obtain⟨v,r,s',w',e1,e2⟩:=zero rfl;refine⟨v,r,s',w',?_,e2⟩;rw[<- e1];cases ad <;> simp [Builtin.clear_,run_underlying hu]
 ·rcases Nat.eq_zero_or_pos n with h0|h0
  ·obtain⟨v,r,s',w',e1,e2⟩:=zero h0;refine⟨v,r,s',w',?_,e2⟩;rw[<- e1];subst h0;simp [Builtin.clear_,run_underlying hu]
  ·have Uu:z.cells.size=i.sz:=by rw[<- Array.length_toList,k6,k7]
   have hzc:Builtin.zeroCells z.cells n=(Array.range (n*i.sz)).map (z.cells[· % z.cells.size]!):=by unfold Builtin.zeroCells;rw[<- Uu]
   have Yk:=C0 hi σ s w n z k6;obtain⟨r1,r2,r3⟩:=Yk;obtain⟨w',q1,q2,q3⟩:=B5 hI ho hl (lo:=lo) (ns:=List.replicate n (i.zero.map cv)) (by rw[List.length_replicate];omega) (λe he=>by rw[List.eq_of_mem_replicate he,ado,gf,k7]) hs ⟨arr,E,hh⟩ (us:=(Builtin.zeroCells z.cells n).toList)
    (by rw[List.length_replicate,gf,Array.length_toList,size_zeroCells,Uu])
    (λa j y hy=>by
     rw[gf];obtain⟨c,c1,c2,c3⟩:=r3 a j y hy;refine⟨c,?_,c2,c3⟩;rw[aed,hzc];exact c1)
    (λu hu=>by
     rw[hzc,Array.toList_map,adQ]at hu;obtain⟨k,hk,rfl⟩:=hu;have uB:k<n*i.sz:=by simpa using hk
     have hp:0<z.cells.size:=by
      rw[Uu];rcases Nat.eq_zero_or_pos i.sz with h'|h'
      ·rw[h']at uB;simp at uB
      ·exact h'
     have hm:=Nat.mod_lt k hp;have kK:z.cells[k % z.cells.size]! = z.cells[k % z.cells.size]:=by simp [hm]
     rw[kK];exact k8 _ (by rw[<- k6];exact Array.getElem_mem_toList hm)) P
   refine⟨_,_,_,w',?_,q2,q3,ZM _ _,hK⟩;obtain⟨m,rfl⟩:∃m,n=m+1:=⟨n-1,by omega⟩
   simp [Builtin.clear_,run_underlying hu,hz,q1]
def fk (op:BinOp) (k:IntKind) (a b:Int):Int :=
 k.wrap (match op with
  |.and=>(BitVec.ofInt k.bits a &&& BitVec.ofInt k.bits b).toNat
  |.or=>(BitVec.ofInt k.bits a ||| BitVec.ofInt k.bits b).toNat
  |.xor=>(BitVec.ofInt k.bits a ^^^ BitVec.ofInt k.bits b).toNat
  |_=>(BitVec.ofInt k.bits a &&& ~~~BitVec.ofInt k.bits b).toNat)
def eQ (op:BinOp) (k:IntKind) (a b:Int) (K:V->Prop):Prop :=
 match op with
 |.add=>K (.d (.sc (.int k (k.wrap (a+b)))))
 |.sub=>K (.d (.sc (.int k (k.wrap (a-b)))))
 |.mul=>K (.d (.sc (.int k (k.wrap (a*b)))))
 |.quo=>b≠0/\K (.d (.sc (.int k (k.wrap (a.tdiv b)))))
 |.rem=>b≠0/\K (.d (.sc (.int k (a.tmod b))))
 |.and=>K (.d (.sc (.int k (fk .and k a b))))
 |.or=>K (.d (.sc (.int k (fk .or k a b))))
 |.xor=>K (.d (.sc (.int k (fk .xor k a b))))
 |.eql=>K (.d (.sc (.bool (decide (a=b)))))
 |.neq=>K (.d (.sc (.bool (!decide (a=b)))))
 |.lss=>K (.d (.sc (.bool (decide (a<b)))))
 |.leq=>K (.d (.sc (.bool (decide (a<=b)))))
 |.gtr=>K (.d (.sc (.bool (decide (b<a)))))
 |.geq=>K (.d (.sc (.bool (decide (b<=a)))))
 |_=>False
def nO (s:List Obj):V->Prop
 |.d (.el _)=>True
 |.rf id g _ _=>sh s id g λ_=>True
 |.pp id g _ _ _ _=>sh s id g λ_=>True
 |_=>False
def Mw (P:Program) (t:TypeId):Option (Nat×IntKind) :=
 match P.underlying t with
 |some (.array n e)=>match P.underlying e with
  |some (.int k)=>if (P.info? e).isSome=true/\P.cellsOf e=1/\P.eqGuardType P.depth t=false then some (n,k) else none
  |_=>none
 |_=>none
def NZ (P:Program) (t:TypeId):Option IntKind :=
 match P.underlying t with
 |some (.struct fields)=>match fields.toList with
  |[a,b,c]=>match P.underlying a.type,P.underlying b.type,P.underlying c.type with
   | some (.int k), some (.int k'), some (.int k'') => if (k' = k ∧ k'' = k ∧ a.offset = 0 ∧ b.offset = 1 ∧ c.offset = 2) ∧ (a.name ≠ "_" ∧ b.name ≠ "_" ∧ c.name ≠ "_") ∧ P.stoodInHeld t = false ∧ P.eqGuardType P.depth t = false then some k else none
   |_,_,_=>none
  |_=>none
 |_=>none
def iN (P:Program) (op:BinOp) (t:TypeId) (xs ys:List V) (K:V->Prop):Prop :=
 match xs,ys with
 |[.d (.sc (.int k1 a)),.d (.sc (.int k2 b))],[.d (.sc (.int k3 c)),.d (.sc (.int k4 d))]=>(Mw P t=some (2,k1)/\k2=k1/\k3=k1/\k4=k1)/\match op with
  |.eql=>K (.d (.sc (.bool (a == c&&b == d))))
  |.neq=>K (.d (.sc (.bool (!(a == c&&b == d)))))
  |_=>False
 |[.d (.sc (.int k1 a)),.d (.sc (.int k2 b)),.d (.sc (.int k3 c))],[.d (.sc (.int k4 a')),.d (.sc (.int k5 b')),.d (.sc (.int k6 c'))]=>(NZ P t=some k1/\k2=k1/\k3=k1/\k4=k1/\k5=k1/\k6=k1)/\match op with
  |.eql=>K (.d (.sc (.bool (a == a'&&(b == b'&&c == c')))))
  |_=>False
 |_,_=>False
def dy (P:Program) (op:BinOp) (t:TypeId) (s:List Obj) (x y:V) (K:V->Prop):Prop :=
 match x,y with
 |.d (.sc (.int k a)),.d (.sc (.int k' b))=>k=k'/\eQ op k a b K
 |.d (.sc (.bool a)),.d (.sc (.bool b))=>P.underlying t=some .bool/\match op with
  |.eql=>K (.d (.sc (.bool (a == b))))
  |.neq=>K (.d (.sc (.bool (!(a == b)))))
  |_=>False
 |.d (.sc (.pointer none)),.d (.sc (.pointer none))=>(∃e,P.underlying t=some (.pointer e))/\match op with
  |.eql=>K (.d (.sc (.bool true)))
  |.neq=>K (.d (.sc (.bool false)))
  |_=>False
 |.ag xs,.ag ys=>iN P op t xs ys K
 |p,.d (.sc (.pointer none))=>nO s p/\(∃e,P.underlying t=some (.pointer e))/\match op with
  |.eql=>K (.d (.sc (.bool false)))
  |.neq=>K (.d (.sc (.bool true)))
  |_=>False
 |_,_=>False
def Pz:Operand->Bool
 |.const (.slice none 0 0)=>true
 |_=>false
def gM (P:Program) (op:BinOp) (t:TypeId) (x:V) (K:V->Prop):Prop :=
 (∃e,P.underlying t=some (.slice e))/\op=.eql/\match x with
  |.d (.sl [])=>K (.d .ub)
  |.d (.sl (_::_))=>K (.d (.sc (.bool false)))
  |.fu []=>K (.d .ub)
  |.fu (_::_)=>K (.d (.sc (.bool false)))
  |_=>False
theorem IL{p:V} (hp:aG σ s w p u) (h:nO s p):∃a,u=.pointer (some a):=by
 unfold nO at h;split at h
 ·cases hp with|d hx=>?_
  cases hx with|el _ a _ _ _ _=>exact⟨a,rfl⟩
 ·obtain⟨o,ho,hg,_⟩:=ep h;obtain⟨b,base,_,_,rfl⟩:=H8 hp ho hg;exact⟨_,rfl⟩
 ·exact⟨_,hp.Ay⟩
 ·exact h.elim
theorem run_equal_bool (hu:P.underlying t=some .bool) (a b:Bool) (w:World):(Op.equal t (.bool a) (.bool b)).run P w=.ok (a == b) w:=by
 have h:∀d:Nat,(Op.equalIn (d+1) t (.bool a) (.bool b)).run P w=.ok (a == b) w:=λd=>by simp [Op.equalIn,run_underlying hu]
 exact h 9999
theorem Bi{e:TypeId} (hu:P.underlying t=some (.pointer e)) (w:World):(Op.equal t (.pointer none) (.pointer none)).run P w=.ok true w:=by
 have h:∀d:Nat,(Op.equalIn (d+1) t (.pointer none) (.pointer none)).run P w=.ok true w:=λd=>by simp [Op.equalIn,run_underlying hu]
 exact h 9999
theorem Bd{e:TypeId} (hu:P.underlying t=some (.pointer e)) (a:Addr) (w:World):(Op.equal t (.pointer (some a)) (.pointer none)).run P w=.ok false w:=by
 have h:∀d:Nat,(Op.equalIn (d+1) t (.pointer (some a)) (.pointer none)).run P w=.ok false w:=λd=>by simp [Op.equalIn,run_underlying hu]
 exact h 9999
theorem uN (hu:P.underlying t=some .bool) (a b:Bool) (w:World) (xo yo:Operand) :
  (do eqGuard .eql t xo yo (.bool a) (.bool b);binOp .eql t (.bool a) (.bool b):Sem Value).run P w=.ok (.bool (a == b)) w /\
  (do eqGuard .neq t xo yo (.bool a) (.bool b);binOp .neq t (.bool a) (.bool b):Sem Value).run P w=.ok (.bool (!(a == b))) w:=by
 have h:=run_equal_bool hu a b w;constructor <;> simp only[eqGuard,binOp,Sem.run_bind,Sem.run_pure,h,Result.andThen_ok,ads,adq,if_false]
theorem xD{e:TypeId} (hu:P.underlying t=some (.pointer e)) (w:World) (xo yo:Operand) :
  (do eqGuard .eql t xo yo (.pointer none) (.pointer none);binOp .eql t (.pointer none) (.pointer none):Sem Value).run P w=.ok (.bool true) w /\
  (do eqGuard .neq t xo yo (.pointer none) (.pointer none);binOp .neq t (.pointer none) (.pointer none):Sem Value).run P w=.ok (.bool false) w:=by
 have h:=Bi hu w;constructor <;> simp only[eqGuard,binOp,Sem.run_bind,Sem.run_pure,h,Result.andThen_ok,ads,adq,if_false]
theorem xL{e:TypeId} (hu:P.underlying t=some (.pointer e)) (a:Addr) (w:World) (xo yo:Operand) :
  (do eqGuard .eql t xo yo (.pointer (some a)) (.pointer none);binOp .eql t (.pointer (some a)) (.pointer none):Sem Value).run P w=.ok (.bool false) w /\
  (do eqGuard .neq t xo yo (.pointer (some a)) (.pointer none);binOp .neq t (.pointer (some a)) (.pointer none):Sem Value).run P w=.ok (.bool true) w:=by
 have h:=Bd hu a w;constructor <;> simp only[eqGuard,binOp,Sem.run_bind,Sem.run_pure,h,Result.andThen_ok,ads,adq,if_false,adz]
theorem ya{e:TypeId} (hu:P.underlying t=some (.slice e)) (a:Option Addr) (n c:Nat) (w:World):(Op.equal t (.slice a n c) (.slice none 0 0)).run P w=.ok a.isNone w:=by
 have h:∀d:Nat,(Op.equalIn (d+1) t (.slice a n c) (.slice none 0 0)).run P w=.ok a.isNone w:=λd=>by cases a <;> simp [Op.equalIn,run_underlying hu]
 exact h 9999
theorem jo{e:TypeId} (hu:P.underlying t=some (.slice e)) (a:Option Addr) (n c:Nat) (w:World) (xo yo:Operand) :
  (do eqGuard .eql t xo yo (.slice a n c) (.slice none 0 0);binOp .eql t (.slice a n c) (.slice none 0 0):Sem Value).run P w=.ok (.bool a.isNone) w:=by
 have h:=ya hu a n c w;simp only[eqGuard,binOp,Sem.run_bind,Sem.run_pure,h,Result.andThen_ok,ads,adq,if_false]
theorem FV{op:BinOp}{xo yo:Operand}{K:V->Prop} (hx:aG σ s w x ux) (h:gM P op t x K) :
  ∃v c,(do eqGuard op t xo yo ux (.slice none 0 0);binOp op t ux (.slice none 0 0):Sem Value).run P w=.ok c w/\aG σ s w v c/\K v:=by
 obtain⟨⟨e,hu⟩,rfl,h⟩:=h;split at h
 ·cases hx with|d hx=>?_
  cases hx with
  |nil=>exact⟨_,_,jo hu _ _ _ w xo yo,.d (.ub _),h⟩
  |sl _ a cap sz f h1 h2 h3 h4 h5=>exact⟨_,_,jo hu _ _ _ w xo yo,.d (.ub _),h⟩
 ·cases hx with|d hx=>?_
  cases hx with
  |sl _ a cap sz f h1 h2 h3 h4 h5=>exact⟨_,_,jo hu _ _ _ w xo yo,.d (.sc _ rfl),h⟩
 ·cases hx with|fu hx=>?_
  exact⟨_,_,jo hu _ _ _ w xo yo,.d (.ub _),h⟩
 ·cases hx with|fu hx=>?_
  cases hx with
  |sl _ a cap sz f h1 h2 h3 h4 h5=>exact⟨_,_,jo hu _ _ _ w xo yo,.d (.sc _ rfl),h⟩
 ·exact h.elim
theorem BP{n:Nat} (h:Mw P t=some (n,k)):∃e i,P.underlying t=some (.array n e)/\P.underlying e=some (.int k)/\P.info? e=some i/\P.cellsOf e=1/\P.eqGuardType P.depth t=false:=by
 unfold Mw at h;split at h
 ·rename_i n' e hu;split at h
  ·rename_i k' hk;split at h
   ·rename_i hc;cases h;obtain⟨i,hi⟩:=Option.isSome_iff_exists.1 hc.1;exact⟨e,i,hu,hk,hi,hc.2.1,hc.2.2⟩
   ·cases h
  ·cases h
 ·cases h
theorem Bk (ha:Mw P t=some (2,k)) (a b c d:Int) (w:World) :
  (Op.equal t (.agg #[.int k a,.int k b]) (.agg #[.int k c,.int k d])).run P w=.ok (a == c&&b == d) w:=by
 obtain⟨e,i,h1,h2,h3,h4,_⟩:=BP ha;have h:∀n:Nat,(Op.equalIn (n+2) t (.agg #[.int k a,.int k b]) (.agg #[.int k c,.int k d])).run P w=.ok (a == c&&b == d) w:=by
  intro n;rw[run_equalIn_array w (n+1) _ _ h1 h3,h4];have hi:∀(x y:Int),(Op.equalIn (n+1) e (.int k x) (.int k y)).run P w=.ok (x == y) w:=λx y=>by simp [Op.equalIn,run_underlying h2]
  have hp:∀(xs:Array Value) (j:Nat) (v:Value),xs[j]?=some v->(part e xs j).run P w=.ok v w:=λxs j v hv=>by simp [part,isAgg,run_underlying h2,hv]
  have r2:List.range 2=[0,1]:=rfl;rw[r2];have p0:=hp #[.int k a,.int k b] 0 (.int k a) rfl;have p1:=hp #[.int k a,.int k b] 1 (.int k b) rfl;have q0:=hp #[.int k c,.int k d] 0 (.int k c) rfl;have q1:=hp #[.int k c,.int k d] 1 (.int k d) rfl;simp only[Op.eqItems,Sem.run_bind,Nat.zero_mul,Nat.one_mul,p0,q0,hi,Result.andThen_ok];cases hac:(a == c)
  ·simp
  ·simp only[ads,adq,if_false,Sem.run_bind,p1,q1,hi,Result.andThen_ok];cases hbd:(b == d) <;> simp
 exact h 9998
theorem Cm (h:NZ P t=some k):∃fields a b c,P.underlying t=some (.struct fields)/\fields.toList=[a,b,c]/\P.underlying a.type=some (.int k)/\P.underlying b.type=some (.int k)/\P.underlying c.type=some (.int k) /\
  (a.offset = 0 ∧ b.offset = 1 ∧ c.offset = 2) ∧ (a.name ≠ "_" ∧ b.name ≠ "_" ∧ c.name ≠ "_") ∧ P.stoodInHeld t = false ∧ P.eqGuardType P.depth t = false := by
 unfold NZ at h;split at h
 ·rename_i fields hu;split at h
  ·rename_i a b c hl;split at h
   ·rename_i k1 k2 k3 ha hb hc;split at h
    ·rename_i hh;cases h;obtain⟨⟨rfl,rfl,o⟩,n,s1,s2⟩:=hh;exact⟨fields,a,b,c,hu,hl,ha,hb,hc,o,n,s1,s2⟩
    ·cases h
   ·cases h
  ·cases h
 ·cases h
theorem AY (ht:NZ P t=some k) (a b c a' b' c':Int) (w:World) :
  (Op.equal t (.agg #[.int k a,.int k b,.int k c]) (.agg #[.int k a',.int k b',.int k c'])).run P w=.ok (a == a'&&(b == b'&&c == c')) w:=by
 obtain⟨fields,fa,fb,fc,h1,h2,h3,h4,h5,⟨o1,o2,o3⟩,⟨n1,n2,n3⟩,s1,_⟩:=Cm ht;have hf:fields=#[fa,fb,fc]:=by rw[<- h2]
 have h:∀n:Nat,(Op.equalIn (n+2) t (.agg #[.int k a,.int k b,.int k c]) (.agg #[.int k a',.int k b',.int k c'])).run P w=.ok (a == a'&&(b == b'&&c == c')) w:=by
  intro n;have hi:∀(e:TypeId) (x y:Int),P.underlying e=some (.int k)->(Op.equalIn (n+1) e (.int k x) (.int k y)).run P w=.ok (x == y) w:=λe x y he=>by simp [Op.equalIn,run_underlying he]
  have hp:∀(e:TypeId) (xs:Array Value) (j:Nat) (v:Value),P.underlying e=some (.int k)->xs[j]?=some v->(part e xs j).run P w=.ok v w:=λe xs j v he hv=>by simp [part,isAgg,run_underlying he,hv]
  have p0:=hp fa.type #[.int k a,.int k b,.int k c] 0 (.int k a) h3 rfl;have p1:=hp fb.type #[.int k a,.int k b,.int k c] 1 (.int k b) h4 rfl;have p2:=hp fc.type #[.int k a,.int k b,.int k c] 2 (.int k c) h5 rfl;have q0:=hp fa.type #[.int k a',.int k b',.int k c'] 0 (.int k a') h3 rfl;have q1:=hp fb.type #[.int k a',.int k b',.int k c'] 1 (.int k b') h4 rfl;have q2:=hp fc.type #[.int k a',.int k b',.int k c'] 2 (.int k c') h5 rfl;have e0:=hi fa.type a a' h3;have e1:=hi fb.type b b' h4;have e2:=hi fc.type c c' h5;rw[show n+2=(n+1)+1 from rfl,Op.equalIn];subst hf;generalize (a == a')=r0 at e0 ⊢;generalize (b == b')=r1 at e1 ⊢;generalize (c == c')=r2 at e2 ⊢;simp [run_underlying h1,Sem.run_bind,s1,n1,n2,n3,o1,o2,o3,p0,p1,p2,q0,q1,q2,e0,e1,e2];cases r0 <;> cases r1 <;> cases r2 <;> simp
 exact h 9998
theorem Ly{op:BinOp}{t:TypeId}{xo yo:Operand}{xs ys:List V}{ux uy:Value}{K:V->Prop} (hx:aG σ s w (.ag xs) ux) (hy:aG σ s w (.ag ys) uy) (h:iN P op t xs ys K) :
  ∃v c,(do eqGuard op t xo yo ux uy;binOp op t ux uy:Sem Value).run P w=.ok c w/\aG σ s w v c/\K v:=by
 unfold iN at h;split at h
 ·rename_i k1 a k2 b k3 c k4 d;obtain⟨⟨ha,rfl,rfl,rfl⟩,h⟩:=h;have two:∀{k:IntKind}{a b:Int}{u:Value},aG σ s w (.ag [.d (.sc (.int k a)),.d (.sc (.int k b))]) u->u=.agg #[.int k a,.int k b]:=by
   intro k a b u hu;cases hu with|ag h1 h2 h3=>?_
   rename_i arr;have e0:=h3 0 _ rfl;have e1:=h3 1 _ rfl;generalize Ye:arr.getD 0 undef=v0 at e0;generalize U0:arr.getD 1 undef=v1 at e1;cases e0 with|d e0=>?_
   cases e0 with|sc _ _=>?_
   cases e1 with|d e1=>?_
   cases e1 with|sc _ _=>?_
   congr 1;have gf:arr.size=2:=h1;apply Array.ext
   ·rw[gf];rfl
   ·intro i fD SJ;have hi:i=0\/i=1:=by omega
    rcases hi with rfl|rfl
    ·have:arr[0]=arr.getD 0 undef:=by simp [Array.getD,gf]
     rw[this,Ye];rfl
    ·have:arr[1]=arr.getD 1 undef:=by simp [Array.getD,gf]
     rw[this,U0];rfl
  rw[two hx,two hy];obtain⟨e,i,h1,h2,h3,h4,h5⟩:=BP ha;have hr:=Bk ha a b c d w;split at h
  ·refine⟨_,_,?_,.d (.sc _ rfl),h⟩;simp [eqGuard,binOp,Sem.run_bind,hr,Result.andThen_ok,h5]
  ·refine⟨_,_,?_,.d (.sc _ rfl),h⟩;simp [eqGuard,binOp,Sem.run_bind,hr,Result.andThen_ok,h5]
  ·exact h.elim
 ·rename_i k1 a k2 b k3 c k4 a' k5 b' k6 c';obtain⟨⟨ht,rfl,rfl,rfl,rfl,rfl⟩,h⟩:=h;have three:∀{k:IntKind}{a b c:Int}{u:Value},aG σ s w (.ag [.d (.sc (.int k a)),.d (.sc (.int k b)),.d (.sc (.int k c))]) u->u=.agg #[.int k a,.int k b,.int k c]:=by
   intro k a b c u hu;cases hu with|ag h1 h2 h3=>?_
   rename_i arr;have e0:=h3 0 _ rfl;have e1:=h3 1 _ rfl;have e2:=h3 2 _ rfl;generalize Ye:arr.getD 0 undef=v0 at e0;generalize U0:arr.getD 1 undef=v1 at e1;generalize hv2:arr.getD 2 undef=v2 at e2;cases e0 with|d e0=>?_
   cases e0 with|sc _ _=>?_
   cases e1 with|d e1=>?_
   cases e1 with|sc _ _=>?_
   cases e2 with|d e2=>?_
   cases e2 with|sc _ _=>?_
   congr 1;have gf:arr.size=3:=h1;apply Array.ext
   ·rw[gf];rfl
   ·intro i fD SJ;have hi:i=0\/i=1\/i=2:=by omega
    rcases hi with rfl|rfl|rfl
    ·have:arr[0]=arr.getD 0 undef:=by simp [Array.getD,gf]
     rw[this,Ye];rfl
    ·have:arr[1]=arr.getD 1 undef:=by simp [Array.getD,gf]
     rw[this,U0];rfl
    ·have:arr[2]=arr.getD 2 undef:=by simp [Array.getD,gf]
     rw[this,hv2];rfl
  rw[three hx,three hy];obtain⟨_,_,_,_,_,_,_,_,_,_,_,_,h5⟩:=Cm ht;have hr:=AY ht a b c a' b' c' w;split at h
  ·refine⟨_,_,?_,.d (.sc _ rfl),h⟩;simp [eqGuard,binOp,Sem.run_bind,hr,Result.andThen_ok,h5]
  ·exact h.elim
 ·exact h.elim
theorem IK{op:BinOp}{t:TypeId}{xo yo:Operand}{y:V}{ux uy:Value}{K:V->Prop} (hx:aG σ s w x ux) (hy:aG σ s w y uy) (h:dy P op t s x y K) :
  ∃v c,(do eqGuard op t xo yo ux uy;binOp op t ux uy:Sem Value).run P w=.ok c w/\aG σ s w v c/\K v:=by
 have bl:∀(b:Bool),K (.d (.sc (.bool b)))->(do eqGuard op t xo yo ux uy;binOp op t ux uy:Sem Value).run P w=.ok (.bool b) w ->
   ∃v c,(do eqGuard op t xo yo ux uy;binOp op t ux uy:Sem Value).run P w=.ok c w/\aG σ s w v c/\K v:=λb hk hr=>⟨_,_,hr,.d (.sc _ rfl),hk⟩
 unfold dy at h;split at h
 ·rename_i k a k' b;obtain⟨rfl,h⟩:=h;cases hx with|d hx=>?_
  cases hx with|sc _ _=>?_
  cases hy with|d hy=>?_
  cases hy with|sc _ _=>?_
  have it:∀(n:Int),K (.d (.sc (.int k n)))->(do eqGuard op t xo yo (.int k a) (.int k b);binOp op t (.int k a) (.int k b):Sem Value).run P w=.ok (.int k n) w ->
   ∃v c,(do eqGuard op t xo yo (.int k a) (.int k b);binOp op t (.int k a) (.int k b):Sem Value).run P w=.ok c w/\aG σ s w v c/\K v:=λn hk hr=>⟨_,_,hr,.d (.sc _ rfl),hk⟩
  cases op <;> simp only[eQ]at h
  case add=>exact it _ h (by simp [eqGuard,binOp,Op.intArith])
  case sub=>exact it _ h (by simp [eqGuard,binOp,Op.intArith])
  case mul=>exact it _ h (by simp [eqGuard,binOp,Op.intArith])
  case quo=>exact it _ h.2 (by simp [eqGuard,binOp,Op.intDiv,h.1])
  case rem=>exact it _ h.2 (by simp [eqGuard,binOp,Op.intDiv,h.1])
  case and=>exact it _ h (by simp [eqGuard,binOp,Op.intBits,fk])
  case or=>exact it _ h (by simp [eqGuard,binOp,Op.intBits,fk])
  case xor=>exact it _ h (by simp [eqGuard,binOp,Op.intBits,fk])
  case eql=>exact bl _ h (by simp [eqGuard,binOp,Op.intCmp];rfl)
  case neq=>exact bl _ h (by simp [eqGuard,binOp,Op.intCmp];rfl)
  case lss=>exact bl _ h (by simp [eqGuard,binOp,Op.intCmp])
  case leq=>exact bl _ h (by simp [eqGuard,binOp,Op.intCmp])
  case gtr=>exact bl _ h (by simp [eqGuard,binOp,Op.intCmp])
  case geq=>exact bl _ h (by simp [eqGuard,binOp,Op.intCmp])
 ·rename_i a b;obtain⟨hu,h⟩:=h;cases hx with|d hx=>?_
  cases hx with|sc _ _=>?_
  cases hy with|d hy=>?_
  cases hy with|sc _ _=>?_
  split at h
  ·exact bl _ h (uN hu a b w xo yo).1
  ·exact bl _ h (uN hu a b w xo yo).2
  ·exact h.elim
 ·obtain⟨⟨e,hu⟩,h⟩:=h;cases hx with|d hx=>?_
  cases hx with|sc _ _=>?_
  cases hy with|d hy=>?_
  cases hy with|sc _ _=>?_
  split at h
  ·exact bl _ h (xD hu w xo yo).1
  ·exact bl _ h (xD hu w xo yo).2
  ·exact h.elim
 ·exact Ly hx hy h
 ·obtain⟨hp,⟨e,hu⟩,h⟩:=h;obtain⟨ad,rfl⟩:=IL hx hp;cases hy with|d hy=>?_
  cases hy with|sc _ _=>?_
  split at h
  ·exact bl _ h (xL hu ad w xo yo).1
  ·exact bl _ h (xL hu ad w xo yo).2
  ·exact h.elim
 ·exact h.elim
def nW:BinOp->Bool
 |.shl=>true
 |.shr=>true
 |_=>false
def ZA (op:BinOp) (k:IntKind) (a b:Int):Int :=
 match op with
 |.shl=>k.wrap (a*2 ^ min b.toNat k.bits)
 |_=>a.fdiv (2 ^ min b.toNat k.bits)
def qj (op:BinOp) (x y:V) (K:V->Prop):Prop :=
 match x,y with
 |.d (.sc (.int k a)),.d (.sc (.int _ b))=>0<=b/\K (.d (.sc (.int k (ZA op k a b))))
 |_,_=>False
def nG (P:Program) (op:BinOp) (t:TypeId) (s:List Obj) (x y:V) (K:V->Prop):Prop :=
 match nW op with
 |true=>qj op x y K
 |false=>dy P op t s x y K
theorem Mg{op:BinOp}{t:TypeId}{xo yo:Operand}{y:V}{ux uy:Value}{K:V->Prop} (hx:aG σ s w x ux) (hy:aG σ s w y uy) (h:nG P op t s x y K) :
  ∃v c,(do eqGuard op t xo yo ux uy;binOp op t ux uy:Sem Value).run P w=.ok c w/\aG σ s w v c/\K v:=by
 unfold nG at h;split at h
 ·rename_i hs;unfold qj at h;split at h
  ·rename_i k a k' b;obtain⟨hb,h⟩:=h;cases hx with|d hx=>?_
   cases hx with|sc _ _=>?_
   cases hy with|d hy=>?_
   cases hy with|sc _ _=>?_
   have HO:¬b<0:=by omega
   cases op <;> simp only[nW,adq]at hs
   ·exact⟨_,_,by simp [eqGuard,binOp,Op.shift,HO,ZA],.d (.sc _ rfl),h⟩
   ·exact⟨_,_,by simp [eqGuard,binOp,Op.shift,HO,ZA],.d (.sc _ rfl),h⟩
  ·exact h.elim
 ·exact IK hx hy h
def xW (op:UnOp) (x:V) (K:V->Prop):Prop :=
 match op,x with
 |.neg,.d (.sc (.int k n))=>K (.d (.sc (.int k (k.wrap (0-n)))))
 |.not,.d (.sc (.bool b))=>K (.d (.sc (.bool !b)))
 |_,_=>False
theorem OF{op:UnOp}{K:V->Prop} (hx:aG σ s w x ux) (h:xW op x K) :
  ∃v c,(Op.unary op ux).run P w=.ok c w/\aG σ s w v c/\K v:=by
 unfold xW at h;split at h
 ·cases hx with|d hx=>?_
  cases hx with|sc _ _=>?_
  exact⟨_,_,by simp [Op.unary,Op.intArith],.d (.sc _ rfl),h⟩
 ·cases hx with|d hx=>?_
  cases hx with|sc _ _=>?_
  exact⟨_,_,by simp [Op.unary],.d (.sc _ rfl),h⟩
 ·exact h.elim
def ou (P:Program) (src dst:TypeId) (x:V) (K:V->Prop):Prop :=
 match x with
 |.d (.sc (.int _ n))=>match P.underlying src,P.underlying dst with
  |some (.int _),some (.int k)=>K (.d (.sc (.int k (k.wrap n))))
  |_,_=>False
 |_=>False
theorem Jf{src dst:TypeId}{K:V->Prop} (hx:aG σ s w x ux) (h:ou P src dst x K) :
  ∃v c,(convert src dst ux).run P w=.ok c w/\aG σ s w v c/\K v:=by
 unfold ou at h;split at h
 case h_2=>exact h.elim
 cases hx with|d hx=>?_
 cases hx with|sc _ _=>?_
 split at h
 case h_2=>exact h.elim
 rename_i h1 h2;exact⟨_,_,by simp [convert,run_underlying h1,run_underlying h2,Conv.intToInt],.d (.sc _ rfl),h⟩
def eX (mn:Bool) (acc:V):List V->(V->Prop)->Prop
 |[],K=>K acc
 |y::rest,K=>match acc,y with
  |.d (.sc (.int k a)),.d (.sc (.int _ b))=>eX mn (.d (.sc (.int k (if mn then min a b else max a b)))) rest K
  |_,_=>False
theorem pV {P:Program}{mn:Bool}{σ:Gh}{s:List Obj}{w:World}:∀(ys:List V) (us:List Value) (acc:V) (c:Value) (K:V->Prop),aG σ s w acc c->us.length=ys.length ->
  (∀(i:Nat) (y:V),ys[i]?=some y->∃u,us[i]?=some u/\aG σ s w y u)->eX mn acc ys K ->
  ∃v r,(us.foldlM (if mn then Builtin.min2 else Builtin.max2) c).run P w=.ok r w/\aG σ s w v r/\K v
 |[],[],acc,c,K,hr,_,_,h=>⟨acc,c,by simp,hr,h⟩
 |[],_::_,_,_,_,_,hl,_,_=>by simp at hl
 |_::_,[],_,_,_,_,hl,_,_=>by simp at hl
 |y::ys,u::us,acc,c,K,hr,hl,hy,h=>by
  obtain⟨u',hu,NF⟩:=hy 0 y rfl;simp only[adU,adp]at hu;subst hu;unfold eX at h;split at h
  ·cases hr with|d hr=>?_
   cases hr with|sc _ _=>?_
   cases NF with|d NF=>?_
   cases NF with|sc _ _=>?_
   rename_i k a k' b _ _;obtain⟨v,r,h1,h2,h3⟩:=pV (P:=P) (mn:=mn) ys us _ (.int k (if mn then min a b else max a b)) K (.d (.sc _ rfl)) (by simpa using hl) (λi z hz=>hy (i+1) z (by simpa using hz)) h;refine⟨v,r,?_,h2,h3⟩;rw[List.foldlM_cons];cases mn
   ·have:(if b>a then b else a)=max a b:=by omega
    simp only[adq,if_false]at h1 ⊢;simp [Builtin.max2,this,h1]
   ·have:(if b<a then b else a)=min a b:=by omega
    simp only[if_true]at h1 ⊢;simp [Builtin.min2,this,h1]
  ·exact h.elim
def Hj (e0:V) (b a:Nat):V :=
 match e0 with
 |.pp id g i off b' a'=>if b'=b/\a'=a then .pp id g i off b' a' else .d (.sc (.pointer (some ⟨b,a,none⟩)))
 |_=>.d (.sc (.pointer (some ⟨b,a,none⟩)))
def dL (e0:V):D->V
 |.sc (.pointer (some ⟨b,a,none⟩))=>Hj e0 b a
 |.el [x]=>.bx (dL e0 x)
 |.cl fn first ah=>.cl fn (go first) (go ah)
 |x=>.d x
where go:List D->List V
 |[]=>[]
 |x::l=>dL e0 x::go l
theorem FW (e0:V):∀l:List D,dL.go e0 l=l.map (dL e0)
 |[]=>rfl
 |x::l=>by simp [dL.go,FW e0 l]
theorem H5 (h0:aG σ s w e0 u0) {x:D} (hr:dt (Own σ s) w x u):aG σ s w (dL e0 x) u:=by
 have g:∀(l:List D) (i:Nat) (y:V),(l.map (dL e0))[i]?=some y->∃x,l[i]?=some x/\dL e0 x=y:=λl i y hy=>by rw[adL]at hy;exact Option.map_eq_some_iff.1 hy
 induction hr with
 |sc v hv =>
  have hd:aG σ s w (.d (.sc v)) v:=.d (.sc v hv);unfold dL;split
  ·rename_i b a hx;cases hx;unfold Hj;split
   ·split
    ·rename_i hc;obtain⟨rfl,rfl⟩:=hc;have:=h0.Ay;subst this;exact h0
    ·exact hd
   ·exact hd
  ·rename_i hx;cases hx
  ·rename_i hx;cases hx
  ·exact hd
 |nil=>exact .d .nil
 |sl aI a cap sz f h1 h2 h3 h4 h5 _=>exact .d (.sl aI a cap sz f h1 h2 h3 h4 h5)
 |el cs a f h1 h2 h3 ih =>
  match cs,h2,h3,ih with
  |[],h2,h3,_=>exact .d (.el [] a f h1 h2 h3)
  |[x],h2,h3,ih =>
   simp only[dL];exact .bx h1 (h2 0 x rfl).1 (h2 0 x rfl).2 (h3 0 x rfl).one (ih 0 x rfl)
  |x::y::l,h2,h3,_=>exact .d (.el (x::y::l) a f h1 h2 h3)
 |cl h1 _ h3 _ uI ie =>
  simp only[dL,FW];refine .cl (by simpa using h1) (λi y hy=>?_) (by simpa using h3) (λi y hy=>?_)
  ·obtain⟨x,hx,rfl⟩:=g _ i y hy;exact uI i x hx
  ·obtain⟨x,hx,rfl⟩:=g _ i y hy;exact ie i x hx
 |ub b=>exact .d (.ub b)
def Br (e0 x:V):V :=
 match x with
 |.d (.cl fn first ah)=>dL e0 (.cl fn first ah)
 |.d (.sc (.func fn ⟨[]⟩ ⟨[]⟩))=>.cl fn [] []
 |x=>x
theorem ML (h0:aG σ s w e0 u0) (hx:aG σ s w x u):aG σ s w (Br e0 x) u:=by
 unfold Br;split
 ·cases hx with|d hx=>exact H5 h0 hx
 ·cases hx with
  |d hx =>
   cases hx with
   |sc _ _=>exact .cl rfl (λi x hx=>by simp at hx) rfl (λi x hx=>by simp at hx)
 ·exact hx
def Iq (P:Program) (f:FuncId):Bool :=
 match P.funcs[f]? with
 | some fn => fn.name != "runtime.NumGoroutine" && fn.body.isSome
 |none=>false
def au (P:Program) (f:FuncId) (args:List V) (s:List Obj) (K:V->List Obj->Prop):Prop :=
 Iq P f=true/\∀(σ:Gh) (w:World) (vals:Array Value),Inv σ s w->vals.size=args.length->(∀(i:Nat) (x:V),args[i]?=some x->aG σ s w x (vals.getD i undef)) ->
  Calls P f vals w λe w'=>∃u v σ' s',e=.returned u/\aW σ s w σ' s' w'/\Inv σ' s' w'/\aG σ' s' w' v u/\K v s'
theorem CT (h:Iq P f=true) (args:Array Value) (w:World):(callFunc f args).run P w=.ok (.enter f args) w:=by
 unfold Iq at h;split at h
 ·rename_i fn hf;simp only[adD,bne_iff_ne,ne_eq]at h;obtain⟨h1,h2⟩:=h;cases hb:fn.body with
  |none=>rw[hb]at h2;cases h2
  |some c=>simp [callFunc,hf,h1,hb]
 ·cases h
def gR (P:Program) (c:Call) (e:Nat->V) (s:List Obj) (K:V->List Obj->Prop):Prop :=
 match c.callee with
 |.value (.func f)=>au P f (c.args.toList.map (ev e)) s K
 |.value f=>match Br (e 0) (ev e f) with
  |.cl (.func g) first ah=>au P g (first++c.args.toList.map (ev e)++ah) s K
  |_=>False
 |.builtin b=>match b,c.args.toList,c.argTypes.toList with
  |.len,[x],[t]=>jO P t (ev e x) s λv=>K v s
  |.append,[a,x],[t,t']=>t=t'/\dH P t (ev e a) (ev e x) s K
  |.copy,[a,x],[t,t']=>t=t'/\rD P t (ev e a) (ev e x) s K
  |.clear,[x],[t]=>kX P t (ev e x) s K
  |.min,x::rest,_=>eX true (ev e x) (rest.map (ev e)) λv=>K v s
  |.max,x::rest,_=>eX false (ev e x) (rest.map (ev e)) λv=>K v s
  |_,_,_=>False
 |_=>False
def iO (s:List Obj) (x:V) (K:V->Prop):Prop :=
 match x with
 |.d (.el cs)=>K (.d (.el cs))
 |.rf id g i off=>sh s id g λ_=>K (.rf id g i off)
 |.pp id g i off b a=>sh s id g λ_=>K (.pp id g i off b a)
 |.d (.sc (.pointer (some ad)))=>K (.d (.sc (.pointer (some ad))))
 |.cl (.func f) first ah=>K (.cl (.func f) first ah)
 |_=>False
def zn (e0:V) (b a:Nat):V :=
 match e0 with
 |.pp id g i off b' a'=>if b'=b/\a'<=a then .rf id g i (off+(a-a')) else .d (.sc (.pointer (some ⟨b,a,none⟩)))
 |_=>.d (.sc (.pointer (some ⟨b,a,none⟩)))
def vt (e0 p:V):V :=
 match p with
 |.d (.sc (.pointer (some ⟨b,a,none⟩)))=>zn e0 b a
 |p=>p
theorem Jl{p:V} (h0:aG σ s w e0 u0) (hp:aG σ s w p u):aG σ s w (vt e0 p) u:=by
 unfold vt;split
 ·rename_i b a;unfold zn;split
  ·split
   ·rename_i id g i off b' a' hc;obtain⟨rfl,hle⟩:=hc;cases hp with|d hp=>?_
    cases hp with|sc _ _=>?_
    cases h0 with
    |pp o ho hg hk =>
     refine .rf o ho hg rfl λhe=>?_;obtain⟨base,k1,k2,k3⟩:=hk he;exact⟨b',base,k1,k2,by congr 3;omega⟩
   ·exact hp
  ·exact hp
 ·exact hp
def fU (x:V) (A B:Prop):Prop :=
 match x with
 |.d (.sc (.bool b))=>(b=true->A)/\(b=false->B)
 |_=>False
def vL (x:V) (i:Nat) (K:V->Prop):Prop :=
 match x with
 |.tu vs=>match vs[i]? with
  |some v=>K v
  |none=>False
 |_=>False
def cP (P:Program) (o:Oper) (e:Nat->V) (s:List Obj) (K:V->List Obj->Prop):Prop :=
 match o.op with
 |.move x=>K (ev e x) s
 |.assign x=>K (ev e x) s
 |.pick c a b=>fU (ev e c) (K (ev e a) s) (K (ev e b) s)
 |.alloc t=>nS P t s K
 |.box _ x=>xr s (ev e x) K
 |.build t parts=>nQ P t (parts.toList.map λp=>(p.1,ev e p.2)) λv=>K v s
 |.buildSlice t n parts=>ff P t n (parts.toList.map λp=>(p.1,ev e p.2)) s K
 |.load t a=>jM P t s (vt (e 0) (ev e a)) λv=>K v s
 |.store t a x=>gN P t s (ev e a) (ev e x) λs'=>K .un s'
 |.nilCheck x=>iO s (ev e x) λv=>K v s
 |.binOp op t x y _=>bif Pz y then gM P op t (ev e x) (λv=>K v s) else nG P op t s (ev e x) (ev e y) λv=>K v s
 |.unOp op _ x=>xW op (ev e x) λv=>K v s
 |.convert src dst x=>ou P src dst (ev e x) λv=>K v s
 |.makeFunc fn first ah=>K (.cl fn (first.toList.map (ev e)) (ah.toList.map (ev e))) s
 |.makeSlice t l c=>fK P t (ev e l) (ev e c) s K
 |.slice t x lo hi mx=>kj P t (ev e x) (lo.map (ev e)) (hi.map (ev e)) (mx.map (ev e)) s λv=>K v s
 |.fieldAddr t x f=>eK P t s (ev e x) f λv=>K v s
 |.field t x f=>lq P t (ev e x) f λv=>K v s
 |.indexAddr t x i=>dK P t s (ev e x) (ev e i) λv=>K v s
 |.index t x i=>jt P t (ev e x) (ev e i) λv=>K v s
 |.extract x i=>vL (ev e x) i λv=>K v s
 |.call c=>gR P c e s K
 |.makeMap t r=>my P t r s K
 |.lookup t x i ok=>bif ok then False else il P t s (ev e x) (ev e i) λv=>K v s
 |.mapUpdate t m k x=>tt P t s (ev e m) (ev e k) (ev e x) λs'=>K .un s'
 |.insert t m k x=>tt P t s (ev e m) (ev e k) (ev e x) λs'=>K .un s'
 |_=>False
def fj (σ:Gh) (s:List Obj) (w:World) (N:Nat) (e:Nat->V) (a:Act):Prop :=
 a.defers=[]/\a.tmps.size=N/\∀t,aG σ s w (e t) (a.tmps.getD t undef)
theorem fj.ev {σ s w N e a} (h:fj σ s w N e a) (x:Operand):aG σ s w (ev e x) (a.eval x):=by
 cases x with
 |tmp t=>exact h.2.2 t
 |const v=>exact RG v
 |global g=>exact .any
 |func f=>exact .cl rfl (λi x hx=>by simp at hx) rfl (λi x hx=>by simp at hx)
def qE (P:Program) (o:Oper) (σ:Gh) (s:List Obj) (w:World) (a:Act) (K:V->List Obj->Prop):Prop :=
 o.wp P a w (λa' w'=>∃u v σ' s',a'=a.put o.dst u/\aW σ s w σ' s' w'/\Inv σ' s' w'/\aG σ' s' w' v u/\K v s') (λ_ _ _=>False)
theorem fB{K:V->List Obj->Prop}{w':World} (hr:(execOp a.eval o).run P w=.ok (.value u) w')
  (hE:aW σ s w σ' s' w') (hI:Inv σ' s' w') (hv:aG σ' s' w' v u) (hK:K v s'):qE P o σ s w a K:=by
 unfold qE Oper.wp;rw[hr,Oper.upon_value];exact⟨u,v,σ',s',rfl,hE,hI,hv,hK⟩
theorem yD{e:Nat->V} (h:fj σ s w N e a) (l:List Operand):∀(i:Nat) (x:V),(l.map (ev e))[i]?=some x->∃u,(l.map a.eval)[i]?=some u/\aG σ s w x u:=by intro i x hx;rw[adL]at hx ⊢;obtain⟨y,hy,rfl⟩:=Option.map_eq_some_iff.1 hx;rw[hy];exact⟨_,rfl,h.ev y⟩
theorem Bx{e:Nat->V} (h:fj σ s w N e a) (l:List (Nat×Operand)) :
  ∀(j:Nat) i x,(l.map λp=>(p.1,ev e p.2))[j]?=some (i,x)->∃u,(l.map λp=>(p.1,a.eval p.2))[j]?=some (i,u)/\aG σ s w x u:=by
 intro j i x hx;rw[adL]at hx ⊢;obtain⟨y,hy,h'⟩:=Option.map_eq_some_iff.1 hx;simp only[ad3]at h';obtain⟨rfl,rfl⟩:=h';rw[hy];exact⟨_,rfl,h.ev y.2⟩
theorem FL{K:V->List Obj->Prop}{vals:Array Value} (hr:(execOp a.eval o).run P w=(callFunc f vals).run P w)
  (hI:Inv σ s w) (hl:vals.size=args.length) (hv:∀(i:Nat) (x:V),args[i]?=some x->aG σ s w x (vals.getD i undef)) (h:au P f args s K):qE P o σ s w a K:=by
 unfold qE Oper.wp;rw[hr,CT h.1,Oper.upon_enter];refine(h.2 σ w vals hI hl hv).mono λe w' ⟨u,v,σ',s',he,hE,gS,hR,hK⟩=>?_;subst he;exact⟨u,v,σ',s',rfl,hE,gS,hR,hK⟩
theorem pt {l:List Value} (h:l[i]?=some u) (d:Value):l.toArray.getD i d=u:=by have aH:=(List.getElem?_eq_some_iff.1 h).1;have:=(List.getElem?_eq_some_iff.1 h).2;simp [Array.getD,aH,this]
theorem qc{e:Nat->V}{K:V->List Obj->Prop} (hI:Inv σ s w) (hR:fj σ s w N e a) (h:cP P o e s K):qE P o σ s w a K:=by
 obtain⟨dst,op,ty,pos,after,guard⟩:=o;have ro:∀{v:V}{c:Value}{s1:Sem Value},s1.run P w=.ok c w->(do pure (Next.value (<- s1)):Sem Next).run P w=.ok (.value c) w:=λh=>by simp [h]
 have r1:∀{c:Value}{w':World}{s1:Sem Value},s1.run P w=.ok c w'->(do pure (Next.value (<- s1)):Sem Next).run P w=.ok (.value c) w':=λh=>by simp [h]
 have same:∀{v:V}{c:Value},(execOp a.eval ⟨dst,op,ty,pos,after,guard⟩).run P w=.ok (.value c) w->aG σ s w v c->K v s->qE P ⟨dst,op,ty,pos,after,guard⟩ σ s w a K :=
  λhr hv hk=>fB hr (aW.refl _ _ _) hI hv hk
 cases op <;> simp only[cP]at h
 case move x=>exact same (by simp [execOp]) (hR.ev x) h
 case assign x=>exact same (by simp [execOp]) (hR.ev x) h
 case pick c x y =>
  unfold fU at h;split at h
  ·rename_i b hb;have hc:=hR.ev c;rw[hb]at hc;generalize sg:a.eval c=QA at hc;cases hc with|d hc=>?_
   cases hc with|sc _ _=>?_
   cases b
   ·exact same (c:=a.eval y) (by simp [execOp,sg,asBool]) (hR.ev y) (h.2 rfl)
   ·exact same (c:=a.eval x) (by simp [execOp,sg,asBool]) (hR.ev x) (h.1 rfl)
  ·exact h.elim
 case alloc t =>
  obtain⟨v,c,σ',s',w',k1,k2,k3,k4,k5⟩:=GV hI h;exact fB (by simp only[execOp];exact r1 k1) k2 k3 k4 k5
 case box t x =>
  obtain⟨v,c,σ',s',w',k1,k2,k3,k4,k5⟩:=K9 (P:=P) (t:=t) hI (hR.ev x) h;exact fB (by simp only[execOp];exact r1 k1) k2 k3 k4 k5
 case build t parts =>
  obtain⟨v,c,k1,k2,k3⟩:=F8 (by simp) (Bx hR parts.toList) h;refine same (c:=c) ?_ k2 k3;simp only[execOp];refine r1 ?_;rw[<- List.map_toArray]at k1;simpa using k1
 case buildSlice t n parts =>
  obtain⟨v,c,σ',s',w',k1,k2,k3,k4,k5⟩:=wR hI (by simp) (Bx hR parts.toList) h;refine fB ?_ k2 k3 k4 k5;simp only[execOp];refine r1 ?_;rw[<- List.map_toArray]at k1;simpa using k1
 case load t x =>
  obtain⟨v,c,k1,k2,k3⟩:=Aj hI (Jl (hR.2.2 0) (hR.ev x)) h;exact same (by simp only[execOp];exact r1 k1) k2 k3
 case store t x y =>
  obtain⟨s',w',k1,k2,k3,k4⟩:=Gj hI (hR.ev x) (hR.ev y) h;unfold qE Oper.wp;simp only[execOp,Sem.run_bind,k1,Result.andThen_ok,Sem.run_pure,Oper.upon_skip];exact⟨undef,.un,σ,s',rfl,k2,k3,.un,k4⟩
 case nilCheck x =>
  unfold iO at h;have hx:=hR.ev x;split at h
  ·rename_i nK;rw[nK]at hx;generalize sg:a.eval x=QA at hx;cases hx with|d hx=>?_
   cases hx with|el _ ad f h1 h2 h3=>?_
   exact same (c:=.pointer (some ad)) (by simp [execOp,sg]) (.d (.el _ ad f h1 h2 h3)) h
  ·rename_i nK;obtain⟨o,ho,hg,h⟩:=ep h;rw[nK]at hx;obtain⟨b,base,_,_,hp⟩:=H8 hx ho hg;exact same (c:=a.eval x) (by simp [execOp,hp]) hx h
  ·rename_i nK;obtain⟨o,ho,hg,h⟩:=ep h;rw[nK]at hx;have hp:=hx.Ay;exact same (c:=a.eval x) (by simp [execOp,hp]) hx h
  ·rename_i nK;rw[nK]at hx;generalize sg:a.eval x=QA at hx;cases hx with|d hx=>?_
   cases hx with|sc _ hv=>?_
   exact same (by simp [execOp,sg]) (.d (.sc _ hv)) h
  ·rename_i nK;rw[nK]at hx;generalize sg:a.eval x=QA at hx;cases hx with|cl h1 h2 h3 h4=>?_
   exact same (c:=.func _ _ _) (by simp [execOp,sg]) (.cl h1 h2 h3 h4) h
  ·exact h.elim
 case binOp op t x y yt =>
  cases hn:Pz y with
  |true =>
   simp only[hn,cond_true]at h;have hy:y=.const (.slice none 0 0):=by
    unfold Pz at hn;split at hn
    ·rfl
    ·cases hn
   subst hy;obtain⟨v,c,k1,k2,k3⟩:=FV (xo:=x) (yo:=.const (.slice none 0 0)) (hR.ev x) h;exact same (by simp only[execOp];exact r1 k1) k2 k3
  |false =>
   simp only[hn,cond_false]at h;obtain⟨v,c,k1,k2,k3⟩:=Mg (xo:=x) (yo:=y) (hR.ev x) (hR.ev y) h;exact same (by simp only[execOp];exact r1 k1) k2 k3
 case unOp op t x =>
  obtain⟨v,c,k1,k2,k3⟩:=OF (P:=P) (hR.ev x) h;exact same (by simp only[execOp];exact r1 k1) k2 k3
 case convert src d x =>
  obtain⟨v,c,k1,k2,k3⟩:=Jf (hR.ev x) h;exact same (by simp only[execOp];exact r1 k1) k2 k3
 case makeFunc fn first ah =>
  have key:∀(l:Array Operand) (i:Nat) (x:V),(l.toList.map (ev e))[i]?=some x->aG σ s w x ((l.map a.eval).getD i undef):=by intro l i x hx;obtain⟨u,h1,h2⟩:=yD hR l.toList i x hx;have:=pt h1 undef;rw[<- List.map_toArray]at this;simp only[Array.toArray_toList]at this;rw[this];exact h2
  refine same (c:=.func fn (first.map a.eval) (ah.map a.eval)) (by simp [execOp,Instr.makeFunc]) (.cl (by simp) (key first) (by simp) (key ah)) h
 case makeSlice t l c =>
  obtain⟨v,r,σ',s',w',k1,k2,k3,k4,k5⟩:=yc hI (hR.ev l) (hR.ev c) h;exact fB (by simp only[execOp];exact r1 k1) k2 k3 k4 k5
 case slice t x lo hi mx =>
  have opt:∀(y:Option Operand) (v:V),y.map (ev e)=some v->∃c,y.map a.eval=some c/\aG σ s w v c:=by
   intro y v hv;cases y with
   |none=>cases hv
   |some y=>simp only[ad9,adp]at hv;subst hv;exact⟨_,rfl,hR.ev y⟩
  have Tw:∀(y:Option Operand),y.map (ev e)=none->y.map a.eval=none:=by
   intro y hv;cases y with
   |none=>rfl
   |some y=>cases hv
  obtain⟨v,c,k1,k2,k3⟩:=Fj (hR.ev x) (opt lo) (Tw lo) (opt hi) (Tw hi) (opt mx) (Tw mx) h;exact same (by simp only[execOp];exact r1 k1) k2 k3
 case fieldAddr t x f =>
  obtain⟨v,c,k1,k2,k3⟩:=x4 (hR.ev x) h;exact same (by simp only[execOp];exact r1 k1) k2 k3
 case field t x f =>
  obtain⟨v,c,k1,k2,k3⟩:=HA (hR.ev x) h;exact same (by simp only[execOp];exact r1 k1) k2 k3
 case indexAddr t x i =>
  obtain⟨v,c,k1,k2,k3⟩:=x6 (hR.ev x) (hR.ev i) h;exact same (by simp only[execOp];exact r1 k1) k2 k3
 case index t x i =>
  obtain⟨v,c,k1,k2,k3⟩:=Gp (hR.ev x) (hR.ev i) h;exact same (by simp only[execOp];exact r1 k1) k2 k3
 case extract x i =>
  unfold vL at h;have hx:=hR.ev x;split at h
  case h_2=>exact h.elim
  rename_i vs nK;rw[nK]at hx;split at h
  case h_2=>exact h.elim
  rename_i v hv;generalize sg:a.eval x=QA at hx;cases hx with|tu h1 h2=>?_
  rename_i arr;have aH:=(List.getElem?_eq_some_iff.1 hv).1;obtain⟨c,hc⟩:∃c,arr[i]?=some c:=⟨arr[i]'(by omega),by rw[Array.getElem?_eq_getElem]⟩
  have hd:arr.getD i undef=c:=by rw[adH,hc];rfl
  exact same (c:=c) (by simp [execOp,sg,Instr.extract,hc]) (by rw[<- hd];exact h2 i v hv) h
 case makeMap t r =>
  obtain⟨v,c,σ',s',w',k1,k2,k3,k4,k5⟩:=Bq (P:=P) hI h;have hr:r=none:=h.1;subst hr;exact fB (by simp only[execOp,Option.map_none];exact r1 k1) k2 k3 k4 k5
 case lookup t x i ok =>
  cases ok with
  |true=>exact h.elim
  |false =>
   simp only[cond_false]at h;obtain⟨v,c,k1,k2,k3⟩:=D0 hI (hR.ev x) (hR.ev i) h;exact same (by simp only[execOp];exact r1 k1) k2 k3
 case mapUpdate t x y z =>
  obtain⟨s',w',k1,k2,k3,k4⟩:=BH hI (hR.ev x) (hR.ev y) (hR.ev z) h;unfold qE Oper.wp;simp only[execOp,Sem.run_bind,k1,Result.andThen_ok,Sem.run_pure,Oper.upon_skip];exact⟨undef,.un,σ,s',rfl,k2,k3,.un,k4⟩
 case insert t x y z =>
  obtain⟨s',w',k1,k2,k3,k4⟩:=BH hI (hR.ev x) (hR.ev y) (hR.ev z) h;unfold qE Oper.wp;simp only[execOp,Sem.run_bind,k1,Result.andThen_ok,Sem.run_pure,Oper.upon_skip];exact⟨undef,.un,σ,s',rfl,k2,k3,.un,k4⟩
 case call c =>
  obtain⟨callee,args,argTypes⟩:=c;unfold gR at h;have KN:∀(l:List Operand),l=args.toList->∀(i:Nat) (x:V),(l.map (ev e))[i]?=some x->∃u,(args.map a.eval).toList[i]?=some u/\aG σ s w x u:=by rintro l rfl i x hx;obtain⟨u,h1,h2⟩:=yD hR args.toList i x hx;exact⟨u,by simpa using h1,h2⟩
  split at h
  ·rename_i f hf;simp only at hf;subst hf;refine FL (f:=f) (vals:=args.map a.eval) (by
    rw[execOp_call_go,Array.empty_append,Array.append_empty]) hI (by simp) (λi x hx=>?_) h
   obtain⟨u,h1,h2⟩:=KN _ rfl i x hx;have:=pt h1 undef;simp only[Array.toArray_toList]at this;rw[this];exact h2
  ·rename_i f _ hf;simp only at hf;subst hf;split at h
   ·rename_i g first ah cZ
    have hx:=ML (hR.2.2 0) (hR.ev f);rw[cZ]at hx;generalize sg:a.eval f=QA at hx;cases hx with|cl h1 h2 h3 h4=>?_
    rename_i f' c';refine FL (f:=g) (vals:=f'++args.map a.eval++c') (by
     simp [execOp,resolve,sg,Deferred.ofValue,invoke]) hI (by simp [h1,h3]) (λi x hx=>?_) h
    have gd:∀(arr:Array Value) (j:Nat),j<arr.size->arr[j]?=some (arr.getD j undef):=λarr j hj=>by simp [Array.getD,hj]
    by_cases fD:i<first.length
    ·rw[adX,adM fD]at hx;have:(f'++args.map a.eval++c').getD i undef=f'.getD i undef:=by rw[adH,Array.append_assoc,Array.getElem?_append_left (by omega),adH]
     rw[this];exact h2 i x hx
    ·rw[adX,adN (by omega)]at hx;simp only at hx;by_cases SJ:i-first.length<(args.toList.map (ev e)).length
     ·rw[adM SJ]at hx;obtain⟨u,k1,k2⟩:=KN _ rfl _ x hx;have:(f'++args.map a.eval++c').getD i undef=u:=by rw[adH,Array.append_assoc,Array.getElem?_append_right (by omega),Array.getElem?_append_left (by simp at SJ ⊢;omega),h1];rw[aed]at k1;rw[k1];rfl
      rw[this];exact k2
     ·rw[adN (by omega)]at hx;have:(f'++args.map a.eval++c').getD i undef=c'.getD (i-first.length-(args.toList.map (ev e)).length) undef:=by rw[adH,Array.append_assoc,Array.getElem?_append_right (by omega),Array.getElem?_append_right (by simp at SJ ⊢;omega),adH];congr 2;simp [h1]
      rw[this];exact h4 _ x hx
   ·exact h.elim
  ·rename_i b hb;simp only at hb;subst hb;have jF:∀(l:List Operand),args.toList=l->args=l.toArray:=λl hl=>by rw[<- hl]
   have Qv:∀(l:List TypeId),argTypes.toList=l->argTypes=l.toArray:=λl hl=>by rw[<- hl]
   split at h
   ·rename_i x t h1 h2;have e1:=jF _ h1;have e2:=Qv _ h2;subst e1;subst e2;obtain⟨v,c,k1,k2,k3⟩:=Ld (ty:=ty) (hR.ev x) h;exact same (by simp [execOp,resolve,invoke,builtin,k1]) k2 k3
   ·rename_i x y t t' h1 h2;have e1:=jF _ h1;have e2:=Qv _ h2;subst e1;subst e2;obtain⟨rfl,h⟩:=h;obtain⟨v,r,σ',s',w',k1,k2,k3,k4,k5⟩:=CO (ty:=ty) hI (hR.ev x) (hR.ev y) h;exact fB (by simp [execOp,resolve,invoke,builtin,k1]) k2 k3 k4 k5
   ·rename_i x y t t' h1 h2;have e1:=jF _ h1;have e2:=Qv _ h2;subst e1;subst e2;obtain⟨rfl,h⟩:=h;obtain⟨v,r,s',w',k1,k2,k3,k4,k5⟩:=Jn (ty:=ty) hI (hR.ev x) (hR.ev y) h;exact fB (by simp [execOp,resolve,invoke,builtin,k1]) k2 k3 k4 k5
   ·rename_i x t h1 h2;have e1:=jF _ h1;have e2:=Qv _ h2;subst e1;subst e2;obtain⟨v,r,s',w',k1,k2,k3,k4,k5⟩:=G4 (ty:=ty) hI (hR.ev x) h;exact fB (by simp [execOp,resolve,invoke,builtin,k1]) k2 k3 k4 k5
   ·rename_i x rest h1;have e1:=jF _ h1;subst e1;obtain⟨v,r,k1,k2,k3⟩:=pV (P:=P) (mn:=true) (rest.map (ev e)) (rest.map a.eval) (ev e x) (a.eval x) _ (hR.ev x) (by simp) (yD hR rest) h;simp only[if_true]at k1;exact same (by simp [execOp,resolve,invoke,builtin,Builtin.min_,k1]) k2 k3
   ·rename_i x rest h1;have e1:=jF _ h1;subst e1;obtain⟨v,r,k1,k2,k3⟩:=pV (P:=P) (mn:=false) (rest.map (ev e)) (rest.map a.eval) (ev e x) (a.eval x) _ (hR.ev x) (by simp) (yD hR rest) h;simp only[adq,if_false]at k1;exact same (by simp [execOp,resolve,invoke,builtin,Builtin.max_,k1]) k2 k3
   ·exact h.elim
  ·exact h.elim
abbrev Env:=Nat->V
variable{e:Env}
def cB (e:Env) (d:Nat) (v:V):Env:=λt=>if t=d then v else e t
def fZ (e:Env) (d:Option Nat) (v:V):Env :=
 match d with
 |none=>e
 |some d=>cB e d v
def dY (N:Nat) (d:Option Nat):Prop :=
 match d with
 |none=>True
 |some d=>d<N
theorem fj.put {σ s w N e a} (h:fj σ s w N e a) (hd:dY N d) (hv:aG σ s w v u):fj σ s w N (fZ e d v) (a.put d u):=by
 cases d with
 |none=>exact h
 |some d =>
  have Xw:d<N:=hd;refine⟨h.1,by simp [Act.put,h.2.1],λt=>?_⟩;simp only[Act.put,fZ,cB];by_cases ht:t=d
  ·subst ht;rw[ap rfl,adH,Array.getElem?_setIfInBounds_self_of_lt (by rw[h.2.1];exact Xw)];exact hv
  ·rw[am ht,adH,Array.getElem?_setIfInBounds_ne (Ne.symm ht),<- adH];exact h.2.2 t
def lJ (M:Nat) (e:Env):Env:=λt=>if (M >>> t) % 2=1 then e t else .any
theorem br{t:Nat}:lJ M e t=if (M >>> t) % 2=1 then e t else .any:=(rfl)
theorem mC{d:Nat}:lJ M (cB e d v)=if (M >>> d) % 2=1 then cB (lJ M e) d v else lJ M e:=by
 split <;> rename_i h <;> funext t <;> simp only[lJ,cB]
 ·by_cases ht:t=d
  ·subst ht;simp [h]
  ·simp [ht]
 ·by_cases ht:t=d
  ·subst ht;simp [h]
  ·simp [ht]
theorem kJ:lJ M (lJ M e)=lJ M e:=by funext t;simp only[lJ];split <;> rfl
theorem fj.trim {σ s w N M e a} (h:fj σ s w N e a):fj σ s w N (lJ M e) a:=by
 refine⟨h.1,h.2.1,λt=>?_⟩;unfold lJ;split
 ·exact h.2.2 t
 ·exact .any
theorem fj.bF {σ s w σ' s' w' N e a} (h:fj σ s w N e a) (hE:aW σ s w σ' s' w'):fj σ' s' w' N e a :=
 ⟨h.1,h.2.1,λt=>(h.2.2 t).bF hE⟩
def jR (full:List Oper) (g:Nat):Option Nat :=
 match full[g]? with
 |some o=>o.dst
 |none=>none
def jq (d:Option Nat) (e:Env) (want:Bool) (A B:Env->Prop):Prop :=
 match d with
 |none=>False
 |some d=>match e d with
  |.d (.sc (.bool b))=>(b=want->A (cB e d (.d (.sc (.bool want)))))/\(b=(!want)->B (cB e d (.d (.sc (.bool (!want))))))
  |.un=>B e
  |_=>False
theorem fj.same {σ s w N e a} (h:fj σ s w N e a) {d:Nat} (hv:e d=v):fj σ s w N (cB e d v) a:=by
 refine⟨h.1,h.2.1,λt=>?_⟩;unfold cB;split
 ·rename_i ht;subst ht;rw[<- hv];exact h.2.2 _
 ·exact h.2.2 t
theorem pR{σ s w N e a} (h:fj σ s w N e a) {g:Nat}{want:Bool} (ho:o.guard=some (g,want)) {A B:Env->Prop} (hg:jq (jR full g) e want A B) :
  ∃e',fj σ s w N e' a/\((Region.wanted o (yielded full.toArray a.tmps)=true/\A e')\/(Region.wanted o (yielded full.toArray a.tmps)=false/\B e')):=by
 unfold jq at hg;unfold Region.wanted;rw[ho];simp only;split at hg
 case h_1=>exact hg.elim
 rename_i d hd;unfold jR at hd;split at hd
 case h_2=>cases hd
 rename_i og SR;have hr:=h.2.2 d;split at hg
 ·rename_i b hb;rw[hb]at hr;generalize sg:a.tmps.getD d undef=c at hr;cases hr with|d hr=>?_
  cases hr with|sc _ _=>?_
  have Pl:a.tmps[d]?=some (.bool b):=by
   rw[adH]at sg;cases hx:a.tmps[d]? with
   |none=>rw[hx]at sg;cases sg
   |some y=>rw[hx]at sg;simp only[Option.getD_some]at sg;rw[sg]
  have hy:yielded full.toArray a.tmps g=some b:=by simp [yielded,SR,hd,Pl]
  rw[hy];by_cases Yr:b=want
  ·subst Yr;exact⟨_,h.same hb,.inl ⟨by simp,hg.1 rfl⟩⟩
  ·have Zn:b=!want:=by cases b <;> cases want <;> simp_all
   subst Zn;exact⟨_,h.same hb,.inr ⟨by simp,hg.2 rfl⟩⟩
 ·rename_i hb;rw[hb]at hr;generalize sg:a.tmps.getD d undef=c at hr;cases hr;have hy:yielded full.toArray a.tmps g=none:=by
   rw[adH]at sg;cases hx:a.tmps[d]? with
   |none=>simp [yielded,SR,hd,hx]
   |some y=>rw[hx]at sg;simp only[Option.getD_some]at sg;simp [yielded,SR,hd,hx,sg,undef]
  exact⟨e,h,.inr ⟨by rw[hy];rfl,hg⟩⟩
 ·exact hg.elim
def ma (P:Program) (N:Nat) (full:List Oper):List Oper->Env->List Obj->(Env->List Obj->Prop)->Prop
 |[],e,s,K=>K e s
 |o::rest,e,s,K=>dY N o.dst/\match o.guard with
  |none=>cP P o e s λv s'=>ma P N full rest (fZ e o.dst v) s' K
  |some (g,want)=>jq (jR full g) e want (λe=>cP P o e s λv s'=>ma P N full rest (fZ e o.dst v) s' K) (λe=>ma P N full rest (fZ e o.dst .un) s K)
theorem Oper.C9{K:Act->World->Prop}{Q:Exit->Act->World->Prop} (h:o.wp P a w K (λ_ _ _=>False)):o.wp P a w K Q:=by
 unfold Go.Oper.wp at *;generalize (execOp a.eval o).run P w=r at *;cases r with
 |ok n w' =>
  cases n <;> simp only[Oper.upon]at h ⊢ <;>
   first
    |exact h
    |exact Calls.mono h (λe Zu he=>by
      cases e with
      |returned v=>exact he
      |panicked ch=>exact he.elim
      |outgrown=>obtain⟨_,_,h'⟩:=he;exact h'.elim)
 |halt x w'=>cases x <;> simp only[Oper.upon]at h ⊢
def QX (σ0:Gh) (s0:List Obj) (w0:World) (N:Nat) (Q:Exit->Env->List Obj->Prop):Exit->Act->World->Prop :=
 λex a w=>∃e σ s,aW σ0 s0 w0 σ s w/\Inv σ s w/\fj σ s w N e a/\Q ex e s
theorem nz {P:Program}{N:Nat}{full:List Oper}{σ0:Gh}{s0:List Obj}{w0:World}{Q:Exit->Env->List Obj->Prop}:∀(l:List Oper) (e:Env) (s:List Obj) (σ:Gh) (w:World) (a:Act),
  aW σ0 s0 w0 σ s w->Inv σ s w->fj σ s w N e a->ma P N full l e s (λe s=>Q .normal e s)->wpList P full.toArray (QX σ0 s0 w0 N Q) l a w
 |[],e,s,σ,w,a,hE,hI,hR,h=>⟨e,σ,s,hE,hI,hR,h⟩
 |o::rest,e,s,σ,w,a,hE,hI,hR,h=>by
  obtain⟨hd,h⟩:=h;have run:∀e,fj σ s w N e a->(cP P o e s λv s'=>ma P N full rest (fZ e o.dst v) s' λe s=>Q .normal e s)->o.wp P a w (wpList P full.toArray (QX σ0 s0 w0 N Q) rest) (QX σ0 s0 w0 N Q):=by intro e hR h;refine Oper.wp_mono (λa' w' ⟨u,v,σ',s',ha,oI,gS,jb,hK⟩=>?_) (Oper.C9 (qc hI hR h));subst ha;exact nz rest _ s' σ' w' _ (hE.trans oI) gS ((hR.bF oI).put hd jb) hK
  unfold wpList;split at h
  ·rename_i hg;rw[ap (by simp [Region.wanted,hg])];exact .inl (run e hR h)
  ·rename_i g want hg;obtain⟨e',jb,⟨h1,h2⟩|⟨h1,h2⟩⟩:=pR hR hg h
   ·rw[ap h1];exact .inl (run e' jb h2)
   ·rw[am (by rw[h1];decide)];exact nz rest _ s σ w _ hE hI (jb.put hd .un) h2
def sY (B:Env->List Obj->Prop) (Q:Exit->Env->List Obj->Prop):Exit->Env->List Obj->Prop
 |.normal,e,s=>B e s
 |x,e,s=>Q x e s
def DF (id:Nat) (Q:Exit->Env->List Obj->Prop):Exit->Env->List Obj->Prop
 |.exit i,e,s=>if i=id then Q .normal e s else Q (.exit i) e s
 |x,e,s=>Q x e s
def n7 (x:V) (A B:Prop):Prop :=
 match x with
 |.d .ub=>A/\B
 |_=>fU x A B
def qG (P:Program) (N:Nat) (ops:List Oper) (e:Env) (s:List Obj) (K:Env->List Obj->Prop):Prop :=
 ∀(σ0:Gh) (s0:List Obj) (w0:World) (Q:Exit->Env->List Obj->Prop),(∀e s,K e s->Q .normal e s)->∀(σ:Gh) (w:World) (a:Act) (id:Nat),
  aW σ0 s0 w0 σ s w->Inv σ s w->fj σ s w N e a->(Code.region id ops.toArray true).wp P (QX σ0 s0 w0 N Q) a w
def cU (L:Nat) (e:Env) (s:List Obj) (e':Env) (s':List Obj):Prop :=
 ∀(σ0:Gh) (s0:List Obj) (w0:World) (σ:Gh) (w:World) (N:Nat) (a:Act),s0.length<=L->aW σ0 s0 w0 σ s w->Inv σ s w->fj σ s w N e a->∃σ',aW σ0 s0 w0 σ' s' w/\Inv σ' s' w/\fj σ' s' w N e' a
theorem cU.refl:cU L e s e s:=λ_ _ _ σ _ _ _ _ hE hI hR=>⟨σ,hE,hI,hR⟩
theorem cU.trans{e' WA:Env}{HM:List Obj} (h:cU L e s e' s') (k:cU L e' s' WA HM):cU L e s WA HM:=λσ0 s0 w0 σ w N a hL hE hI hR =>
 let ⟨σ',h1,h2,h3⟩:=h σ0 s0 w0 σ w N a hL hE hI hR
 k σ0 s0 w0 σ' w N a hL h1 h2 h3
def O0 (L:Nat) (body:(Exit->Env->List Obj->Prop)->Env->List Obj->Prop) (Q:Exit->Env->List Obj->Prop) (e:Env) (s:List Obj):Prop :=
 ∃I:Nat->Env->List Obj->Prop,(∃n e1 s1,cU L e s e1 s1/\I n e1 s1)/\∀n e s,I n e s->body (sY (λe s=>∃m e1 s1,m<n/\cU L e s e1 s1/\I m e1 s1) Q) e s
def NM (Q:Exit->Env->List Obj->Prop):Exit->Env->List Obj->Prop
 |.goto _,_,_=>False
 |ex,e,s=>Q ex e s
def codeWp (P:Program) (N L M:Nat):Code->(Exit->Env->List Obj->Prop)->Env->List Obj->Prop
 |.skip,Q,e,s=>Q .normal e s
 |.region _ ops draw,Q,e,s=>match draw with
  |false=>ma P N ops.toList ops.toList e s λe s=>Q .normal e s
  |true=>qG P N ops.toList e s λe s=>Q .normal e s
 |.seq a b,Q,e,s=>codeWp P N L M a (sY (codeWp P N L M b Q) Q) e s
 |.cond c a b,Q,e,s=>n7 (ev e c) (codeWp P N L M a Q (lJ M e) s) (codeWp P N L M b Q (lJ M e) s)
 |.block id c,Q,e,s=>codeWp P N L M c (DF id Q) e s
 |.loop c,Q,e,s=>O0 L (codeWp P N L M c) Q e s
 |.exit id,Q,e,s=>Q (.exit id) e s
 |.ret,Q,e,s=>Q .ret e s
 |.scope c,Q,e,s=>codeWp P N L M c (NM Q) e s
 |.label _,Q,e,s=>Q .normal e s
 |_,_,_,_=>False
def Qn (Q:Exit->Env->List Obj->Prop) (e:Env) (s:List Obj):Prop:=Q .normal e s
def cont (P:Program) (N:Nat) (full rest:List Oper) (e:Env) (d:Option Nat) (K:Env->List Obj->Prop) (v:V) (s:List Obj):Prop:=ma P N full rest (fZ e d v) s K
theorem vJ{rest:List Oper}{K:Env->List Obj->Prop}:cont P N full rest e d K v s=ma P N full rest (fZ e d v) s K:=(rfl)
theorem Dj {Q:Exit->Env->List Obj->Prop}:Qn Q e s=Q .normal e s:=(rfl)
theorem sJ{K:Env->List Obj->Prop}:ma P N full [] e s K=K e s:=(rfl)
theorem nH{Q:Exit->Env->List Obj->Prop}:codeWp P N L M .skip Q e s=Q .normal e s:=(rfl)
theorem lg{Q:Exit->Env->List Obj->Prop}:codeWp P N L M (.region id ops false) Q e s=ma P N ops.toList ops.toList e s (Qn Q):=(rfl)
theorem nT{Q:Exit->Env->List Obj->Prop}:codeWp P N L M (.region id ops true) Q e s=qG P N ops.toList e s (Qn Q):=(rfl)
theorem mD{Q:Exit->Env->List Obj->Prop}{a b:Code}:codeWp P N L M (.seq a b) Q e s=codeWp P N L M a (sY (codeWp P N L M b Q) Q) e s:=(rfl)
theorem jZ{Q:Exit->Env->List Obj->Prop}:codeWp P N L M (.block id c) Q e s=codeWp P N L M c (DF id Q) e s:=(rfl)
theorem nu{Q:Exit->Env->List Obj->Prop}:codeWp P N L M (.exit id) Q e s=Q (.exit id) e s:=(rfl)
theorem po{Q:Exit->Env->List Obj->Prop}:codeWp P N L M .ret Q e s=Q .ret e s:=(rfl)
theorem nE {B:Env->List Obj->Prop}{Q:Exit->Env->List Obj->Prop}:sY B Q .normal e s=B e s:=(rfl)
theorem uV {B:Env->List Obj->Prop}{Q:Exit->Env->List Obj->Prop}:sY B Q .ret e s=Q .ret e s:=(rfl)
theorem rN {B:Env->List Obj->Prop}{Q:Exit->Env->List Obj->Prop}:sY B Q (.exit i) e s=Q (.exit i) e s:=(rfl)
theorem nt {Q:Exit->Env->List Obj->Prop}:DF i Q .normal e s=Q .normal e s:=(rfl)
theorem vA {Q:Exit->Env->List Obj->Prop}:DF i Q .ret e s=Q .ret e s:=(rfl)
theorem sk {Q:Exit->Env->List Obj->Prop}{j:Nat}:DF i Q (.exit j) e s=if j=i then Q .normal e s else Q (.exit j) e s:=(rfl)
def M5 (L:Nat) (I:Nat->Env->List Obj->Prop) (n:Nat) (e:Env) (s:List Obj):Prop:=∃m e1 s1,m<n/\cU L e s e1 s1/\I m e1 s1
theorem aJ{Q:Exit->Env->List Obj->Prop} (I:Nat->Env->List Obj->Prop) (h0:∃n e1 s1,cU L e s e1 s1/\I n e1 s1) (h:∀n e s,I n e s->codeWp P N L M c (sY (M5 L I n) Q) e s) :
  codeWp P N L M (.loop c) Q e s:=⟨I,h0,h⟩
theorem dC {P:Program}{N L M:Nat}{σ0:Gh}{s0:List Obj}{w0:World} (hL:s0.length<=L):∀(c:Code) (Q:Exit->Env->List Obj->Prop) (e:Env) (s:List Obj) (σ:Gh) (w:World) (a:Act),
  aW σ0 s0 w0 σ s w->Inv σ s w->fj σ s w N e a->codeWp P N L M c Q e s->c.wp P (QX σ0 s0 w0 N Q) a w
 |.skip,Q,e,s,σ,w,a,hE,hI,hR,h=>wp_skip ⟨e,σ,s,hE,hI,hR,h⟩
 |.region id ops false,Q,e,s,σ,w,a,hE,hI,hR,h=>by refine wp_region_list ?_;have:=nz (Q:=Q) ops.toList e s σ w a hE hI hR h;simpa using this
 |.region id ops true,Q,e,s,σ,w,a,hE,hI,hR,h=>by have:=h σ0 s0 w0 Q (λ_ _ h=>h) σ w a id hE hI hR;simpa using this
 |.seq x y,Q,e,s,σ,w,a,hE,hI,hR,h=>by
  refine wp_seq (wp_mono (dC hL x _ e s σ w a hE hI hR h) λex a' w' ⟨e',σ',s',oI,gS,jb,hq⟩=>?_);cases ex with
  |normal=>exact dC hL y Q e' s' σ' w' a' oI gS jb hq
  |_=>exact⟨e',σ',s',oI,gS,jb,hq⟩
 |.cond c x y,Q,e,s,σ,w,a,hE,hI,hR,h=>by
  simp only[codeWp,n7]at h;split at h
  ·rename_i hb;have hc:=hR.ev c;rw[hb]at hc;generalize sg:a.eval c=QA at hc;cases hc with|d hc=>?_
   cases hc with|ub b=>?_
   refine wp_cond_split sg (λht=>?_) (λhf=>?_)
   ·exact dC hL x Q _ s σ w a hE hI hR.trim h.1
   ·exact dC hL y Q _ s σ w a hE hI hR.trim h.2
  unfold fU at h;split at h
  ·rename_i b hb;have hc:=hR.ev c;rw[hb]at hc;generalize sg:a.eval c=QA at hc;cases hc with|d hc=>?_
   cases hc with|sc _ _=>?_
   refine wp_cond_split sg (λht=>?_) (λhf=>?_)
   ·exact dC hL x Q _ s σ w a hE hI hR.trim (h.1 ht)
   ·exact dC hL y Q _ s σ w a hE hI hR.trim (h.2 hf)
  ·exact h.elim
 |.block id c,Q,e,s,σ,w,a,hE,hI,hR,h=>by
  refine wp_block (wp_mono (dC hL c _ e s σ w a hE hI hR h) λex a' w' ⟨e',σ',s',oI,gS,jb,hq⟩=>?_);cases ex with
  |exit i =>
   simp only[Exit.inBlock];simp only[DF]at hq;split
   ·rename_i hi;rw[ap hi]at hq;exact⟨e',σ',s',oI,gS,jb,hq⟩
   ·rename_i hi;rw[am hi]at hq;exact⟨e',σ',s',oI,gS,jb,hq⟩
  |_=>exact⟨e',σ',s',oI,gS,jb,hq⟩
 |.loop c,Q,e,s,σ,w,a,hE,hI,hR,h=>by
  obtain⟨I,⟨n0,e0,YU,KG,h0⟩,oK⟩:=h;obtain⟨σ,hE,hI,hR⟩:=KG σ0 s0 w0 σ w N a hL hE hI hR;let J:Nat->Act->World->Prop:=λn a w=>∃e σ s,aW σ0 s0 w0 σ s w/\Inv σ s w/\fj σ s w N e a/\I n e s;have least:∀a w,(∃n,J n a w)->∃n,J n a w/\∀m,J m a w->n<=m:=by
   intro a w ⟨n,hn⟩;induction n using Nat.strongRecOn with
   |_ n ih =>
    by_cases hm:∃m,m<n/\J m a w
    ·obtain⟨m,oa,A0⟩:=hm;exact ih m oa A0
    ·exact⟨n,hn,λm hj=>by
      rcases adV m n with h'|h'
      ·exact absurd ⟨m,h',hj⟩ hm
      ·exact h'⟩
  classical
  let μ:Act->World->Nat:=λa w=>if h:∃n,J n a w then Classical.choose (least a w h) else 0;have hμ:∀a w,(∃n,J n a w)->J (μ a w) a w/\∀m,J m a w->μ a w<=m:=by intro a w h;simp only[μ,dif_pos h];exact Classical.choose_spec (least a w h)
  refine wp_loop (λa w=>∃n,J n a w) μ ⟨n0,e0,σ,YU,hE,hI,hR,h0⟩ λa w hJ=>?_;obtain⟨⟨e1,σ1,s1,U5,YH,Y6,hi⟩,_⟩:=hμ a w hJ;refine wp_mono (dC hL c _ e1 s1 σ1 w a U5 YH Y6 (oK _ _ _ hi)) λex a' w' ⟨e',σ',s',oI,gS,jb,hq⟩=>?_;cases ex with
  |normal =>
   obtain⟨m,e2,s2,hm,hc,hi'⟩:=hq;obtain⟨σ',oI,gS,jb⟩:=hc σ0 s0 w0 σ' w' N a' hL oI gS jb;have hj:J m a' w':=⟨e2,σ',s2,oI,gS,jb,hi'⟩
   exact⟨⟨m,hj⟩,Nat.lt_of_le_of_lt ((hμ a' w' ⟨m,hj⟩).2 m hj) hm⟩
  |_=>exact⟨e',σ',s',oI,gS,jb,hq⟩
 |.exit id,Q,e,s,σ,w,a,hE,hI,hR,h=>wp_exit ⟨e,σ,s,hE,hI,hR,h⟩
 |.ret,Q,e,s,σ,w,a,hE,hI,hR,h=>wp_ret ⟨e,σ,s,hE,hI,hR,h⟩
 |.rangeFunc ..,_,_,_,_,_,_,_,_,_,h=>h.elim
 |.scope c,Q,e,s,σ,w,a,hE,hI,hR,h=>by
  refine wp_scope_straight (wp_mono (dC hL c (NM Q) e s σ w a hE hI hR h) λex a' w' ⟨e',σ',s',oI,gS,jb,hq⟩=>?_);cases ex with
  |goto l=>exact hq
  |_=>exact⟨e',σ',s',oI,gS,jb,hq⟩
 |.label _,Q,e,s,σ,w,a,hE,hI,hR,h=>wp_label ⟨e,σ,s,hE,hI,hR,h⟩
 |.goto _,_,_,_,_,_,_,_,_,_,h=>h.elim
 |.refuse _,_,_,_,_,_,_,_,_,_,h=>h.elim
def cE:Nat->Nat->List Obj->V->Option D
 |_,_,_,.d x=>some x
 |_,_,_,.fu aI=>some (.sl aI)
 |n+1,ck,s,.so id g lo m=>match s[id]? with
  |some o=>if o.g=g/\lo+m<=o.aI.length/\(ck<=id\/o.live=false) then
    (((o.aI.drop lo).take m).mapM λ(e:List V)=>e.mapM (cE n ck s)).map .sl else none
  |none=>none
 |n+1,ck,s,.rf id g k off=>match s[id]? with
  |some o=>if o.g=g/\(ck<=id\/o.live=false) then
    (match o.aI[k]? with
    |some e=>((e.drop off).mapM (cE n ck s)).map .el
    |none=>none) else none
  |none=>none
 |_,_,_,.pp _ _ _ _ b a=>some (.sc (.pointer (some ⟨b,a,none⟩)))
 |n+1,ck,s,.bx v=>(cE n ck s v).map λx=>.el [x]
 |n+1,ck,s,.cl fn first ah=>match first.mapM (cE n ck s),ah.mapM (cE n ck s) with
  |some f,some c=>some (.cl fn f c)
  |_,_=>none
 |_,_,_,_=>none
theorem sq (hI:Inv σ s w) (ck:Nat):∀(n:Nat) (x:V) (u:Value) (y:D),aG σ s w x u->cE n ck s x=some y->dt (Own σ (s.take ck)) w y u:=by
 have ix:∀b,Own σ (s.take ck) b->Own σ s b:=by
  rintro b (h|⟨id,o,base,h1,h2,h3⟩)
  ·exact .inl h
  ·rw[ad1]at h1;split at h1
   ·exact .inr ⟨id,o,base,h1,h2,h3⟩
   ·cases h1
 intro n;induction n with
 |zero =>
  intro x u y hr h;cases hr <;> simp only[cE,adp]at h <;> first|(cases h;done)|(subst h;exact dt.own ix (by assumption))|(subst h;exact .sc _ rfl)
 |succ n ih =>
  intro x u y hr h;cases hr with
  |d h'=>simp only[cE,adp]at h;subst h;exact dt.own ix h'
  |fu h'=>simp only[cE,adp]at h;subst h;exact dt.own ix h'
  |pp o ho hg hk=>simp only[cE,adp]at h;subst h;exact .sc _ rfl
  |bx h1 h2 h3 hu h4 =>
   simp only[cE]at h;obtain⟨z,hz,rfl⟩:=Option.map_eq_some_iff.1 h;rename_i v a u;refine dt.el [z] a (λ_=>u) h1 (λj x hx=>?_) (λj x hx=>?_)
   ·cases j with
    |zero=>exact⟨h2,λh'=>h3 (ix _ h')⟩
    |succ j=>simp at hx
   ·cases j with
    |zero=>simp at hx;subst hx;exact ih _ _ _ h4 hz
    |succ j=>simp at hx
  |cl h1 h2 h3 h4 =>
   simp only[cE]at h;split at h
   case h_2=>cases h
   rename_i f c hf hc;cases h;obtain⟨f1,f2⟩:=jc hf;obtain⟨c1,c2⟩:=jc hc;refine .cl (by omega) (λi x hx=>?_) (by omega) (λi x hx=>?_)
   ·obtain⟨z,k1,k2⟩:=f2 i x hx;exact ih _ _ _ (h2 i z k1) k2
   ·obtain⟨z,k1,k2⟩:=c2 i x hx;exact ih _ _ _ (h4 i z k1) k2
  |so o ho hg hu hk =>
   rename_i id g lo m;simp only[cE,ho]at h;split at h
   case isFalse=>cases h
   rename_i hc;obtain⟨uF,hlen,LF⟩:=hc;obtain⟨aI,oA,rfl⟩:=Option.map_eq_some_iff.1 h;obtain⟨m1,m2⟩:=jc oA;have hl:aI.length=m:=by rw[m1];simp;omega
   rcases hk uF with ⟨fW,⟨a,rfl⟩,rfl,rfl⟩|⟨b,base,cap,E,arr,g1,g2,rfl,g4,g5⟩
   ·have:aI=[]:=adJ hl;subst this;cases a with
    |none=>exact .nil
    |some a=>exact dt.sl [] a 0 0 (λ_ _=>undef) (by simp) (by simp) (by simp) (by simp) (by simp)
   ·rcases hI.content _ o ho with h1|⟨b',cr,cH,E',h1,h2,h3,h4,h5⟩
    ·exact(h1.CW g1 ⟨arr,E,g2⟩).elim
    rw[g1]at h1;cases h1;rw[g2]at h2;cases h2;have hO:¬Own σ (s.take ck) b:=by
     rintro (h|⟨kt,o',cr,k1,k2,k3⟩)
     ·exact hI.apart _ o b base ho g1 h
     ·rw[ad1]at k1;split at k1
      ·rename_i aH;have:=hI.inj kt id o' o b cr base k1 ho k2 k3 g1;subst this;rcases LF with h|h
       ·omega
       ·rw[ho]at k1;cases k1;rw[h]at k2;cases k2
      ·cases k1
    rw[<- hl];refine dt.I3 (sz:=o.sz) (by omega) (λe he=>?_) hO (λi j x hx=>?_)
    ·obtain⟨i,hi⟩:=List.mem_iff_getElem?.1 he;obtain⟨e',k1,k2⟩:=m2 i e hi;rw[(jc k2).1];exact h3 e' (List.mem_of_mem_drop (List.mem_of_mem_take (adw k1)))
    ·cases hi:aI[i]? with
     |none=>rw[hi]at hx;cases hx
     |some e =>
      rw[hi]at hx;obtain⟨e',k1,k2⟩:=m2 i e hi;obtain⟨v,k3,k4⟩:=(jc k2).2 j x hx;rw[ad1]at k1;split at k1
      case isFalse=>cases k1
      rw[List.getElem?_drop]at k1;obtain⟨c,c1,c2,c3⟩:=h5 (lo+i) j v (by rw[k1];exact k3);refine⟨c,?_,ih v c x c3 k4⟩;simp only[World.cell?,g2];rw[Nat.add_mul]at c1;simpa [Nat.add_assoc]using c1
  |rf o ho hg hu hk =>
   rename_i id g k off;simp only[cE,ho]at h;split at h
   case isFalse=>cases h
   rename_i hc;obtain⟨uF,LF⟩:=hc;split at h
   case h_2=>cases h
   rename_i e he;obtain⟨cs,nn,rfl⟩:=Option.map_eq_some_iff.1 h;obtain⟨m1,m2⟩:=jc nn;obtain⟨b,base,g1,gC,rfl⟩:=hk uF;rcases hI.content _ o ho with h1|⟨b',cr,cH,E',h1,h2,h3,h4,h5⟩
   ·exact(h1.CW g1 gC).elim
   rw[g1]at h1;cases h1;have hO:¬Own σ (s.take ck) b:=by
    rintro (h|⟨kt,o',cr,k1,k2,k3⟩)
    ·exact hI.apart _ o b base ho g1 h
    ·rw[ad1]at k1;split at k1
     ·rename_i aH;have:=hI.inj kt id o' o b cr base k1 ho k2 k3 g1;subst this;rcases LF with h|h
      ·omega
      ·rw[ho]at k1;cases k1;rw[h]at k2;cases k2
     ·cases k1
   have key:∀j x,cs[j]?=some x->∃c,w.cell? ⟨b,base+k*o.sz+off+j,none⟩=some c/\dt (Own σ (s.take ck)) w x c:=by intro j x hx;obtain⟨v,k3,k4⟩:=m2 j x hx;rw[List.getElem?_drop]at k3;obtain⟨c,c1,c2,c3⟩:=h5 k (off+j) v (by rw[he];exact k3);refine⟨c,?_,ih v c x c3 k4⟩;simp only[World.cell?,h2];simpa [Nat.add_assoc]using c1
   refine .el cs _ (λj=>(w.cell? ⟨b,base+k*o.sz+off+j,none⟩).getD undef) rfl (λj x hx=>⟨?_,hO⟩) (λj x hx=>?_)
   ·obtain⟨c,h1,_⟩:=key j x hx;simp only[h1,Option.getD_some]
   ·obtain⟨c,h1,W5⟩:=key j x hx;simp only[h1,Option.getD_some];exact W5
  |_=>simp [cE]at h
def ak (ck:Nat):V->Bool
 |.d _|.fu _|.un=>true
 |.so id _ _ _=>decide (id<ck)
 |.rf id _ _ _=>decide (id<ck)
 |.pp id _ _ _ _ _=>decide (id<ck)
 |.mp id _=>decide (id<ck)
 |.ag cs=>go cs
 |.tu cs=>go cs
 |.bx v=>ak ck v
 |.cl _ first ah=>go first&&go ah
 |.any=>true
where go:List V->Bool
 |[]=>true
 |v::vs=>ak ck v&&go vs
theorem dz {ck:Nat}:∀{l:List V},ak.go ck l=true->∀(i:Nat) (x:V),l[i]?=some x->ak ck x=true
 |[],_,i,x,hx=>by simp at hx
 |v::vs,h,i,x,hx=>by
  simp only[ak.go,adD]at h;cases i with
  |zero=>simp at hx;subst hx;exact h.1
  |succ i=>exact dz h.2 i x (by simpa using hx)
theorem aG.take (hr:aG σ s w x u) (h:ak ck x=true):aG σ (s.take ck) w x u:=by
 have ix:∀b,Own σ (s.take ck) b->Own σ s b:=by
  rintro b (h|⟨id,o,base,h1,h2,h3⟩)
  ·exact .inl h
  ·rw[ad1]at h1;split at h1
   ·exact .inr ⟨id,o,base,h1,h2,h3⟩
   ·cases h1
 induction hr with
 |d hx=>exact .d (hx.own ix)
 |ag h1 h2 _ ih=>exact .ag h1 h2 λi x hx=>ih i x hx (dz (by simpa only[ak]using h) i x hx)
 |tu h1 _ ih=>exact .tu h1 λi x hx=>ih i x hx (dz (by simpa only[ak]using h) i x hx)
 |fu hx=>exact .fu (hx.own ix)
 |so o ho hg hu hk =>
  simp only[ak,adC]at h;exact .so o (by rw[ad1,ap h];exact ho) hg hu hk
 |rf o ho hg hu hk =>
  simp only[ak,adC]at h;exact .rf o (by rw[ad1,ap h];exact ho) hg hu hk
 |pp o ho hg hk =>
  simp only[ak,adC]at h;exact .pp o (by rw[ad1,ap h];exact ho) hg hk
 |mp o ho hg hu hk =>
  simp only[ak,adC]at h;exact .mp o (by rw[ad1,ap h];exact ho) hg hu hk
 |bx h1 h2 h3 hu _ ih=>exact .bx h1 h2 (λh'=>h3 (ix _ h')) hu (ih (by simpa only[ak]using h))
 |cl h1 _ h3 _ uI ie =>
  simp only[ak,adD]at h;exact .cl h1 (λi x hx=>uI i x hx (dz h.1 i x hx)) h3 (λi x hx=>ie i x hx (dz h.2 i x hx))
 |un=>exact .un
 |any=>exact .any
def bf (ck:Nat) (s:List Obj):V->Option V
 |.d x=>some (.d x)
 |.fu aI=>some (.d (.sl aI))
 |.so id g lo m=>match cE 8 ck s (.so id g lo m) with
  |some x=>some (.d x)
  |none=>if id<ck then some (.so id g lo m) else none
 |.rf id g i off=>match cE 8 ck s (.rf id g i off) with
  |some x=>some (.d x)
  |none=>if id<ck then some (.rf id g i off) else none
 |.pp id g i off b a=>if id<ck then some (.pp id g i off b a) else some (.d (.sc (.pointer (some ⟨b,a,none⟩))))
 |.mp id g=>if id<ck then some (.mp id g) else none
 |.ag cs=>(go cs).map .ag
 |.tu cs=>(go cs).map .tu
 |.bx v=>(cE 8 ck s (.bx v)).map .d
 |.cl fn first ah=>match cE 8 ck s (.cl fn first ah) with
  |some x=>some (.d x)
  |none=>if ak ck (.cl fn first ah) then some (.cl fn first ah) else none
 |.un=>some .un
 |.any=>some .any
where go:List V->Option (List V)
 |[]=>some []
 |v::vs=>match bf ck s v,go vs with
  |some v',some vs'=>some (v'::vs')
  |_,_=>none
theorem pX {ck:Nat}{s:List Obj}:∀{l r:List V},bf.go ck s l=some r->r.length=l.length/\∀(i:Nat) (y:V),r[i]?=some y->∃x,l[i]?=some x/\bf ck s x=some y
 |[],r,h=>by simp [bf.go]at h;subst h;simp
 |v::vs,r,h=>by
  simp only[bf.go]at h;split at h
  ·rename_i v' vs' h1 h2;simp only[adp]at h;subst h;obtain⟨k1,k2⟩:=pX h2;refine⟨by simp [k1],λi y hy=>?_⟩;cases i with
   |zero=>simp at hy;subst hy;exact⟨v,rfl,h1⟩
   |succ i=>simpa using k2 i y (by simpa using hy)
  ·cases h
theorem iM (hI:Inv σ s w) (hr:aG σ s w x u):∀{y:V},bf ck s x=some y->aG σ (s.take ck) w y u:=by
 have ix:∀b,Own σ (s.take ck) b->Own σ s b:=by
  rintro b (h|⟨id,o,base,h1,h2,h3⟩)
  ·exact .inl h
  ·rw[ad1]at h1;split at h1
   ·exact .inr ⟨id,o,base,h1,h2,h3⟩
   ·cases h1
 induction hr with
 |d hx=>intro y h;simp only[bf,adp]at h;subst h;exact .d (hx.own ix)
 |fu hx=>intro y h;simp only[bf,adp]at h;subst h;exact .d (hx.own ix)
 |so o ho hg hu hk =>
  intro y h;simp only[bf]at h;split at h
  ·rename_i z hz;simp only[adp]at h;subst h;exact .d (sq hI ck 8 _ _ z (.so o ho hg hu hk) hz)
  ·split at h
   ·simp only[adp]at h;subst h;exact aG.take (.so o ho hg hu hk) (by simpa [ak]using ‹_›)
   ·cases h
 |rf o ho hg hu hk =>
  intro y h;simp only[bf]at h;split at h
  ·rename_i z hz;simp only[adp]at h;subst h;exact .d (sq hI ck 8 _ _ z (.rf o ho hg hu hk) hz)
  ·split at h
   ·simp only[adp]at h;subst h;exact aG.take (.rf o ho hg hu hk) (by simpa [ak]using ‹_›)
   ·cases h
 |pp o ho hg hk =>
  intro y h;simp only[bf]at h;split at h
  ·simp only[adp]at h;subst h;exact aG.take (.pp o ho hg hk) (by simpa [ak]using ‹_›)
  ·simp only[adp]at h;subst h;exact .d (.sc _ rfl)
 |mp o ho hg hu hk =>
  intro y h;simp only[bf]at h;split at h
  ·simp only[adp]at h;subst h;exact aG.take (.mp o ho hg hu hk) (by simpa [ak]using ‹_›)
  ·cases h
 |ag h1 h2 _ ih =>
  intro y h;simp only[bf]at h;obtain⟨cs,nn,rfl⟩:=Option.map_eq_some_iff.1 h;obtain⟨k1,k2⟩:=pX nn;refine .ag (by omega) (λi x hx=>?_) (λi x hx=>?_)
  ·obtain⟨z,hz,_⟩:=k2 i x hx;exact h2 i z hz
  ·obtain⟨z,hz,TI⟩:=k2 i x hx;exact ih i z hz TI
 |tu h1 _ ih =>
  intro y h;simp only[bf]at h;obtain⟨cs,nn,rfl⟩:=Option.map_eq_some_iff.1 h;obtain⟨k1,k2⟩:=pX nn;refine .tu (by omega) (λi x hx=>?_);obtain⟨z,hz,TI⟩:=k2 i x hx;exact ih i z hz TI
 |bx h1 h2 h3 hu h4 =>
  intro y h;simp only[bf]at h;obtain⟨z,hz,rfl⟩:=Option.map_eq_some_iff.1 h;exact .d (sq hI ck 8 _ _ z (.bx h1 h2 h3 hu h4) hz)
 |cl h1 h2 h3 h4 =>
  intro y h;simp only[bf]at h;split at h
  ·rename_i z hz;simp only[adp]at h;subst h;exact .d (sq hI ck 8 _ _ z (.cl h1 h2 h3 h4) hz)
  ·split at h
   ·simp only[adp]at h;subst h;exact aG.take (.cl h1 h2 h3 h4) (by assumption)
   ·cases h
 |un=>intro y h;simp only[bf,adp]at h;subst h;exact .un
 |any=>intro y h;simp only[bf,adp]at h;subst h;exact .any
def bJ (ck:Nat) (o:Obj):Bool:=o.aI.all λe=>e.all (ak ck)
def JM (ck:Nat) (s:List Obj) (r:V) (K:V->List Obj->Prop):Prop :=
 (s.take ck).all (bJ ck)=true/\match bf ck s r with
  |some r'=>K r' (s.take ck)
  |none=>False
theorem aW.take {σ s w σ' s' w'} (h:aW σ s w σ' s' w') (hl:s.length<=ck):aW σ s w σ' (s'.take ck) w':=by
 refine⟨h.os,h.tape,h.output,h.size,h.bO,h.shape,h.rG,λb hb=>h.own b ?_,λid o ho=>?_,h.base,h.ga⟩
 ·rcases hb with hb|⟨id,o,base,h1,h2,h3⟩
  ·exact .inl hb
  ·rw[ad1]at h1;split at h1
   ·exact .inr ⟨id,o,base,h1,h2,h3⟩
   ·cases h1
 ·obtain⟨o',h1,h2⟩:=h.aB id o ho;have:=(List.getElem?_eq_some_iff.1 ho).1;exact⟨o',by rw[ad1,ap (by omega)];exact h1,h2⟩
theorem Inv.take (h:Inv σ s w) (ho:(s.take ck).all (bJ ck)=true):Inv σ (s.take ck) w:=by
 have get:∀(id:Nat) (o:Obj),(s.take ck)[id]?=some o->s[id]?=some o:=by
  intro id o hh;rw[ad1]at hh;split at hh
  ·exact hh
  ·cases hh
 refine⟨λid o hh=>?_,λid kt o o' b base cr h1 h2=>h.inj id kt o o' b base cr (get _ _ h1) (get _ _ h2),h.low,λid o b base h1=>h.apart id o b base (get _ _ h1)⟩;rcases h.content id o (get _ _ hh) with h1|⟨b,base,arr,E,h1,h2,h3,h4,h5⟩
 ·exact .inl h1
 ·refine .inr ⟨b,base,arr,E,h1,h2,h3,h4,λi j x hx=>?_⟩;obtain⟨u,k1,k2,k3⟩:=h5 i j x hx;refine⟨u,k1,k2,k3.take ?_⟩;have hobj:=List.all_eq_true.1 ho o (adw hh);cases Ab:o.aI[i]? with
  |none=>rw[Ab]at hx;cases hx
  |some e =>
   rw[Ab]at hx;exact List.all_eq_true.1 (List.all_eq_true.1 hobj e (adw Ab)) x (adw hx)
def Ii (P:Program) (e:Env) (s:List Obj) (r:ResultVar) (K:V->Prop):Prop :=
 match r with
 |.tmp t=>K (e t)
 |.cell a t=>jM P t s (e a) K
def DE (P:Program) (e:Env) (s:List Obj):List ResultVar->List V->(List V->Prop)->Prop
 |[],acc,K=>K acc
 |r::rs,acc,K=>Ii P e s r λv=>DE P e s rs (acc++[v]) K
def An (P:Program) (rs:List ResultVar) (e:Env) (s:List Obj) (K:V->Prop):Prop :=
 DE P e s rs [] λvs=>match vs with
  |[v]=>K v
  |vs=>K (.tu vs)
def QF (tmps:Array Value):ResultVar->Sem Value
 |.tmp t=>pure (tmps.getD t undef)
 |.cell x t=>do loadVar t (<- asAddr (tmps.getD x undef))
theorem I5 (fn:Func) (tmps:Array Value):results fn tmps=(do let vs <- fn.results.mapM (QF tmps);pure (if h:vs.size=1 then vs[0] else .tuple vs)):=by unfold results;congr 1
theorem IW{r:ResultVar}{K:V->Prop} (hI:Inv σ s w) (hR:fj σ s w N e a) (h:Ii P e s r K) :
  ∃v c,(QF a.tmps r).run P w=.ok c w/\aG σ s w v c/\K v:=by
 cases r with
 |tmp t=>exact⟨e t,_,rfl,hR.2.2 t,h⟩
 |cell x t =>
  simp only[Ii]at h;have hx:=hR.2.2 x;generalize sg:a.tmps.getD x undef=c at hx;obtain⟨v,r,k1,k2,k3⟩:=Aj hI hx h;have hp:∃ad,c=.pointer (some ad):=by
   unfold jM at h;split at h
   ·exact h.elim
   ·split at h
    ·rename_i hh;rw[hh]at hx;cases hx with|d hx=>?_
     cases hx with|el _ ad _ _ _ _=>exact⟨ad,rfl⟩
    ·rename_i hh;rw[hh]at hx;cases hx with|bx _ _ _ _ _=>exact⟨_,rfl⟩
    ·rename_i hh;rw[hh]at hx;split at h
     ·exact h.elim
     ·rename_i o ho;obtain⟨b,base,_,_,hp⟩:=H8 hx ho h.1;exact⟨_,hp⟩
    ·rename_i hh;rw[hh]at hx;exact⟨_,hx.Ay⟩
    ·exact h.elim
  obtain⟨ad,rfl⟩:=hp;refine⟨v,r,?_,k2,k3⟩;simp only[QF,sg,asAddr,Sem.run_bind,Sem.run_pure,Result.andThen_ok];simpa [Instr.loadAt,Instr.sureAddr]using k1
theorem zy {P:Program}{N:Nat}{σ:Gh}{s:List Obj}{w:World}{e:Env}{a:Act} (hI:Inv σ s w) (hR:fj σ s w N e a):∀(rs:List ResultVar) (acc:List V) (K:List V->Prop),DE P e s rs acc K ->
  ∃vs us,(rs.mapM (QF a.tmps)).run P w=.ok us w/\us.length=vs.length /\
   (∀(i:Nat) (x:V),vs[i]?=some x->∃u,us[i]?=some u/\aG σ s w x u)/\K (acc++vs)
 |[],acc,K,h=>⟨[],[],by simp,rfl,by simp,by simpa [DE]using h⟩
 |r::rs,acc,K,h=>by
  simp only[DE]at h;obtain⟨v,c,k1,k2,k3⟩:=IW hI hR h;obtain⟨vs,us,m1,m2,m3,m4⟩:=zy hI hR rs _ K k3;refine⟨v::vs,c::us,?_,by simp [m2],λi x hx=>?_,by simpa using m4⟩
  ·rw[List.mapM_cons,Sem.run_bind,k1,Result.andThen_ok,Sem.run_bind,m1,Result.andThen_ok];rfl
  ·cases i with
   |zero=>simp at hx;subst hx;exact⟨c,rfl,k2⟩
   |succ i=>simpa using m3 i x (by simpa using hx)
theorem nF{fn:Func}{K:V->Prop} (hI:Inv σ s w) (hR:fj σ s w N e a) (h:An P fn.results.toList e s K) :
  ∃v c,(results fn a.tmps).run P w=.ok c w/\aG σ s w v c/\K v:=by
 obtain⟨vs,us,m1,m2,m3,m4⟩:=zy hI hR _ _ _ h;have dJ:(results fn a.tmps).run P w=.ok (if h:us.toArray.size=1 then us.toArray[0] else .tuple us.toArray) w:=by rw[I5];rw[<- Array.toArray_toList (xs:=fn.results),List.mapM_toArray];simp only[Sem.run_bind,Sem.run_map,m1,Result.andThen_ok,Sem.run_pure]
 rw[dJ];simp only[adt]at m4;split at m4
 ·rename_i v;have hlen:us.length=1:=by simpa using m2
  obtain⟨u,hu,NF⟩:=m3 0 v rfl;refine⟨v,u,?_,NF,m4⟩;rw[dif_pos (by simpa using hlen)];have:=(List.getElem?_eq_some_iff.1 hu).2;simp [this]
 ·rename_i fG;have hlen:us.length≠1:=by
   intro hh;rw[m2]at hh
   match vs,hh,fG with
   |[v],_,fG=>exact fG v rfl
  refine⟨.tu vs,.tuple us.toArray,by rw[dif_neg (by simpa using hlen)],.tu (by simpa using m2) (λi x hx=>?_),m4⟩;obtain⟨u,hu,NF⟩:=m3 i x hx;rw[pt hu];exact NF
def iQ:List V->Env
 |[],_=>.un
 |v::_,0=>v
 |_::l,n+1=>iQ l n
theorem oC:∀(l:List V) (t:Nat),iQ l t=(l[t]?).getD .un
 |[],t=>by simp [iQ]
 |v::l,0=>rfl
 |v::l,t+1=>by simp [iQ,oC l t]
def yl:Exit->Prop
 |.normal=>True
 |.ret=>True
 |_=>False
theorem rM (h:yl ex):ex=.normal\/ex=.ret:=by
 cases ex <;> simp_all [yl]
def Ut (P:Program) (rs:List ResultVar) (ck:Nat) (K:V->List Obj->Prop) (ex:Exit) (e:Env) (s:List Obj):Prop:=yl ex/\An P rs e s λr=>JM ck s r K
theorem vQ{rs:List ResultVar}{K:V->List Obj->Prop}:Ut P rs ck K ex e s=(yl ex/\An P rs e s λr=>JM ck s r K):=rfl
theorem ar {P : Program} {f : FuncId} {fn : Func} {c : Code} {args : List V} {exts : List Obj} {K : V → List Obj → Prop} (hf : P.funcs[f]? = some fn) (hb : fn.body = some c) {N : Nat} (hN : fn.ntmps = N) {rs : Array ResultVar} (Tq : fn.results = rs) (hn : (fn.name != "runtime.NumGoroutine") = true)
  (ck M:Nat) (hl:exts.length<=ck) (ha:args.length<=N)
  (h:codeWp P N ck M c (Ut P rs.toList ck K) (iQ args) exts):au P f args exts K:=by
 subst hN;subst Tq;refine⟨by simp only[Iq,hf,hn,hb,Option.isSome_some,Bool.and_self],λσ w vals hI Un hv=>?_⟩;refine calls_of_wp hf hb ?_;have hR:fj σ exts w fn.ntmps (iQ args) { tmps:=vals++Array.replicate (fn.ntmps-vals.size) undef,defers:=[] }:=by
  refine⟨rfl,by simp;omega,λt=>?_⟩;rw[oC];by_cases ht:t<args.length
  ·have h1:=hv t args[t] (by simp [ht]);have:(vals++Array.replicate (fn.ntmps-vals.size) undef).getD t undef=vals.getD t undef:=by rw[adH,Array.getElem?_append_left (by omega),adH]
   rw[this];simpa [ht]using h1
  ·have:(vals++Array.replicate (fn.ntmps-vals.size) undef).getD t undef=undef:=by rw[adH,Array.getElem?_append_right (by omega),Array.getElem?_replicate];split <;> rfl
   rw[this];simp [ht];exact .un
 refine wp_mono (dC hl c _ (iQ args) exts σ w _ (aW.refl _ _ _) hI hR h) λex a' w' ⟨e',σ',s',hE,gS,jb,hex,hq⟩=>?_;obtain⟨v,u,k1,k2,k3⟩:=nF gS jb hq;obtain⟨h1,h2⟩:=k3;have fin:a'.defers=[]/\∃v,(results fn a'.tmps).run P w'=.ok v w'/\∃u Ob uj pP,Ending.returned v=.returned u/\aW σ exts w uj pP w'/\Inv uj pP w'/\aG uj pP w' Ob u/\K Ob pP:=by
  refine⟨jb.1,u,k1,?_⟩;split at h2
  ·rename_i r' Qi;exact⟨u,r',σ',s'.take ck,rfl,hE.take hl,gS.take h1,iM gS k2 Qi,h2⟩
  ·exact h2.elim
 rcases rM hex with rfl|rfl
 ·exact fin
 ·exact fin
theorem aj{K K':V->List Obj->Prop} (h:au P f args s K) (hk:∀v s',K v s'->K' v s'):au P f args s K' :=
 ⟨h.1,λσ w vals hI hl hv=>(h.2 σ w vals hI hl hv).mono λ_ _ ⟨u,v,σ',s',a,b,c,d,e⟩=>⟨u,v,σ',s',a,b,c,d,hk v s' e⟩⟩
theorem aG.move (hr:aG σ s w x u) (h:ak 0 x=true) (ix:∀b,Own σ' s' b->Own σ s b):aG σ' s' w x u:=by
 induction hr with
 |d hx=>exact .d (hx.own ix)
 |ag h1 h2 _ ih=>exact .ag h1 h2 λi x hx=>ih i x hx (dz (by simpa only[ak]using h) i x hx)
 |tu h1 _ ih=>exact .tu h1 λi x hx=>ih i x hx (dz (by simpa only[ak]using h) i x hx)
 |fu hx=>exact .fu (hx.own ix)
 |so o ho hg hu hk=>simp [ak]at h
 |rf o ho hg hu hk=>simp [ak]at h
 |pp o ho hg hk=>simp [ak]at h
 |mp o ho hg hu hk=>simp [ak]at h
 |bx h1 h2 h3 hu _ ih=>exact .bx h1 h2 (λh'=>h3 (ix _ h')) hu (ih (by simpa only[ak]using h))
 |cl h1 _ h3 _ uI ie =>
  simp only[ak,adD]at h;exact .cl h1 (λi x hx=>uI i x hx (dz h.1 i x hx)) h3 (λi x hx=>ie i x hx (dz h.2 i x hx))
 |un=>exact .un
 |any=>exact .any
theorem I8 (ck:Nat) (l:List D):ak.go ck (l.map .d)=true:=by
 induction l with
 |nil=>rfl
 |cons x l ih=>simp [ak.go,ak,ih]
def ba (P:Program) (f:FuncId) (args:List V) (r:V):Prop:=au P f args [] λv s'=>v=r/\s'=[]
theorem az{r:V}{K:V->List Obj->Prop} (h:ba P f args r) (ha:ak.go 0 args=true) (hr:ak 0 r=true) (hk:K r s):au P f args s K:=by
 refine⟨h.1,λσ w vals hI hl hv=>?_⟩;have e1:∀b,Own ⟨λ_=>none,Own σ s⟩ [] b->Own σ s b:=by
  rintro b (h|⟨id,o,base,h1,_⟩)
  ·exact h
  ·simp at h1
 refine(h.2 ⟨λ_=>none,Own σ s⟩ w vals ⟨λid o ho=>by simp at ho,λid _ o _ _ _ _ ho=>by simp at ho,λb hb=>ud hI hb,λid o _ _ ho=>by simp at ho⟩ hl
  (λi x hx=>(hv i x hx).move (dz ha i x hx) e1)).mono λe w' ⟨u,v,σ',s',he,hE,gS,hR,RW,ng⟩=>?_
 subst RW;subst ng;have same:=qI (w':=w') hI hE.os hE.tape hE.output hE.size λb hb=>by
  by_cases ho:Own σ s b
  ·exact hE.ga b hb ho
  ·exact hE.bO b hb λh'=>ho (e1 b h')
 refine⟨u,_,σ,s,he,same.1,same.2,hR.move hr λb hb=>.inl ?_,hk⟩;rw[hE.base];exact hb
def aX (ρ:List Nat):V->V
 |.so id g lo n=>.so (ρ.getD id 0) g lo n
 |.rf id g i off=>.rf (ρ.getD id 0) g i off
 |.pp id g i off b a=>.pp (ρ.getD id 0) g i off b a
 |.mp id g=>.mp (ρ.getD id 0) g
 |.ag cs=>.ag (go cs)
 |.tu cs=>.tu (go cs)
 |.bx v=>.bx (aX ρ v)
 |.cl fn first ah=>.cl fn (go first) (go ah)
 |.d x=>.d x
 |.fu aI=>.fu aI
 |.un=>.un
 |.any=>.any
where go:List V->List V
 |[]=>[]
 |v::vs=>aX ρ v::go vs
theorem ia (ρ:List Nat):∀(l:List V),aX.go ρ l=l.map (aX ρ)
 |[]=>rfl
 |v::vs=>by simp [aX.go,ia ρ vs]
def bp (ρ:List Nat) (o:Obj):Obj:={ o with aI:=o.aI.map (aX.go ρ) }
def aZ (s:List Obj):List Nat->List Obj->List Obj
 |r::ρ,o::os=>aZ (s.set r o) ρ os
 |_,_=>s
theorem mG:∀(ρ:List Nat) (os:List Obj) (s:List Obj),(aZ s ρ os).length=s.length
 |[],_,s=>by simp [aZ]
 |r::ρ,[],s=>by simp [aZ]
 |r::ρ,o::os,s=>by simp [aZ,mG ρ os]
theorem fV:∀(ρ:List Nat) (os:List Obj) (s:List Obj) (id:Nat),id ∉ ρ->(aZ s ρ os)[id]?=s[id]?
 |[],_,s,id,_=>by simp [aZ]
 |r::ρ,[],s,id,_=>by simp [aZ]
 |r::ρ,o::os,s,id,h=>by simp only[aeg,not_or]at h;simp only[aZ];rw[fV ρ os _ id h.2,List.getElem?_set_ne (Ne.symm h.1)]
theorem uo:∀(ρ:List Nat) (os:List Obj) (s:List Obj) (k r:Nat) (o:Obj),ρ.Nodup->ρ[k]?=some r->os[k]?=some o->r<s.length->(aZ s ρ os)[r]?=some o
 |[],_,s,k,r,o,_,h,_,_=>by simp at h
 |r'::ρ,[],s,k,r,o,_,_,h,_=>by simp at h
 |r'::ρ,o'::os,s,k,r,o,hn,h1,h2,h3=>by
  simp only[List.nodup_cons]at hn;simp only[aZ];cases k with
  |zero =>
   simp only[adU,adp]at h1 h2;subst h1;subst h2;rw[fV ρ os _ r' hn.1,List.getElem?_set_self h3]
  |succ k=>exact uo ρ os _ k r o hn.2 (by simpa using h1) (by simpa using h2) (by simpa using h3)
section frame
variable {σ:Gh}{s exts:List Obj}{ρ:List Nat}{w:World}
variable{u:Value}{x:V}{p:Option (Nat×Nat)}{o:Obj}
theorem u9 {σc:Gh} (xb:∀b,Own σc exts b->Own σ s b) (hs:∀(k:Nat) (o:Obj),exts[k]?=some o->s[ρ.getD k 0]?=some (bp ρ o)) (hσ:∀k,k<exts.length->σc k=σ (ρ.getD k 0))
  {y:V} (hr:aG σ s w y u):∀{x:V},aX ρ x=y->ak exts.length x=true->aG σc exts w x u:=by
 induction hr with
 |d hx=>intro x he hh;cases x <;> simp only[aX,reduceCtorEq,V.d.injEq]at he;subst he;exact .d (hx.own xb)
 |fu hx=>intro x he hh;cases x <;> simp only[aX,reduceCtorEq,V.fu.injEq]at he;subst he;exact .fu (hx.own xb)
 |un=>intro x he hh;cases x <;> simp only[aX,reduceCtorEq]at he;exact .un
 |any=>intro x he hh;cases x <;> simp only[aX,reduceCtorEq]at he;exact .any
 |ag h1 h2 _ ih =>
  intro x he hh;cases x <;> simp only[aX,reduceCtorEq,V.ag.injEq]at he;rename_i cs;subst he;rw[ia]at h1 h2 ih;have g:∀(i:Nat) (x:V),cs[i]?=some x->(cs.map (aX ρ))[i]?=some (aX ρ x):=λi x hx=>by rw[adL,hx];rfl
  exact .ag (by simpa using h1) (λi x hx=>h2 i _ (g i x hx)) (λi x hx=>ih i _ (g i x hx) rfl (dz (by simpa only[ak]using hh) i x hx))
 |tu h1 _ ih =>
  intro x he hh;cases x <;> simp only[aX,reduceCtorEq,V.tu.injEq]at he;rename_i cs;subst he;rw[ia]at h1 ih;have g:∀(i:Nat) (x:V),cs[i]?=some x->(cs.map (aX ρ))[i]?=some (aX ρ x):=λi x hx=>by rw[adL,hx];rfl
  exact .tu (by simpa using h1) (λi x hx=>ih i _ (g i x hx) rfl (dz (by simpa only[ak]using hh) i x hx))
 |bx h1 h2 h3 hu _ ih =>
  intro x he hh;cases x <;> simp only[aX,reduceCtorEq,V.bx.injEq]at he;exact .bx h1 h2 (λh'=>h3 (xb _ h')) hu (ih he (by simpa only[ak]using hh))
 |cl h1 _ h3 _ uI ie =>
  intro x he hh;cases x <;> simp only[aX,reduceCtorEq,V.cl.injEq]at he;rename_i fn first ah
  obtain⟨rfl,rfl,rfl⟩:=he;rw[ia]at h1 uI h3 ie;simp only[ak,adD]at hh;have g:∀(cs:List V) (i:Nat) (x:V),cs[i]?=some x->(cs.map (aX ρ))[i]?=some (aX ρ x):=λcs i x hx=>by rw[adL,hx];rfl
  exact .cl (by simpa using h1) (λi x hx=>uI i _ (g _ i x hx) rfl (dz hh.1 i x hx)) (by simpa using h3) (λi x hx=>ie i _ (g _ i x hx) rfl (dz hh.2 i x hx))
 |so o ho hg hu hk =>
  intro x he hh;cases x <;> simp only[aX,reduceCtorEq,V.so.injEq]at he;rename_i id g lo n;obtain⟨rfl,rfl,rfl,rfl⟩:=he;simp only[ak,adC]at hh;have hx:=hs id exts[id] (by simp [hh]);rw[ho]at hx;simp only[adp]at hx;subst hx;refine .so exts[id] (by simp [hh]) hg hu λuF=>?_;have:=hk uF;unfold Bs at this ⊢;rw[hσ id hh];exact this
 |rf o ho hg hu hk =>
  intro x he hh;cases x <;> simp only[aX,reduceCtorEq,V.rf.injEq]at he;rename_i id g lo n;obtain⟨rfl,rfl,rfl,rfl⟩:=he;simp only[ak,adC]at hh;have hx:=hs id exts[id] (by simp [hh]);rw[ho]at hx;simp only[adp]at hx;subst hx;refine .rf exts[id] (by simp [hh]) hg hu λuF=>?_;rw[hσ id hh];exact hk uF
 |pp o ho hg hk =>
  intro x he hh;cases x <;> simp only[aX,reduceCtorEq,V.pp.injEq]at he;rename_i id g lo n b a;obtain⟨rfl,rfl,rfl,rfl,rfl,rfl⟩:=he;simp only[ak,adC]at hh;have hx:=hs id exts[id] (by simp [hh]);rw[ho]at hx;simp only[adp]at hx;subst hx;refine .pp exts[id] (by simp [hh]) hg λuF=>?_;rw[hσ id hh];exact hk uF
 |mp o ho hg hu hk =>
  intro x he hh;cases x <;> simp only[aX,reduceCtorEq,V.mp.injEq]at he;rename_i id g;obtain⟨rfl,rfl⟩:=he;simp only[ak,adC]at hh;have hx:=hs id exts[id] (by simp [hh]);rw[ho]at hx;simp only[adp]at hx;subst hx;refine .mp exts[id] (by simp [hh]) hg hu λuF=>?_;rw[hσ id hh];exact hk uF
theorem Oh {σ' σn:Gh}{s' sn:List Obj}{w':World} (xb:∀b,Own σn sn b->Own σ' s' b) (hs:∀(k:Nat) (o:Obj),s'[k]?=some o->sn[ρ.getD k 0]?=some (bp ρ o)) (hσ:∀k,k<s'.length->σn (ρ.getD k 0)=σ' k)
  (hr:aG σ' s' w' x u):aG σn sn w' (aX ρ x) u:=by
 have g:∀(cs:List V) (i:Nat) (y:V),(cs.map (aX ρ))[i]?=some y->∃x,cs[i]?=some x/\aX ρ x=y:=λcs i y hy=>by rw[adL]at hy;exact Option.map_eq_some_iff.1 hy
 induction hr with
 |d hx=>exact .d (hx.own xb)
 |fu hx=>exact .fu (hx.own xb)
 |un=>exact .un
 |any=>exact .any
 |ag h1 h2 _ ih =>
  simp only[aX,ia];refine .ag (by simpa using h1) (λi y hy=>?_) (λi y hy=>?_)
  ·obtain⟨x,hx,rfl⟩:=g _ i y hy;exact h2 i x hx
  ·obtain⟨x,hx,rfl⟩:=g _ i y hy;exact ih i x hx
 |tu h1 _ ih =>
  simp only[aX,ia];refine .tu (by simpa using h1) (λi y hy=>?_);obtain⟨x,hx,rfl⟩:=g _ i y hy;exact ih i x hx
 |bx h1 h2 h3 hu _ ih=>simp only[aX];exact .bx h1 h2 (λh'=>h3 (xb _ h')) hu ih
 |cl h1 _ h3 _ uI ie =>
  simp only[aX,ia];refine .cl (by simpa using h1) (λi y hy=>?_) (by simpa using h3) (λi y hy=>?_)
  ·obtain⟨x,hx,rfl⟩:=g _ i y hy;exact uI i x hx
  ·obtain⟨x,hx,rfl⟩:=g _ i y hy;exact ie i x hx
 |so o ho hg hu hk =>
  have aH:=(List.getElem?_eq_some_iff.1 ho).1;refine .so (bp ρ o) (hs _ o ho) hg hu λuF=>?_;have:=hk uF;unfold Bs at this ⊢;rw[hσ _ aH];exact this
 |rf o ho hg hu hk =>
  have aH:=(List.getElem?_eq_some_iff.1 ho).1;refine .rf (bp ρ o) (hs _ o ho) hg hu λuF=>?_;rw[hσ _ aH];exact hk uF
 |pp o ho hg hk =>
  have aH:=(List.getElem?_eq_some_iff.1 ho).1;refine .pp (bp ρ o) (hs _ o ho) hg λuF=>?_;rw[hσ _ aH];exact hk uF
 |mp o ho hg hu hk =>
  have aH:=(List.getElem?_eq_some_iff.1 ho).1;refine .mp (bp ρ o) (hs _ o ho) hg hu λuF=>?_;rw[hσ _ aH];exact hk uF
theorem BV {ρ:List Nat}{y:D} (h:aX ρ x=.d y):x=.d y:=by
 cases x <;> simp_all [aX]
theorem JR {ρ:List Nat}:∀{aI:List (List V)}{es:List MapEntry},aI.map (aX.go ρ)=(es.map λe=>[V.d (.sc e.key),V.d (.sc e.val)])->aI=es.map λe=>[V.d (.sc e.key),V.d (.sc e.val)]
 |[],[],_=>rfl
 |[],_::_,h=>by simp at h
 |_::_,[],h=>by simp at h
 |e::aI,x::es,h=>by
  simp only[adG,List.cons.injEq]at h ⊢;obtain⟨h1,h2⟩:=h;refine⟨?_,JR h2⟩;rw[ia]at h1
  match e,h1 with
  |[a,b],h1 =>
   simp only[adG,adP,List.cons.injEq,and_true]at h1;rw[BV h1.1,BV h1.2]
  |[],h1=>simp at h1
  |[_],h1=>simp at h1
  |_::_::_::_,h1=>simp at h1
theorem sZ.down {ρ:List Nat}{w:World} (h:sZ w p (bp ρ o)):sZ w p o:=by
 rcases h with ⟨h1,h2⟩|⟨b,es,c,h1,h2,h3⟩
 ·exact .inl ⟨h1,by simpa [bp]using h2⟩
 ·exact .inr ⟨b,es,c,h1,h2,JR h3⟩
theorem sZ.up {ρ:List Nat}{w:World} (h:sZ w p o):sZ w p (bp ρ o):=by
 rcases h with ⟨h1,h2⟩|⟨b,es,c,h1,h2,h3⟩
 ·exact .inl ⟨h1,by simp [bp,h2]⟩
 ·refine .inr ⟨b,es,c,h1,h2,?_⟩;simp only[bp,h3,kI,List.map_map];apply aei;intro e _;rfl
theorem EF {ρ:List Nat}{i j:Nat}{y:V} (h:((bp ρ o).aI[i]?.bind (·[j]?))=some y):∃x,(o.aI[i]?.bind (·[j]?))=some x/\aX ρ x=y:=by
 simp only[bp,adL]at h;cases he:o.aI[i]? with
 |none=>rw[he]at h;cases h
 |some e =>
  rw[he]at h;simp only[ad9,Option.bind_some,ia,adL]at h;exact Option.map_eq_some_iff.1 h
theorem Cp {ρ:List Nat}{i j:Nat} (h:(o.aI[i]?.bind (·[j]?))=some x):((bp ρ o).aI[i]?.bind (·[j]?))=some (aX ρ x):=by
 simp only[bp,adL];cases he:o.aI[i]? with
 |none=>rw[he]at h;cases h
 |some e =>
  rw[he]at h;simp only[ad9,Option.bind_some,ia,adL];rw[show e[j]?=some x from h];rfl
end frame
theorem pT {P:Program}{f:FuncId}{cargs args:List V}{exts s:List Obj}{Kc K:V->List Obj->Prop} (h:au P f cargs exts Kc) (ρ:List Nat) (hρ:ρ.length=exts.length) (hnd:ρ.Nodup)
  (hs:∀(k:Nat) (o:Obj),exts[k]?=some o->s[ρ.getD k 0]?=some (bp ρ o)) (jF:args=cargs.map (aX ρ)) (x8:ak.go exts.length cargs=true) (PM:exts.all (bJ exts.length)=true)
  (hk:∀v s',Kc v s'->s'.length=exts.length/\K (aX ρ v) (aZ s ρ (s'.map (bp ρ)))):au P f args s K:=by
 refine⟨h.1,λσ w vals hI hl hv=>?_⟩;have Sr:∀k,k<exts.length->ρ[k]?=some (ρ.getD k 0):=λk hk=>by simp [List.getD,show k<ρ.length by omega]
 have XO:∀k k',k<exts.length->k'<exts.length->ρ.getD k 0=ρ.getD k' 0->k=k':=by intro k k' h1 h2 he;have e1:=Sr k h1;have e2:=Sr k' h2;rw[he]at e1;obtain⟨l1,g1⟩:=List.getElem?_eq_some_iff.1 e1;obtain⟨l2,g2⟩:=List.getElem?_eq_some_iff.1 e2;exact(List.getElem_inj hnd).1 (g1.trans g2.symm)
 have Ef:∀k,(hk:k<exts.length)->s[ρ.getD k 0]?=some (bp ρ exts[k]):=λk hk=>hs k exts[k] (by simp [hk]);let rn:Nat->Prop:=λb=>∃k base,k<exts.length/\σ (ρ.getD k 0)=some (b,base);let σc:Gh:=⟨λk=>if k<exts.length then σ (ρ.getD k 0) else none,λb=>Own σ s b/\¬rn b⟩
 have CH:∀k,k<exts.length->σc k=σ (ρ.getD k 0):=λk hk=>ap hk;have wu:∀b,Own σc exts b->Own σ s b:=by
  rintro b (hb|⟨k,o,base,h1,h2,h3⟩)
  ·exact hb.1
  ·have aH:=(List.getElem?_eq_some_iff.1 h1).1;rw[CH k aH]at h3;exact .inr ⟨ρ.getD k 0,bp ρ o,base,hs k o h1,h2,h3⟩
 have Nb:∀b,Own σ s b->Own σc exts b:=by
  intro b hb;by_cases he:rn b
  ·obtain⟨k,base,aH,h3⟩:=he;refine .inr ⟨k,exts[k],base,by simp [aH],?_,by rw[CH k aH];exact h3⟩;rcases hb with hb|⟨id,o,cr,g1,g2,g3⟩
   ·exact absurd hb (hI.apart _ _ b base (Ef k aH) h3)
   ·have:=hI.inj id _ o _ b cr base g1 (Ef k aH) g2 g3 h3;subst this;rw[Ef k aH]at g1;cases g1;exact g2
  ·exact .inl ⟨hb,he⟩
 have Zl:Inv σc exts w:=by
  refine⟨λk o ho=>?_,λk k' o o' b base cr h1 h2 h3 h4 h5=>?_,λb hb=>ud hI hb.1,λk o b base h1 h2 hb=>?_⟩
  ·have aH:=(List.getElem?_eq_some_iff.1 ho).1;rw[CH k aH];rcases hI.content _ _ (hs k o ho) with g1|⟨b,base,arr,E,g1,g2,g3,g4,g5⟩
   ·exact .inl g1.down
   ·refine .inr ⟨b,base,arr,E,g1,g2,λe he=>?_,by simpa [bp]using g4,λi j x hx=>?_⟩
    ·have:=g3 (aX.go ρ e) (List.mem_map.2 ⟨e,he,rfl⟩);rw[ia]at this;simpa [bp]using this
    ·obtain⟨u,k1,k2,k3⟩:=g5 i j _ (Cp hx);refine⟨u,k1,k2,u9 wu hs CH k3 rfl ?_⟩;have hobj:=List.all_eq_true.1 PM o (adw ho);cases Ab:o.aI[i]? with
     |none=>rw[Ab]at hx;cases hx
     |some e =>
      rw[Ab]at hx;exact List.all_eq_true.1 (List.all_eq_true.1 hobj e (adw Ab)) x (adw hx)
  ·have l1:=(List.getElem?_eq_some_iff.1 h1).1;have l2:=(List.getElem?_eq_some_iff.1 h2).1;rw[CH k l1]at h4;rw[CH k' l2]at h5;exact XO k k' l1 l2 (hI.inj _ _ _ _ b base cr (hs k o h1) (hs k' o' h2) h3 h4 h5)
  ·have l1:=(List.getElem?_eq_some_iff.1 h1).1;rw[CH k l1]at h2;exact hb.2 ⟨k,base,l1,h2⟩
 refine(h.2 σc w vals Zl (by rw[hl,jF];simp) (λi x hx=>u9 wu hs CH (hv i _ (by rw[jF,adL,hx];rfl)) rfl (dz x8 i x hx))).mono λe w' ⟨u,v,σ',s',he,hE,gS,hR,hK⟩=>?_;obtain⟨hlen,hK⟩:=hk v s' hK
 -- back
 let σn:Gh:=⟨λid=>match ρ.idxOf? id with|some k=>σ' k|none=>σ id,σ.base⟩
 have T6:∀k,k<exts.length->ρ.idxOf? (ρ.getD k 0)=some k:=by
  intro k hk;have e1:=Sr k hk;obtain⟨l1,g1⟩:=List.getElem?_eq_some_iff.1 e1;rw[List.idxOf?_eq_some_iff];refine⟨l1,by simp [g1],λj hj=>?_⟩;have OK:j<ρ.length:=by omega
  intro hb;have HO:ρ[j]=ρ.getD k 0:=by simpa using hb
  have:=(List.getElem_inj hnd).1 (HO.trans g1.symm);omega
 have DM:∀k,k<exts.length->σn (ρ.getD k 0)=σ' k:=λk hk=>by show (match ρ.idxOf? (ρ.getD k 0) with|some k=>σ' k|none=>σ (ρ.getD k 0))=σ' k;rw[T6 k hk]
 have Fs:∀id,id ∉ ρ->σn id=σ id:=λid dB=>by show (match ρ.idxOf? id with|some k=>σ' k|none=>σ id)=σ id;rw[List.idxOf?_eq_none_iff.2 dB]
 have mw:∀id,id∈ρ->∃k,k<exts.length/\id=ρ.getD k 0:=by intro id dB;obtain⟨k,hk⟩:=List.mem_iff_getElem?.1 dB;have aH:=(List.getElem?_eq_some_iff.1 hk).1;exact⟨k,by omega,by simp [List.getD,hk]⟩
 have Jq:∀(k:Nat) (o:Obj),s'[k]?=some o->(aZ s ρ (s'.map (bp ρ)))[ρ.getD k 0]?=some (bp ρ o):=by
  intro k o ho;have aH:k<exts.length:=by rw[<- hlen];exact(List.getElem?_eq_some_iff.1 ho).1
  exact uo ρ _ s k _ _ hnd (Sr k aH) (by rw[adL,ho];rfl) (List.getElem?_eq_some_iff.1 (Ef k aH)).1
 have qM:∀id,id ∉ ρ->(aZ s ρ (s'.map (bp ρ)))[id]?=s[id]?:=λid dB=>fV ρ _ s id dB;have ug:∀(k:Nat) (o:Obj),k<exts.length->(aZ s ρ (s'.map (bp ρ)))[ρ.getD k 0]?=some o->∃o',s'[k]?=some o'/\o=bp ρ o':=by
  intro k o aH ho;have bo:k<s'.length:=by omega
  have:=Jq k s'[k] (by simp [bo]);rw[ho]at this;exact⟨s'[k],by simp [bo],by simpa using this⟩
 have ga:∀b,b<w.heap.size->Own σ s b->¬rn b->w'.heap[b]?=w.heap[b]?:=λb hb h1 h2=>hE.ga b hb ⟨h1,h2⟩;have Ah:∀b,σ.base b->¬rn b:=by rintro b hb ⟨k,base,aH,h3⟩;exact hI.apart _ _ b base (Ef k aH) h3 hb
 have ph:∀id o b base,id ∉ ρ->s[id]?=some o->σ id=some (b,base)->o.live=true->¬rn b:=by rintro id o b base dB ho h1 x9 ⟨k,cr,aH,h3⟩;have:=hI.inj id _ o _ b base cr ho (Ef k aH) x9 h1 h3;exact dB (by rw[this];exact adw (Sr k aH))
 have Ox:∀b,Own σn (aZ s ρ (s'.map (bp ρ))) b->Own σ' s' b:=by
  rintro b (hb|⟨id,o,base,h1,h2,h3⟩)
  ·left;rw[hE.base];exact⟨.inl hb,Ah b hb⟩
  ·by_cases dB:id∈ρ
   ·obtain⟨k,aH,rfl⟩:=mw id dB;obtain⟨o',g1,rfl⟩:=ug k o aH h1;rw[DM k aH]at h3;exact .inr ⟨k,o',base,g1,h2,h3⟩
   ·rw[qM id dB]at h1;rw[Fs id dB]at h3;left;rw[hE.base];exact⟨.inr ⟨id,o,base,h1,h2,h3⟩,ph id o b base dB h1 h3 h2⟩
 have SN:aW σ s w σn (aZ s ρ (s'.map (bp ρ))) w':=by
  refine⟨hE.os,hE.tape,hE.output,hE.size,λb hb ho=>hE.bO b hb λh'=>ho (wu b h'),λb arr E ho hh=>hE.shape b arr E (Nb b ho) hh,λb ho hm=>hE.rG b (Nb b ho) hm,λb hb=>?_,λid o ho=>?_,rfl,
   λb hb hf=>ga b hb (.inl hf) (Ah b hf)⟩
  ·rcases hE.own b (Ox b hb) with h'|h'
   ·exact .inl (wu b h')
   ·exact .inr h'
  ·by_cases dB:id∈ρ
   ·obtain⟨k,aH,rfl⟩:=mw id dB;rw[Ef k aH]at ho;simp only[adp]at ho;subst ho;obtain⟨o',g1,g2,g3⟩:=hE.aB k exts[k] (by simp [aH]);refine⟨bp ρ o',Jq k o' g1,g2,λhe=>?_⟩;obtain⟨e1,e2⟩:=g3 he;exact⟨e1,by rw[DM k aH,e2,CH k aH]⟩
   ·exact⟨o,by rw[qM id dB];exact ho,adB _,λ_=>⟨rfl,Fs id dB⟩⟩
 have up:∀{x:V}{u:Value},aG σ' s' w' x u->aG σn (aZ s ρ (s'.map (bp ρ))) w' (aX ρ x) u:=λhr =>
  Oh Ox Jq (λk hk=>DM k (by omega)) hr
 have hIn:Inv σn (aZ s ρ (s'.map (bp ρ))) w':=by
  refine⟨λid o ho=>?_,λid kt o o' b base cr h1 h2 h3 h4 h5=>?_,λb hb=>Nat.lt_of_lt_of_le (hI.low b hb) hE.size,λid o b base h1 h2 hb=>?_⟩
  ·by_cases dB:id∈ρ
   ·obtain⟨k,aH,rfl⟩:=mw id dB;obtain⟨o',g1,rfl⟩:=ug k o aH ho;rw[DM k aH];rcases gS.content k o' g1 with c1|⟨b,base,arr,E,c1,c2,c3,c4,c5⟩
    ·exact .inl c1.up
    ·refine .inr ⟨b,base,arr,E,c1,c2,λe he=>?_,by simpa [bp]using c4,λi j y hy=>?_⟩
     ·obtain⟨e',lu,rfl⟩:=List.mem_map.1 he;rw[ia];simpa [bp]using c3 e' lu
     ·obtain⟨x,hx,rfl⟩:=EF hy;obtain⟨u,k1,k2,k3⟩:=c5 i j x hx;exact⟨u,k1,k2,up k3⟩
   ·rw[qM id dB]at ho;rw[Fs id dB];refine tB.bF (p:=σ id) SN (λb base hb=>?_) (hI.content id o ho);have aH:=hI.lt ho hb;by_cases hO:Own σ s b
    ·by_cases x9:o.live=true
     ·exact ga b aH hO (ph id o b base dB ho hb x9)
     ·exfalso;rcases hO with hO|⟨kt,o',cr,g1,g2,g3⟩
      ·exact hI.apart id o b base ho hb hO
      ·have:=hI.inj kt id o' o b cr base g1 ho g2 g3 hb;subst this;rw[ho]at g1;cases g1;exact x9 g2
    ·exact hE.bO b aH λh'=>hO (wu b h')
  ·by_cases dB:id∈ρ <;> by_cases uC:kt∈ρ
   ·obtain⟨k,aH,rfl⟩:=mw id dB;obtain⟨k',bo,rfl⟩:=mw kt uC;obtain⟨p,g1,rfl⟩:=ug k o aH h1;obtain⟨p',Tl,rfl⟩:=ug k' o' bo h2;rw[DM k aH]at h4;rw[DM k' bo]at h5;rw[gS.inj k k' p p' b base cr g1 Tl h3 h4 h5]
   ·exfalso;obtain⟨k,aH,rfl⟩:=mw id dB;obtain⟨p,g1,rfl⟩:=ug k o aH h1;rw[DM k aH]at h4;rw[qM kt uC]at h2;rw[Fs kt uC]at h5;have za:=hI.lt h2 h5;have hO:Own σ s b:=by
     rcases hE.own b (.inr ⟨k,p,base,g1,h3,h4⟩) with h'|h'
     ·exact wu b h'
     ·omega
    by_cases x9:o'.live=true
    ·exact gS.apart k p b base g1 h4 (by rw[hE.base];exact⟨hO,ph kt o' b cr uC h2 h5 x9⟩)
    ·rcases hO with hO|⟨YN,o2,PE,q1,q2,q3⟩
     ·exact hI.apart kt o' b cr h2 h5 hO
     ·have:=hI.inj YN kt o2 o' b PE cr q1 h2 q2 q3 h5;subst this;rw[h2]at q1;cases q1;exact x9 q2
   ·exfalso;obtain⟨k',bo,rfl⟩:=mw kt uC;obtain⟨p',Tl,rfl⟩:=ug k' o' bo h2;rw[DM k' bo]at h5;rw[qM id dB]at h1;rw[Fs id dB]at h4;exact gS.apart k' p' b cr Tl h5 (by rw[hE.base];exact⟨.inr ⟨id,o,base,h1,h3,h4⟩,ph id o b base dB h1 h4 h3⟩)
   ·rw[qM id dB]at h1;rw[qM kt uC]at h2;rw[Fs id dB]at h4;rw[Fs kt uC]at h5;exact hI.inj id kt o o' b base cr h1 h2 h3 h4 h5
  ·by_cases dB:id∈ρ
   ·obtain⟨k,aH,rfl⟩:=mw id dB;obtain⟨p,g1,rfl⟩:=ug k o aH h1;rw[DM k aH]at h2;exact gS.apart k p b base g1 h2 (by rw[hE.base];exact⟨.inl hb,Ah b hb⟩)
   ·rw[qM id dB]at h1;rw[Fs id dB]at h2;exact hI.apart id o b base h1 h2 hb
 exact⟨u,aX ρ v,σn,_,he,SN,hIn,up hR,hK⟩
end Go.VL
