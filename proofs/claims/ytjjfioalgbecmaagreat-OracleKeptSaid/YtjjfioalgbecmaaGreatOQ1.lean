/- A part of the proof (Va Vb Vc). -/
import Derived.WalkKit
import Derived.WalkSpells
import Derived.ChangeKeysEq
import Derived.Deep.AppendSrc
set_option linter.unusedSimpArgs false
set_option linter.unusedVariables false
set_option maxRecDepth 100000
set_option maxHeartbeats 80000000
namespace Go.VL
variable{p:Option (Nat×Nat)}{i:Nat}{u:Value}{w:World}{b:Nat}{a:Addr}{id:Nat}{off:Nat}{base:Nat}{w':World}{P:Program}{t:TypeId}{c:Value}
theorem am {a b c d e f g h:Prop}(i:a)(j:b)(k:c)(l:d)(m:e)(n:f)(o:g)(p:h):a∧b∧c∧d∧e∧f∧g∧h:=⟨i,j,k,l,m,n,o,p⟩
theorem ap.{u}:type_of% @if_neg.{u}:=@if_neg.{u}
theorem be.{u}:type_of% @if_pos.{u}:=@if_pos.{u}
theorem bi:type_of% @decide_eq_true:=@decide_eq_true
theorem ce:type_of% @decide_eq_false:=@decide_eq_false
theorem ajM:type_of% @List.length_map.{0,0}:=@List.length_map.{0,0}
theorem ajN:type_of% @List.cons_append.{0}:=@List.cons_append.{0}
theorem ajO:type_of% @List.nil_append.{0}:=@List.nil_append.{0}
theorem ajP:type_of% @Int.toNat_natCast:=@Int.toNat_natCast
theorem ajQ:type_of% @List.length_append.{0}:=@List.length_append.{0}
theorem ajR:type_of% @List.map_cons.{0,0}:=@List.map_cons.{0,0}
theorem ajS:type_of% @Option.map_some.{0,0}:=@Option.map_some.{0,0}
theorem ajT:type_of% @Nat.zero_add:=@Nat.zero_add
theorem ajU:type_of% @Option.some.injEq.{0}:=@Option.some.injEq.{0}
theorem ajV:type_of% @List.map_nil.{0,0}:=@List.map_nil.{0,0}
theorem ajW:type_of% @List.length_cons.{0}:=@List.length_cons.{0}
theorem ajX:type_of% @List.length_nil.{0}:=@List.length_nil.{0}
theorem ajY:type_of% @Bool.false_eq_true:=@Bool.false_eq_true
theorem ajZ:type_of% @Nat.le_refl:=@Nat.le_refl
theorem aj0:type_of% @Bool.not_true:=@Bool.not_true
theorem aj1:type_of% @List.mem_singleton.{0}:=@List.mem_singleton.{0}
theorem aj2:type_of% @Bool.not_false:=@Bool.not_false
theorem aj3:type_of% @List.all_eq_true.{0}:=@List.all_eq_true.{0}
theorem aj4:type_of% @Bool.and_true:=@Bool.and_true
theorem aj5:type_of% @Bool.and_eq_true:=@Bool.and_eq_true
theorem aj6:type_of% @Option.map_eq_some_iff.{0,0}:=@Option.map_eq_some_iff.{0,0}
theorem aj7:type_of% @List.append_assoc.{0}:=@List.append_assoc.{0}
theorem aj8:type_of% @List.length_set.{0}:=@List.length_set.{0}
theorem aj9:type_of% @List.set_cons_zero.{0}:=@List.set_cons_zero.{0}
theorem aka:type_of% @Int.natCast_zero:=@Int.natCast_zero
theorem akb:type_of% @List.take_of_length_le.{0}:=@List.take_of_length_le.{0}
theorem akc:type_of% @Int.le_refl:=@Int.le_refl
theorem akd:type_of% @Nat.lt_or_ge:=@Nat.lt_or_ge
theorem ake:type_of% @List.mem_map.{0,0}:=@List.mem_map.{0,0}
theorem akf:type_of% @List.set_cons_succ.{0}:=@List.set_cons_succ.{0}
theorem akg:type_of% @List.take_length.{0}:=@List.take_length.{0}
theorem akh:type_of% @List.append_nil.{0}:=@List.append_nil.{0}
theorem aki:type_of% @List.length_singleton.{0}:=@List.length_singleton.{0}
theorem akj:type_of% @List.eq_nil_of_length_eq_zero.{0}:=@List.eq_nil_of_length_eq_zero.{0}
theorem akk:type_of% @Nat.mul_le_mul_right:=@Nat.mul_le_mul_right
theorem akl:type_of% @Bool.false_or:=@Bool.false_or
theorem akm:type_of% @List.mem_append.{0}:=@List.mem_append.{0}
theorem akn:type_of% @Prod.mk.injEq.{0,0}:=@Prod.mk.injEq.{0,0}
theorem ako:type_of% @Bool.true_or:=@Bool.true_or
theorem akp:type_of% @Int.mul_le_mul_of_nonneg_right:=@Int.mul_le_mul_of_nonneg_right
theorem akq:type_of% @List.map_map.{0,0,0}:=@List.map_map.{0,0,0}
theorem akr:type_of% @List.contains_cons.{0}:=@List.contains_cons.{0}
theorem aks:type_of% @List.all_cons.{0}:=@List.all_cons.{0}
theorem akt:type_of% @List.contains_nil.{0}:=@List.contains_nil.{0}
theorem aku:type_of% @Int.lt_irrefl:=@Int.lt_irrefl
theorem akv:type_of% @List.mem_of_mem_take.{0}:=@List.mem_of_mem_take.{0}
theorem akw:type_of% @Bool.or_false:=@Bool.or_false
theorem akx:type_of% @Nat.add_mul:=@Nat.add_mul
theorem aky:type_of% @Nat.add_assoc:=@Nat.add_assoc
theorem akz:type_of% @List.map_congr_left.{0,0}:=@List.map_congr_left.{0,0}
theorem akA:type_of% @Option.bind_some.{0,0}:=@Option.bind_some.{0,0}
theorem akB:type_of% @List.all_nil.{0}:=@List.all_nil.{0}
theorem akC:type_of% @Int.natCast_add:=@Int.natCast_add
theorem akD:type_of% @List.mem_cons.{0}:=@List.mem_cons.{0}
theorem akE:type_of% @Bool.eq_false_iff:=@Bool.eq_false_iff
theorem akF:type_of% @List.map_append.{0,0}:=@List.map_append.{0,0}
theorem akG:type_of% @List.length_eq_one_iff.{0}:=@List.length_eq_one_iff.{0}
theorem akH:type_of% @List.length_take.{0}:=@List.length_take.{0}
theorem akI:type_of% @List.set_append_right.{0}:=@List.set_append_right.{0}
theorem akJ:type_of% @List.drop_zero.{0}:=@List.drop_zero.{0}
theorem akK:type_of% @List.length_replicate.{0}:=@List.length_replicate.{0}
theorem akL:type_of% @List.mem_or_eq_of_mem_set.{0}:=@List.mem_or_eq_of_mem_set.{0}
theorem akM:type_of% @List.getD_cons_zero.{0}:=@List.getD_cons_zero.{0}
theorem akN:type_of% @List.getD_cons_succ.{0}:=@List.getD_cons_succ.{0}
theorem akO:type_of% @List.take_succ_cons.{0}:=@List.take_succ_cons.{0}
theorem akP:type_of% @List.countP_le_length.{0}:=@List.countP_le_length.{0}
theorem akQ:type_of% @Nat.sub_self:=@Nat.sub_self
theorem akR:type_of% @List.mapM_cons.{0,0,0}:=@List.mapM_cons.{0,0,0}
theorem akS:type_of% @Nat.le_trans:=@Nat.le_trans
theorem akT:type_of% @List.map_set.{0,0}:=@List.map_set.{0,0}
theorem akU:type_of% @Go.RowKit.Below.heap_alloc:=@Go.RowKit.Below.heap_alloc
theorem akV:type_of% @Bool.and_self:=@Bool.and_self
theorem akW:type_of% @List.take_zero.{0}:=@List.take_zero.{0}
theorem akX:type_of% @Int.natCast_nonneg:=@Int.natCast_nonneg
theorem akY:type_of% @List.foldl_cons.{0,0}:=@List.foldl_cons.{0,0}
theorem akZ:type_of% @List.all_append.{0}:=@List.all_append.{0}
theorem ak0:type_of% @Nat.add_zero:=@Nat.add_zero
theorem ak1:type_of% @List.mem_of_mem_drop.{0}:=@List.mem_of_mem_drop.{0}
theorem ak2:type_of% @Option.getD_some.{0}:=@Option.getD_some.{0}
theorem ak3:type_of% @List.length_eq_zero_iff.{0}:=@List.length_eq_zero_iff.{0}
theorem ak4:type_of% @Int.mul_nonneg:=@Int.mul_nonneg
theorem ak5:type_of% @Bool.true_and:=@Bool.true_and
theorem ak6:type_of% @Bool.eq_false_or_eq_true:=@Bool.eq_false_or_eq_true
theorem ak7:type_of% @List.foldl_append.{0,0}:=@List.foldl_append.{0,0}
theorem ak8:type_of% @Nat.lt_of_lt_of_le:=@Nat.lt_of_lt_of_le
theorem ak9:type_of% @Nat.lt_irrefl:=@Nat.lt_irrefl
theorem ala:type_of% @Array.length_toList.{0}:=@Array.length_toList.{0}
theorem alb:type_of% @List.range_succ:=@List.range_succ
theorem alc:type_of% @List.drop_eq_getElem_cons.{0}:=@List.drop_eq_getElem_cons.{0}
theorem ald:type_of% @Int.le_trans:=@Int.le_trans
theorem ale:type_of% @List.replicate_succ.{0}:=@List.replicate_succ.{0}
theorem alf:type_of% @Nat.zero_le:=@Nat.zero_le
theorem alg:type_of% @List.all_eq_false.{0}:=@List.all_eq_false.{0}
theorem alh:type_of% @List.cons.injEq.{0}:=@List.cons.injEq.{0}
theorem ae{p:Prop}(h:p:=by omega):p:=h
theorem ak{p:Prop}(h:p:=by simp):p:=h
theorem Vp{p:Prop}(h:p:=by simp [aj,aj.go,av,i64,bV,fA]):p:=h
theorem aU{p:Prop}(h:p:=by decide):p:=h
theorem cB{p:Prop}(h:p:=by rfl):p:=h
theorem cC{p:Prop}(h:p:=by simp;omega):p:=h
theorem qH{p:Prop}(h:p:=by first|omega|exact⟨by omega,by omega⟩|(simp;done)):p:=h
theorem n6{p:Prop}(h:p:=by simp only;omega):p:=h
theorem dW{p:Prop}(h:p:=by first|exact⟨rfl,rfl⟩|exact⟨rfl,trivial⟩|rfl|trivial|(rw[av];rfl)):p:=h
theorem bd.{u}{α:Sort u}{c:Prop}[Decidable c]{a b:α}(h:¬c:=by omega):ite c a b=b:=ap h
theorem sP.{u}{α:Sort u}{c:Prop}[Decidable c]{a b:α}(h:c:=by omega):ite c a b=a:=be h
theorem cc{α:Type}{l:List α}(h:i<l.length:=by omega):∃k,l[i]?=some k:=⟨_,List.getElem?_eq_getElem h⟩
inductive D where
 |sc (v:Value)
 |sl (au:List (List D))
 |el (cs:List D)
 |cl (fn:Fn) (first ai:List D)
 |ub
inductive V where
 |d (x:D)
 |ag (cs:List V)
 |fu (au:List (List D))
 |so (id g lo n:Nat)
 |rf (id g i off:Nat)
 |pp (id g i off b a:Nat)
 |mp (id g:Nat)
 |bx (v:V)
 |cap (lo hi:Nat) (v:V)
 |cl (fn:Fn) (first ai:List V)
 |tu (vs:List V)
 |un
 |any
variable{x:V}{cs:List V}{K:V->Prop}
structure Obj where
 g:Nat
 live:Bool
 sz:Nat
 au:List (List V)
variable{o:Obj}{o':Obj}{s:List Obj}
structure Gh where
 map:Nat->Option (Nat×Nat)
 base:Nat->Prop
variable{σ:Gh}
instance:CoeFun Gh (λ_=>Nat->Option (Nat×Nat)):=⟨Gh.map⟩
def Own (σ:Gh) (s:List Obj) (b:Nat):Prop:=σ.base b\/∃id o base,s[id]?=some o/\o.live=true/\σ id=some (b,base)
inductive cU (O:Nat->Prop) (w:World):D->Value->Prop
 |sc (v:Value):v.oneCell'=true->cU O w (.sc v) v
 |nil:cU O w (.sl []) (.slice none 0 0)
 |sl (au:List (List D)) (a:Addr) (cap sz:Nat) (f:Nat->Nat->Value):au.length<=cap->(au≠[]->a.spot=none)->(∀e∈au,e.length=sz) ->
   (∀i j x,(au[i]?.bind (·[j]?))=some x->w.cell? ⟨a.block,a.off+i*sz+j,none⟩=some (f i j)/\¬O a.block) ->
   (∀i j x,(au[i]?.bind (·[j]?))=some x->cU O w x (f i j))->cU O w (.sl au) (.slice (some a) au.length cap)
 |el (cs:List D) (a:Addr) (f:Nat->Value):a.spot=none ->
   (∀j x,cs[j]?=some x->w.cell? ⟨a.block,a.off+j,none⟩=some (f j)/\¬O a.block) ->
   (∀j x,cs[j]?=some x->cU O w x (f j))->cU O w (.el cs) (.pointer (some a))
 |cl {fn:Fn}{first ai:List D}{f' c':Array Value}:f'.size=first.length->(∀i x,first[i]?=some x->cU O w x (f'.getD i undef)) ->
   c'.size=ai.length->(∀i x,ai[i]?=some x->cU O w x (c'.getD i undef))->cU O w (.cl fn first ai) (.func fn f' c')
 |ub (b:Bool):cU O w .ub (.bool b)
def zq (σ:Gh) (w:World) (id:Nat) (o:Obj) (lo n:Nat) (u:Value):Prop :=
 (σ id=none/\(∃a,u=.slice a 0 0)/\lo=0/\n=0) \/
 ∃b base cap E arr,σ id=some (b,base)/\w.heap[b]?=some (.cells arr E (0,0))/\u=.slice (some ⟨b,base+lo*o.sz,none⟩) n cap/\n<=cap/\base+(lo+cap)*o.sz<=arr.size
def SlN (n:Nat) (u:Value):Prop:=∃a c,u=.slice a n c
theorem SlN.one {n:Nat} (h:SlN n u):u.oneCell'=true:=by obtain⟨_,_,rfl⟩:=h;rfl
def FM (w:World) (b:Nat):Prop:=∃arr E,w.heap[b]?=some (.cells arr E (0,0))
def Rk (w:World) (b:Nat):Prop:=∃es c,w.heap[b]?=some (.map es c)
def T0 (lo hi:Nat) (u:Value):Prop:=∀a n c,u=.slice a n c->lo<=c/\c<=hi
inductive ay (σ:Gh) (s:List Obj) (w:World):V->Value->Prop
 |d {x:D}{u:Value}:cU (Own σ s) w x u->ay σ s w (.d x) u
 |ag {cs:List V}{arr:Array Value}:arr.size=cs.length->(∀i x,cs[i]?=some x->(arr.getD i undef).oneCell'=true) ->
   (∀i x,cs[i]?=some x->ay σ s w x (arr.getD i undef))->ay σ s w (.ag cs) (.agg arr)
 |tu {cs:List V}{arr:Array Value}:arr.size=cs.length->(∀i x,cs[i]?=some x->ay σ s w x (arr.getD i undef))->ay σ s w (.tu cs) (.tuple arr)
 |fu {au:List (List D)}{a:Option Addr}:cU (Own σ s) w (.sl au) (.slice a au.length au.length)->ay σ s w (.fu au) (.slice a au.length au.length)
 |so {id g lo n:Nat}{u:Value} (o:Obj):s[id]?=some o->g<=o.g->SlN n u->(o.g=g->zq σ w id o lo n u)->ay σ s w (.so id g lo n) u
 |rf {id g i off:Nat}{u:Value} (o:Obj):s[id]?=some o->g<=o.g->u.oneCell'=true->(o.g=g->∃b base,σ id=some (b,base)/\FM w b/\u=.pointer (some ⟨b,base+i*o.sz+off,none⟩)) ->
   ay σ s w (.rf id g i off) u
 |pp {id g i off b a:Nat} (o:Obj):s[id]?=some o->g<=o.g->(o.g=g->∃base,σ id=some (b,base)/\FM w b/\a=base+i*o.sz+off)->ay σ s w (.pp id g i off b a) (.pointer (some ⟨b,a,none⟩))
 |mp {id g:Nat}{u:Value} (o:Obj):s[id]?=some o->g<=o.g->u.oneCell'=true->(o.g=g->∃b,σ id=some (b,0)/\Rk w b/\u=.map (some b))->ay σ s w (.mp id g) u
 |bx {v:V}{a:Addr}{u:Value}:a.spot=none->w.cell? ⟨a.block,a.off,none⟩=some u->¬Own σ s a.block->u.oneCell'=true->ay σ s w v u->ay σ s w (.bx v) (.pointer (some a))
 |cap {lo hi:Nat}{v:V}{u:Value}:T0 lo hi u->ay σ s w v u->ay σ s w (.cap lo hi v) u
 |cl {fn:Fn}{first ai:List V}{f' c':Array Value}:f'.size=first.length->(∀i x,first[i]?=some x->ay σ s w x (f'.getD i undef)) ->
   c'.size=ai.length->(∀i x,ai[i]?=some x->ay σ s w x (c'.getD i undef))->ay σ s w (.cl fn first ai) (.func fn f' c')
 |un:ay σ s w .un undef
 |any {u:Value}:ay σ s w .any u
structure aC (σ:Gh) (s:List Obj) (w:World) (σ':Gh) (s':List Obj) (w':World):Prop where
 os:w'.os=w.os
 tape:w'.tape=w.tape
 output:w'.output=w.output
 size:w.heap.size<=w'.heap.size
 aZ:∀b,b<w.heap.size->¬Own σ s b->w'.heap[b]?=w.heap[b]?
 shape:∀b arr E,Own σ s b->w.heap[b]?=some (.cells arr E (0,0))->∃bR,w'.heap[b]?=some (.cells bR E (0,0))/\bR.size=arr.size
 qc:∀b,Own σ s b->Rk w b->Rk w' b
 own:∀b,Own σ' s' b->Own σ s b\/w.heap.size<=b
 iN:∀id o,s[id]?=some o->∃o',s'[id]?=some o'/\o.g<=o'.g/\(o'.g=o.g->o'.sz=o.sz/\σ' id=σ id)
 base:σ'.base=σ.base
 fj:∀b,b<w.heap.size->σ.base b->w'.heap[b]?=w.heap[b]?
theorem aC.refl (σ:Gh) (s:List Obj) (w:World):aC σ s w σ s w :=
 ⟨rfl,rfl,rfl,ajZ _,λ_ _ _=>rfl,λ_ arr _ _ h=>⟨arr,h,rfl⟩,λ_ _ h=>h,λ_ h=>.inl h,λ_ o h=>⟨o,h,ajZ _,λ_=>⟨rfl,rfl⟩⟩,rfl,λ_ _ _=>rfl⟩
theorem dN{o:Go.Obj} (h:w.heap[b]?=some o):b<w.heap.size:=by
 rcases akd b w.heap.size with h'|h'
 ·exact h'
 ·simp [Array.getElem?_eq_none h']at h
theorem aC.trans {σ s w σ' s' w' σ'' Bm OR} (h:aC σ s w σ' s' w') (k:aC σ' s' w' σ'' Bm OR):aC σ s w σ'' Bm OR:=by
 refine⟨k.os.trans h.os,k.tape.trans h.tape,k.output.trans h.output,akS h.size k.size,?_,?_,?_,?_,?_,k.base.trans h.base,
  λb hb ho=>(k.fj b (ak8 hb h.size) (by rw[h.base];exact ho)).trans (h.fj b hb ho)⟩
 ·intro b hb ho;rw[k.aZ b (ak8 hb h.size) (λh'=>(h.own b h').elim ho (λWo=>ae)),h.aZ b hb ho]
 ·intro b arr E ho hh;obtain⟨bR,h1,h2⟩:=h.shape b arr E ho hh;by_cases g7:Own σ' s' b
  ·obtain⟨aaH,h3,h4⟩:=k.shape b bR E g7 h1;exact⟨aaH,h3,ae⟩
  ·exact⟨bR,by rw[k.aZ b (dN h1) g7];exact h1,h2⟩
 ·intro b ho hh;obtain⟨es,c,h1⟩:=h.qc b ho hh;by_cases g7:Own σ' s' b
  ·exact k.qc b g7 ⟨es,c,h1⟩
  ·exact⟨es,c,by rw[k.aZ b (dN h1) g7];exact h1⟩
 ·intro b hb;rcases k.own b hb with h'|h'
  ·exact h.own b h'
  ·exact .inr (akS h.size h')
 ·intro id o ho;obtain⟨o',h1,h2,h3⟩:=h.iN id o ho;obtain⟨o'',k1,k2,k3⟩:=k.iN id o' h1;refine⟨o'',k1,akS h2 k2,λhe=>?_⟩;have e1:o'.g=o.g:=ae;have e2:o''.g=o'.g:=ae;exact⟨(k3 e2).1.trans (h3 e1).1,(k3 e2).2.trans (h3 e1).2⟩
theorem aC.cell {σ s w σ' s' w'} (h:aC σ s w σ' s' w') (hc:w.cell? a=some u) (ho:¬Own σ s a.block) :
  w'.cell? a=some u/\¬Own σ' s' a.block:=by
 have hb:=World.block_lt_of_cell? _ _ hc;refine⟨?_,λh'=>?_⟩
 ·rw[World.cell?_of_block (w:=w) (h.aZ a.block hb ho)];exact hc
 ·rcases h.own _ h' with h'|h'
  ·exact ho h'
  ·omega
theorem cU.aR {σ s w σ' s' w'} (h:aC σ s w σ' s' w') {x:D} (hr:cU (Own σ s) w x u):cU (Own σ' s') w' x u:=by
 induction hr with
 |sc v hv=>exact .sc v hv
 |nil=>exact .nil
 |sl au a cap sz f h1 h2 h3 h4 _ ih=>exact .sl au a cap sz f h1 h2 h3 (λi j x hx=>h.cell (a:=⟨a.block,_,none⟩) (h4 i j x hx).1 (h4 i j x hx).2) ih
 |el cs a f h1 h2 _ ih=>exact .el cs a f h1 (λj x hx=>h.cell (a:=⟨a.block,_,none⟩) (h2 j x hx).1 (h2 j x hx).2) ih
 |cl h1 _ h3 _ sM xr=>exact .cl h1 sM h3 xr
 |ub b=>exact .ub b
theorem cU.own {O O':Nat->Prop}{x:D} (h:∀b,O' b->O b) (hr:cU O w x u):cU O' w x u:=by
 induction hr with
 |sc v hv=>exact .sc v hv
 |nil=>exact .nil
 |sl au a cap sz f h1 h2 h3 h4 _ ih=>exact .sl au a cap sz f h1 h2 h3 (λi j x hx=>⟨(h4 i j x hx).1,λh'=>(h4 i j x hx).2 (h _ h')⟩) ih
 |el cs a f h1 h2 _ ih=>exact .el cs a f h1 (λj x hx=>⟨(h2 j x hx).1,λh'=>(h2 j x hx).2 (h _ h')⟩) ih
 |cl h1 _ h3 _ sM xr=>exact .cl h1 sM h3 xr
 |ub b=>exact .ub b
theorem zq.aR {σ s w σ' s' w'} (h:aC σ s w σ' s' w'){lo n:Nat} (eZ:o'.sz=o.sz) (hs:σ' id=σ id)
  (hk:zq σ w id o lo n u):zq σ' w' id o' lo n u:=by
 rcases hk with ⟨h1,h2,h3,h4⟩|⟨b,base,cap,E,arr,h1,h2,h3,h4,h5⟩
 ·exact .inl ⟨hs.trans h1,h2,h3,h4⟩
 ·by_cases hO:Own σ s b
  ·obtain⟨bR,k1,k2⟩:=h.shape b arr E hO h2;exact .inr ⟨b,base,cap,E,bR,hs.trans h1,k1,by rw[eZ];exact h3,h4,by rw[eZ,k2];exact h5⟩
  ·exact .inr ⟨b,base,cap,E,arr,hs.trans h1,by rw[h.aZ b (dN h2) hO];exact h2,by rw[eZ];exact h3,h4,by rw[eZ];exact h5⟩
theorem FM.aR {σ s w σ' s' w'} (h:aC σ s w σ' s' w') (hc:FM w b):FM w' b:=by
 obtain⟨arr,E,hh⟩:=hc;by_cases hO:Own σ s b
 ·obtain⟨bR,k1,_⟩:=h.shape b arr E hO hh;exact⟨bR,E,k1⟩
 ·exact⟨arr,E,by rw[h.aZ b (dN hh) hO];exact hh⟩
theorem Rk.aR {σ s w σ' s' w'} (h:aC σ s w σ' s' w') (hc:Rk w b):Rk w' b:=by
 by_cases hO:Own σ s b
 ·exact h.qc b hO hc
 ·obtain⟨es,c,hh⟩:=hc;exact⟨es,c,by rw[h.aZ b (dN hh) hO];exact hh⟩
theorem FM.notM (h:FM w b) (k:Rk w b):False:=by obtain⟨arr,E,h⟩:=h;obtain⟨es,c,k⟩:=k;rw[h]at k;cases k
theorem ay.aR {σ s w σ' s' w'} (h:aC σ s w σ' s' w') (hr:ay σ s w x u):ay σ' s' w' x u:=by
 induction hr with
 |d hx=>exact .d (hx.aR h)
 |ag h1 h2 _ ih=>exact .ag h1 h2 ih
 |tu h1 _ ih=>exact .tu h1 ih
 |fu hx=>exact .fu (hx.aR h)
 |so o ho hg hu hk =>
  obtain⟨o',h1,h2,h3⟩:=h.iN _ o ho;exact .so o' h1 (akS hg h2) hu λhe=>have e:o'.g=o.g:=by omega
   zq.aR h (h3 e).1 (h3 e).2 (hk ae)
 |rf o ho hg hu hk =>
  obtain⟨o',h1,h2,h3⟩:=h.iN _ o ho;refine .rf o' h1 (akS hg h2) hu λhe=>?_;have e:o'.g=o.g:=ae;obtain⟨b,base,k1,kc,k2⟩:=hk ae;exact⟨b,base,(h3 e).2.trans k1,kc.aR h,by rw[(h3 e).1];exact k2⟩
 |pp o ho hg hk =>
  obtain⟨o',h1,h2,h3⟩:=h.iN _ o ho;refine .pp o' h1 (akS hg h2) λhe=>?_;have e:o'.g=o.g:=ae;obtain⟨base,k1,kc,k2⟩:=hk ae;exact⟨base,(h3 e).2.trans k1,kc.aR h,by rw[(h3 e).1];exact k2⟩
 |mp o ho hg hu hk =>
  obtain⟨o',h1,h2,h3⟩:=h.iN _ o ho;refine .mp o' h1 (akS hg h2) hu λhe=>?_;have e:o'.g=o.g:=ae;obtain⟨b,k1,kc,k2⟩:=hk ae;exact⟨b,(h3 e).2.trans k1,kc.aR h,k2⟩
 |cap h1 _ ih=>exact .cap h1 ih
 |bx h1 h2 h3 hu _ ih =>
  obtain⟨k1,k2⟩:=h.cell h2 h3;exact .bx h1 k1 k2 hu ih
 |cl h1 _ h3 _ sM xr=>exact .cl h1 sM h3 xr
 |un=>exact .un
 |any=>exact .any
theorem ay.XK {σ s w}{g a:Nat} (h:ay σ s w (.pp id g i off b a) u):ay σ s w (.rf id g i off) u:=by
 cases h with
 |pp o ho hg hk=>exact .rf o ho hg rfl λhe=>let ⟨base,h1,h2,h3⟩:=hk he;⟨b,base,h1,h2,by rw[h3]⟩
theorem ay.HA {σ s w}{g a:Nat} (h:ay σ s w (.pp id g i off b a) u):u=.pointer (some ⟨b,a,none⟩):=by
 cases h with
 |pp o ho hg hk=>rfl
def fz (es:Array MapEntry):List (List V):=es.toList.map λe=>[V.d (.sc e.key),V.d (.sc e.val)]
def vC (w:World) (p:Option (Nat×Nat)) (o:Obj):Prop :=
 (p=none/\o.au=[])\/∃b es c,p=some (b,0)/\w.heap[b]?=some (.map es c)/\o.au=fz es
theorem vC.yF (h:vC w p o) (hp:p=some (b,base)) (hc:FM w b):False:=by
 rcases h with ⟨h,_⟩|⟨b',es,c,h,hh,_⟩
 ·rw[hp]at h;cases h
 ·rw[hp]at h;cases h;exact hc.notM ⟨es,c,hh⟩
theorem vC.congr (h:vC w p o') (he:o.au=o'.au):vC w p o:=by unfold vC at *;rw[he];exact h
theorem vC.B0 (h:vC w p o) (hp:p=none):o.au=[]:=by
 rcases h with ⟨_,h⟩|⟨b',es,c,h,_⟩
 ·exact h
 ·rw[hp]at h;cases h
structure Inv (σ:Gh) (s:List Obj) (w:World):Prop where
 content:∀id o,s[id]?=some o->vC w (σ id) o\/∃b base arr E,σ id=some (b,base)/\w.heap[b]?=some (.cells arr E (0,0)) /\
  (∀e∈o.au,e.length=o.sz)/\base+o.au.length*o.sz<=arr.size /\
  ∀i j x,(o.au[i]?.bind (·[j]?))=some x->∃u,arr[base+i*o.sz+j]?=some u/\u.oneCell'=true/\ay σ s w x u
 inj:∀id kX o o' b base bN,s[id]?=some o->s[kX]?=some o'->o.live=true->σ id=some (b,base)->σ kX=some (b,bN)->id=kX
 low:∀b,σ.base b->b<w.heap.size
 apart:∀id o b base,s[id]?=some o->σ id=some (b,base)->¬σ.base b
def nA (σ:Gh) (id:Nat) (p:Option (Nat×Nat)):Gh:=⟨λk=>if k=id then p else σ k,σ.base⟩
theorem bP (σ:Gh) (id:Nat) (p:Option (Nat×Nat)):nA σ id p id=p:=by simp [nA]
theorem dg (σ:Gh) {k:Nat} (p:Option (Nat×Nat)) (h:k≠id):nA σ id p k=σ k:=by simp [nA,h]
def vI (σ:Gh) (s:List Obj) (w:World) (p:Option (Nat×Nat)) (o:Obj):Prop :=
 vC w p o\/∃b base arr E,p=some (b,base)/\w.heap[b]?=some (.cells arr E (0,0)) /\
  (∀e∈o.au,e.length=o.sz)/\base+o.au.length*o.sz<=arr.size /\
  ∀i j x,(o.au[i]?.bind (·[j]?))=some x->∃u,arr[base+i*o.sz+j]?=some u/\u.oneCell'=true/\ay σ s w x u
theorem vI.aR {σ s w σ' s' w' p o} (h:aC σ s w σ' s' w') (hb:∀b base,p=some (b,base)->w'.heap[b]?=w.heap[b]?) (hh:vI σ s w p o):vI σ' s' w' p o:=by
 rcases hh with h1|⟨b,base,arr,E,h1,h2,h3,h4,h5⟩
 ·refine .inl ?_;rcases h1 with h1|⟨b,es,c,h1,h2,h3⟩
  ·exact .inl h1
  ·exact .inr ⟨b,es,c,h1,(hb b 0 h1).trans h2,h3⟩
 ·exact .inr ⟨b,base,arr,E,h1,(hb b base h1).trans h2,h3,h4,λi j x hx=>let ⟨u,k1,k2,k3⟩:=h5 i j x hx;⟨u,k1,k2,k3.aR h⟩⟩
theorem Inv.lt {σ s w} (hI:Inv σ s w) {id o b base} (ho:s[id]?=some o) (hs:σ id=some (b,base)):b<w.heap.size:=by
 rcases hI.content id o ho with (⟨h1,_⟩|⟨b',es,c,h1,h2,_⟩)|⟨b',bN,arr,E,h1,h2,_⟩
 ·rw[hs]at h1;cases h1
 ·rw[hs]at h1;cases h1;exact dN h2
 ·rw[hs]at h1;cases h1;exact dN h2
theorem lQ (hI:Inv σ s w) (ho:s[id]?=some o) (hl:o.live=true)
  (hos:w'.os=w.os) (Jz:w'.tape=w.tape) (P4:w'.output=w.output) (ie:w.heap.size<=w'.heap.size)
  (hkeep:∀b,b<w.heap.size->(∀base,σ id≠some (b,base))->w'.heap[b]?=w.heap[b]?)
  (hshape:∀b base arr E,σ id=some (b,base)->w.heap[b]?=some (.cells arr E (0,0))->∃bR,w'.heap[b]?=some (.cells bR E (0,0))/\bR.size=arr.size)
  (hshapeM:∀b base,σ id=some (b,base)->Rk w b->Rk w' b)
  (hg:o.g<=o'.g) (CK:o'.g=o.g->o'.sz=o.sz/\p=σ id)
  (hp:∀b base,p=some (b,base)->(∃Ch,σ id=some (b,Ch))\/w.heap.size<=b)
  (hc:aC σ s w (nA σ id p) (s.set id o') w'->vI (nA σ id p) (s.set id o') w' p o') :
  aC σ s w (nA σ id p) (s.set id o') w'/\Inv (nA σ id p) (s.set id o') w':=by
 have az:id<s.length:=(List.getElem?_eq_some_iff.1 ho).1;have A5:(s.set id o')[id]?=some o':=by simp [az]
 have mY:∀k,k≠id->(s.set id o')[k]?=s[k]?:=λk hk=>by rw[List.getElem?_set_ne (Ne.symm hk)]
 have ad7:∀k ok b base,k≠id->s[k]?=some ok->σ k=some (b,base)->w'.heap[b]?=w.heap[b]?:=by intro k ok b base hk gL hs;exact hkeep b (hI.lt gL hs) λbN he=>hk (hI.inj id k o ok b bN base ho gL hl he hs).symm
 have hE:aC σ s w (nA σ id p) (s.set id o') w':=by
  refine⟨hos,Jz,P4,ie,?_,?_,?_,?_,?_,rfl,λb hb hf=>hkeep b hb λbase he=>hI.apart id o b base ho he hf⟩
  ·intro b hb mS;exact hkeep b hb λbase he=>mS (.inr ⟨id,o,base,ho,hl,he⟩)
  ·intro b arr E hO hh;by_cases he:∃base,σ id=some (b,base)
   ·obtain⟨base,he⟩:=he;exact hshape b base arr E he hh
   ·exact⟨arr,by rw[hkeep b (dN hh) (λbase h'=>he ⟨base,h'⟩)];exact hh,rfl⟩
  ·intro b hO hm;by_cases he:∃base,σ id=some (b,base)
   ·obtain⟨base,he⟩:=he;exact hshapeM b base he hm
   ·obtain⟨es,c,hh⟩:=hm;exact⟨es,c,by rw[hkeep b (dN hh) (λbase h'=>he ⟨base,h'⟩)];exact hh⟩
  ·rintro b (hf|⟨k,ok,base,vd,FX,HX⟩)
   ·exact .inl (.inl hf)
   by_cases hk:k=id
   ·subst hk;rw[bP]at HX;rcases hp b base HX with ⟨Ch,h'⟩|h'
    ·exact .inl (.inr ⟨k,o,Ch,ho,hl,h'⟩)
    ·exact .inr h'
   ·rw[dg _ _ hk]at HX;rw[mY k hk]at vd;exact .inl (.inr ⟨k,ok,base,vd,FX,HX⟩)
  ·intro k ok gL;by_cases hk:k=id
   ·subst hk;rw[ho]at gL;cases gL;exact⟨o',A5,hg,λhe=>⟨(CK he).1,by rw[bP];exact(CK he).2⟩⟩
   ·exact⟨ok,by rw[mY k hk];exact gL,ajZ _,λ_=>⟨rfl,dg _ _ hk⟩⟩
 refine⟨hE,⟨?_,?_,λb hb=>ak8 (hI.low b hb) ie,?_⟩⟩
 rotate_left 2
 ·intro k ok b base h1 h3 hf;by_cases hk:k=id
  ·subst hk;rw[bP]at h3;rcases hp b base h3 with ⟨Ch,h'⟩|h'
   ·exact hI.apart k o b Ch ho h' hf
   ·have:=hI.low b hf;omega
  ·rw[dg _ _ hk]at h3;rw[mY k hk]at h1;exact hI.apart k ok b base h1 h3 hf
 ·intro k ok gL;by_cases hk:k=id
  ·subst hk;rw[A5]at gL;cases gL;rw[bP];exact hc hE
  ·rw[mY k hk]at gL;rw[dg _ _ hk];exact vI.aR (p:=σ k) hE (λb base h=>ad7 k ok b base hk gL h) (hI.content k ok gL)
 ·intro k k' ok ok' b base bN h1 h2 h3 h4 h5;by_cases hk:k=id <;> by_cases sT:k'=id
  ·rw[hk,sT]
  ·subst hk;rw[bP]at h4;rw[dg _ _ sT]at h5;rw[mY k' sT]at h2;rcases hp b base h4 with ⟨Ch,h'⟩|h'
   ·exact hI.inj _ _ _ _ _ _ _ ho h2 hl h' h5
   ·have:=hI.lt h2 h5;omega
  ·subst sT;rw[bP]at h5;rw[dg _ _ hk]at h4;rw[mY k hk]at h1;rcases hp b bN h5 with ⟨Ch,h'⟩|h'
   ·exact hI.inj _ _ _ _ _ _ _ h1 ho h3 h4 h'
   ·have:=hI.lt h1 h4;omega
  ·rw[dg _ _ hk]at h4;rw[dg _ _ sT]at h5;rw[mY k hk]at h1;rw[mY k' sT]at h2;exact hI.inj _ _ _ _ _ _ _ h1 h2 h3 h4 h5
theorem mV (hI:Inv σ s w)
  (hos:w'.os=w.os) (Jz:w'.tape=w.tape) (P4:w'.output=w.output) (ie:w.heap.size<=w'.heap.size)
  (hkeep:∀b,b<w.heap.size->w'.heap[b]?=w.heap[b]?)
  (hp:∀b base,p=some (b,base)->w.heap.size<=b)
  (hc:aC σ s w (nA σ s.length p) (s++[o']) w'->vI (nA σ s.length p) (s++[o']) w' p o') :
  aC σ s w (nA σ s.length p) (s++[o']) w'/\Inv (nA σ s.length p) (s++[o']) w':=by
 have A5:(s++[o'])[s.length]?=some o':=ak;have mY:∀k ok,k≠s.length->(s++[o'])[k]?=some ok->s[k]?=some ok:=by
  intro k ok hk h;rw[List.getElem?_append]at h;split at h
  ·exact h
  ·rename_i h';have:k-s.length≠0:=ae;cases hh:k-s.length with
   |zero=>omega
   |succ n=>rw[hh]at h;simp at h
 have az:∀k ok,s[k]?=some ok->k≠s.length:=λk ok h=>by have:=(List.getElem?_eq_some_iff.1 h).1;omega
 have hE:aC σ s w (nA σ s.length p) (s++[o']) w':=by
  refine⟨hos,Jz,P4,ie,λb hb _=>hkeep b hb,λb arr E _ hh=>⟨arr,by rw[hkeep b (dN hh)];exact hh,rfl⟩,λb _ hm=>let ⟨es,c,hh⟩:=hm;⟨es,c,by rw[hkeep b (dN hh)];exact hh⟩,?_,?_,rfl,λb hb _=>hkeep b hb⟩
  ·rintro b (hf|⟨k,ok,base,vd,FX,HX⟩)
   ·exact .inl (.inl hf)
   by_cases hk:k=s.length
   ·subst hk;rw[bP]at HX;exact .inr (hp b base HX)
   ·rw[dg _ _ hk]at HX;exact .inl (.inr ⟨k,ok,base,mY k ok hk vd,FX,HX⟩)
  ·intro k ok gL;exact⟨ok,by rw[List.getElem?_append_left (List.getElem?_eq_some_iff.1 gL).1];exact gL,ajZ _,λ_=>⟨rfl,dg _ _ (az k ok gL)⟩⟩
 refine⟨hE,⟨?_,?_,λb hb=>ak8 (hI.low b hb) ie,?_⟩⟩
 rotate_left 2
 ·intro k ok b base h1 h3 hf;by_cases hk:k=s.length
  ·subst hk;rw[bP]at h3;have:=hp b base h3;have:=hI.low b hf;omega
  ·rw[dg _ _ hk]at h3;exact hI.apart k ok b base (mY k ok hk h1) h3 hf
 ·intro k ok gL;by_cases hk:k=s.length
  ·subst hk;rw[A5]at gL;cases gL;rw[bP];exact hc hE
  ·have h':=mY k ok hk gL;rw[dg _ _ hk];exact vI.aR (p:=σ k) hE (λb base h=>hkeep b (hI.lt h' h)) (hI.content k ok h')
 ·intro k k' ok ok' b base bN h1 h2 h3 h4 h5;by_cases hk:k=s.length <;> by_cases sT:k'=s.length
  ·rw[hk,sT]
  ·subst hk;rw[bP]at h4;rw[dg _ _ sT]at h5;have:=hI.lt (mY k' ok' sT h2) h5;have:=hp b base h4;omega
  ·subst sT;rw[bP]at h5;rw[dg _ _ hk]at h4;have:=hI.lt (mY k ok hk h1) h4;have:=hp b bN h5;omega
  ·rw[dg _ _ hk]at h4;rw[dg _ _ sT]at h5;exact hI.inj _ _ _ _ _ _ _ (mY k ok hk h1) (mY k' ok' sT h2) h3 h4 h5
theorem tv (hI:Inv σ s w) (hos:w'.os=w.os) (Jz:w'.tape=w.tape) (P4:w'.output=w.output) (ie:w.heap.size<=w'.heap.size)
  (hkeep:∀b,b<w.heap.size->w'.heap[b]?=w.heap[b]?):aC σ s w σ s w'/\Inv σ s w':=by
 have hE:aC σ s w σ s w':=⟨hos,Jz,P4,ie,λb hb _=>hkeep b hb,λb arr E _ hh=>⟨arr,by rw[hkeep b (dN hh)];exact hh,rfl⟩,λb _ hm=>let ⟨es,c,hh⟩:=hm;⟨es,c,by rw[hkeep b (dN hh)];exact hh⟩,λb h=>.inl h,
  λid o ho=>⟨o,ho,ajZ _,λ_=>⟨rfl,rfl⟩⟩,rfl,λb hb _=>hkeep b hb⟩
 exact⟨hE,λk ok gL=>vI.aR (p:=σ k) hE (λb base h=>hkeep b (hI.lt gL h)) (hI.content k ok gL),hI.inj,λb hb=>ak8 (hI.low b hb) ie,hI.apart⟩
theorem mW (hI:Inv σ s w):aC σ s w σ s w.drew/\Inv σ s w.drew :=
 tv hI rfl rfl rfl (ajZ _) (λ_ _=>rfl)
theorem Gg (hI:Inv σ s w) (x:Go.Obj):aC σ s w σ s (w.alloc x)/\Inv σ s (w.alloc x) :=
 tv hI rfl rfl rfl ak (λb hb=>akU w x b hb)
structure RW where
 sz:Nat
 agg:Bool
 A3:Nat
 zero:List Value
def bQ (P:Program) (t:TypeId):Option RW :=
 match P.info? t,P.underlying t with
 |some i,some d=>match i.zero with
  |some z=>if z.cells.size=i.size/\z.cells.toList.all Value.oneCell'=true then
    some ⟨i.size,(match d with|.struct _|.array _ _=>true|_=>false),i.bytes,z.cells.toList⟩ else none
  |none=>none
 |_,_=>none
theorem gj{i:RW} (h:bQ P t=some i):∃ti d z,P.info? t=some ti/\P.underlying t=some d/\ti.zero=some z/\ti.size=i.sz/\ti.bytes=i.A3 /\
  z.cells.toList=i.zero/\i.zero.length=i.sz/\(∀v∈i.zero,v.oneCell'=true)/\(∀w,(isAgg t).run P w=.ok i.agg w):=by
 unfold bQ at h;cases h1:P.info? t with
 |none=>simp [h1]at h
 |some ti =>
  cases h2:P.underlying t with
  |none=>simp [h1,h2]at h
  |some d =>
   cases h3:ti.zero with
   |none=>simp [h1,h2,h3]at h
   |some z =>
    simp only[h1,h2,h3]at h;split at h
    ·rename_i hc;simp only[ajU]at h;subst h;refine⟨ti,d,z,rfl,rfl,h3,rfl,rfl,rfl,by simpa using hc.1,λv hv=>List.all_eq_true.1 hc.2 v hv,λw=>?_⟩;cases d <;> simp [isAgg,run_underlying h2]
    ·cases h
def cv:Value->V
 |.slice none 0 0=>.fu []
 |.agg _=>.any
 |.tuple _=>.any
 |v=>.d (.sc v)
theorem H0 {σ s w} (v:Value):ay σ s w (cv v) v:=by
 unfold cv;split
 ·exact .fu .nil
 ·exact .any
 ·exact .any
 ·rename_i h1 h2 h3;refine .d (.sc v ?_);cases v <;> simp_all [Value.oneCell']
def XW:Value->V
 |.agg cs=>if cs.toList.all Value.oneCell'=true then .ag (cs.toList.map cv) else .any
 |v=>cv v
theorem Wp {σ s w} (v:Value):ay σ s w (XW v) v:=by
 unfold XW;split
 ·rename_i cs;split
  ·rename_i h;rw[aj3]at h;refine .ag ak (λi x hx=>?_) (λi x hx=>?_)
   ·rw[List.getElem?_map]at hx;obtain⟨y,hy,rfl⟩:=Option.map_eq_some_iff.1 hx;have h2:cs[i]?=some y:=by rw[<- Array.getElem?_toList];exact hy
    rw[Array.getD_eq_getD_getElem?,h2];exact h y (List.mem_of_getElem? hy)
   ·rw[List.getElem?_map]at hx;obtain⟨y,hy,rfl⟩:=Option.map_eq_some_iff.1 hx;have h2:cs[i]?=some y:=by rw[<- Array.getElem?_toList];exact hy
    rw[Array.getD_eq_getD_getElem?,h2];exact H0 y
  ·exact .any
 ·exact H0 _
def ev (e:Nat->V):Operand->V
 |.tmp t=>e t
 |.const v=>XW v
 |.global _=>.any
 |.func f=>.cl (.func f) [] []
def eg:V->Option (List V)
 |.ag cs=>some cs
 |.un|.any|.tu _|.cap ..=>none
 |v=>some [v]
theorem cU.one {O w x u} (h:cU O w x u):u.oneCell'=true:=by
 cases h <;> first|assumption|rfl
theorem mN (hr:ay σ s w x u) (hc:eg x=some cs) :
  u.cells.size=cs.length/\∀(i:Nat) (y:V),cs[i]?=some y->∃c,u.cells[i]?=some c/\c.oneCell'=true/\ay σ s w y c:=by
 have single:∀{y:V}{c:Value},c.oneCell'=true->ay σ s w y c->c.cells.size=[y].length/\∀(i:Nat) (z:V),[y][i]?=some z->∃b,c.cells[i]?=some b/\b.oneCell'=true/\ay σ s w z b:=by
  intro y c h1 h2;have jV:c.cells=#[c]:=by cases c <;> first|rfl|simp [Value.oneCell']at h1
  refine⟨by simp [jV],λi z hz=>?_⟩;cases i with
  |zero=>simp at hz;subst hz;exact⟨c,by simp [jV],h1,h2⟩
  |succ n=>simp at hz
 cases hr with
 |d h=>simp only[eg,ajU]at hc;subst hc;exact single h.one (.d h)
 |ag h1 h2 h3 =>
  simp only[eg,ajU]at hc;subst hc;refine⟨h1,λi y hy=>?_⟩;have hi:=(List.getElem?_eq_some_iff.1 hy).1;have e:∀{arr:Array Value},i<arr.size->arr[i]?=some (arr.getD i undef):=λh=>by simp [Array.getD,h]
  exact⟨_,e (by simp only[Value.cells];omega),h2 i y hy,h3 i y hy⟩
 |tu h1 h2=>simp [eg]at hc
 |fu h=>simp only[eg,ajU]at hc;subst hc;exact single rfl (.fu h)
 |so o h1 h2 h3 h4=>simp only[eg,ajU]at hc;subst hc;exact single h3.one (.so o h1 h2 h3 h4)
 |rf o h1 h2 h3 h4=>simp only[eg,ajU]at hc;subst hc;exact single h3 (.rf o h1 h2 h3 h4)
 |pp o h1 h2 h3=>simp only[eg,ajU]at hc;subst hc;exact single rfl (.pp o h1 h2 h3)
 |mp o h1 h2 h3 h4=>simp only[eg,ajU]at hc;subst hc;exact single h3 (.mp o h1 h2 h3 h4)
 |bx h1 h2 h3 hu h4=>simp only[eg,ajU]at hc;subst hc;exact single rfl (.bx h1 h2 h3 hu h4)
 |cap h1 h2=>simp [eg]at hc
 |cl h1 h2 h3 h4=>simp only[eg,ajU]at hc;subst hc;exact single rfl (.cl h1 h2 h3 h4)
 |un=>simp [eg]at hc
 |any=>simp [eg]at hc
def pQ (agg:Bool) (n:Nat) (cs:List V) (K:V->Prop):Prop :=
 match agg with
 |true=>n<=cs.length/\K (.ag (cs.take n))
 |false=>n=1/\match cs with|[]=>False|v::_=>K v
def lT (P:Program) (t:TypeId) (s:List Obj) (p:V) (K:V->Prop):Prop :=
 match bQ P t with
 |none=>False
 |some i=>match p with
  |.d (.el cs)=>pQ i.agg i.sz (cs.map .d) K
  |.bx v=>pQ i.agg i.sz [v] K
  |.rf id g k off=>match s[id]? with
   |none=>False
   |some o=>o.g=g/\match o.au[k]? with
    |none=>False
    |some cs=>pQ i.agg i.sz (cs.drop off) K
  |.pp id g k off _ _=>match s[id]? with
   |none=>False
   |some o=>o.g=g/\match o.au[k]? with
    |none=>False
    |some cs=>pQ i.agg i.sz (cs.drop off) K
  |_=>False
theorem gk (h:a.spot=none) (n:Nat):a.add n=⟨a.block,a.off+n,none⟩:=by obtain⟨b,o,sp⟩:=a;simp only at h;subst h;unfold Addr.add;split <;> simp_all
theorem Be{i:RW} (ht:bQ P t=some i) (ha:a.spot=none) (f:Nat->Value) (n1:i.agg=false->i.sz=1)
  (hc:∀j,j<i.sz->w.cell? ⟨a.block,a.off+j,none⟩=some (f j)) :
  (loadVar t a).run P w=.ok (if i.agg then .agg ((List.range i.sz).map f).toArray else f 0) w:=by
 obtain⟨ti,d,z,h1,h2,h3,h4,h5,h6,h7,h8,h9⟩:=gj ht;have eZ:(sizeOf t).run P w=.ok i.sz w:=by simp [sizeOf,typeInfo,h1,h4]
 cases zo:i.agg with
 |true =>
  rw[zo]at h9;have hl:=run_loadCells (P:=P) w a i.sz f (λj hj=>by rw[gk ha];exact hc j hj);simp [loadVar,h9,eZ,hl]
 |false =>
  rw[zo]at h9;have OX:=hc 0 (by rw[n1 zo];omega);have e:(⟨a.block,a.off+0,none⟩:Addr)=a:=by obtain⟨b,o,sp⟩:=a;simp_all
  rw[e]at OX;simp [loadVar,h9,OX]
theorem Ct{i:RW} (ht:bQ P t=some i) {σ s w} (ha:a.spot=none) (hk:pQ i.agg i.sz cs K)
  (hc:∀j x,cs[j]?=some x->∃u,w.cell? ⟨a.block,a.off+j,none⟩=some u/\u.oneCell'=true/\ay σ s w x u) :
  ∃v c,(loadVar t a).run P w=.ok c w/\ay σ s w v c/\K v:=by
 have hf:∃f:Nat->Value,∀j x,cs[j]?=some x->w.cell? ⟨a.block,a.off+j,none⟩=some (f j)/\(f j).oneCell'=true/\ay σ s w x (f j):=by refine⟨λj=>(w.cell? ⟨a.block,a.off+j,none⟩).getD undef,λj x hx=>?_⟩;obtain⟨u,h1,h2,h3⟩:=hc j x hx;simp only[h1,ak2];exact⟨trivial,h2,h3⟩
 obtain⟨f,hf⟩:=hf;unfold pQ at hk;cases zo:i.agg with
 |true =>
  rw[zo]at hk;obtain⟨hn,hk⟩:=hk;have dO:∀j,j<i.sz->cs[j]?=some (cs[j]?.getD .any):=λj hj=>by simp [show j<cs.length by omega]
  refine⟨_,_,Be ht ha f (by simp [zo]) (λj hj=>(hf j _ (dO j hj)).1),?_,hk⟩;rw[zo];simp only[if_true];have e:∀j,j<i.sz->((List.range i.sz).map f).toArray.getD j undef=f j:=λj hj=>by simp [Array.getD,hj]
  have e2:∀j x,(cs.take i.sz)[j]?=some x->j<i.sz/\cs[j]?=some x:=by
   intro j x hx;rw[List.getElem?_take]at hx;split at hx
   ·exact⟨by assumption,hx⟩
   ·cases hx
  refine .ag (by simp [Nat.min_eq_left hn]) (λj x hx=>?_) (λj x hx=>?_)
  ·rw[e j (e2 j x hx).1];exact(hf j x (e2 j x hx).2).2.1
  ·rw[e j (e2 j x hx).1];exact(hf j x (e2 j x hx).2).2.2
 |false =>
  rw[zo]at hk;obtain⟨hn,hk⟩:=hk;cases cs with
  |nil=>exact hk.elim
  |cons v rest =>
   refine⟨v,_,Be ht ha f (λ_=>hn) (λj hj=>?_),?_,hk⟩
   ·have:j=0:=by omega
    subst this;exact(hf 0 v rfl).1
   ·rw[zo];exact(hf 0 v rfl).2.2
theorem OM{p:V} (hI:Inv σ s w) (hp:ay σ s w p u) (UT:∀id g i off b a,p≠.pp id g i off b a) (h:lT P t s p K) :
  ∃v c,(Instr.loadAt t u).run P w=.ok c w/\ay σ s w v c/\K v:=by
 unfold lT at h;cases ht:bQ P t with
 |none=>rw[ht]at h;exact h.elim
 |some i =>
  rw[ht]at h;simp only at h;have fin:∀(a:Addr) (v:V) (c:Value),u=.pointer (some a)->(loadVar t a).run P w=.ok c w->ay σ s w v c->K v->∃v c,(Instr.loadAt t u).run P w=.ok c w/\ay σ s w v c/\K v:=by rintro a v c rfl h1 h2 h3;exact⟨v,c,by simp [Instr.loadAt,Instr.sureAddr,h1],h2,h3⟩
  cases hp with
  |pp o ho hg hk=>exact absurd rfl (UT _ _ _ _ _ _)
  |d hx =>
   cases hx with
   |el cs a f h1 h2 h3 =>
    obtain⟨v,c,k1,k2,k3⟩:=Ct (σ:=σ) (s:=s) (w:=w) ht h1 h (λj x hx=>by
     rw[List.getElem?_map]at hx;obtain⟨y,hy,rfl⟩:=Option.map_eq_some_iff.1 hx;exact⟨f j,(h2 j y hy).1,(h3 j y hy).one,.d (h3 j y hy)⟩)
    exact fin a v c rfl k1 k2 k3
   |_=>exact h.elim
  |bx h1 h2 h3 hu h4 =>
   obtain⟨v,c,k1,k2,k3⟩:=Ct (σ:=σ) (s:=s) (w:=w) ht h1 h (λj x hx=>by
    cases j with
    |zero=>simp at hx;subst hx;exact⟨_,h2,hu,h4⟩
    |succ j=>simp at hx)
   exact fin _ v c rfl k1 k2 k3
  |rf o ho hg hu hk =>
   simp only[ho]at h;obtain⟨wG,h⟩:=h;obtain⟨b,base,hs,hC,rfl⟩:=hk wG;split at h
   ·exact h.elim
   ·rename_i id g k off _ cs oL;rcases hI.content _ o ho with h1|⟨b',bN,arr,E,h1,h2,h3,h4,h5⟩
    ·exact(h1.yF hs hC).elim
    ·rw[hs]at h1;cases h1;obtain⟨v,c,k1,k2,k3⟩:=Ct (σ:=σ) (s:=s) (w:=w) (a:=⟨b,base+k*o.sz+off,none⟩) ht rfl h (λj x hx=>by
      rw[List.getElem?_drop]at hx;obtain⟨y,k1,k2,k3⟩:=h5 k (off+j) x (by rw[oL];exact hx);refine⟨y,?_,k2,k3⟩;simp only[World.cell?,h2];simpa [aky]using k1)
     exact fin _ v c rfl k1 k2 k3
  |_=>exact h.elim
theorem DL{p:V} (hI:Inv σ s w) (hp:ay σ s w p u) (h:lT P t s p K) :
  ∃v c,(Instr.loadAt t u).run P w=.ok c w/\ay σ s w v c/\K v:=by
 by_cases UQ:∃id g i off b a,p=.pp id g i off b a
 ·obtain⟨id,g,i,off,b,a,rfl⟩:=UQ;exact OM hI hp.XK (by intros;simp) h
 ·exact OM hI hp (λid g i off b a he=>UQ ⟨id,g,i,off,b,a,he⟩) h
def g8 (cs:List V) (off:Nat) (ns:List V):List V:=cs.take off++ns++cs.drop (off+ns.length)
def iF (P:Program) (t:TypeId) (s:List Obj) (p x:V) (K:List Obj->Prop):Prop :=
 match bQ P t with
 |none=>False
 |some i=>match p with
  |.rf id g k off=>match s[id]? with
   |none=>False
   |some o=>o.g=g/\o.live=true/\match o.au[k]? with
    |none=>False
    |some cs=>match eg x with
     |none=>False
     |some ns=>ns.length=i.sz/\off+i.sz<=cs.length/\K (s.set id { o with au:=o.au.set k (g8 cs off ns) })
  |.pp id g k off _ _=>match s[id]? with
   |none=>False
   |some o=>o.g=g/\o.live=true/\match o.au[k]? with
    |none=>False
    |some cs=>match eg x with
     |none=>False
     |some ns=>ns.length=i.sz/\off+i.sz<=cs.length/\K (s.set id { o with au:=o.au.set k (g8 cs off ns) })
  |_=>False
theorem pD (cs:List V) (off:Nat) (ns:List V) (h:off+ns.length<=cs.length) (j:Nat) :
  (g8 cs off ns)[j]?=if off<=j/\j<off+ns.length then ns[j-off]? else cs[j]?:=by
 have hl:(cs.take off).length=off:=cC;unfold g8;by_cases h1:j<off
 ·rw[bd,aj7,List.getElem?_append_left ae,List.getElem?_take,be h1]
 ·by_cases h2:j<off+ns.length
  ·rw[sP,aj7,List.getElem?_append_right ae,hl,List.getElem?_append_left ae]
  ·rw[bd,List.getElem?_append_right cC,List.getElem?_drop];congr 1;simp;omega
theorem sx (cs:List V) (off:Nat) (ns:List V) (h:off+ns.length<=cs.length):(g8 cs off ns).length=cs.length:=by simp [g8];omega
theorem u5 (σ:Gh) (id:Nat):nA σ id (σ id)=σ:=by
 obtain⟨m,b⟩:=σ;unfold nA;congr 1;funext k;split
 ·rename_i h;rw[h]
 ·rfl
theorem Qa (hI:Inv σ s w){o:Obj} (ho:s[id]?=some o) (hl:o.live=true) {k:Nat}{ns:List V} (oL:o.au[k]?=some cs)
  (hfit:off+ns.length<=cs.length) (hs:σ id=some (b,base)) (hC:FM w b) {us:List Value} (hus:us.length=ns.length)
  (hrep:∀(j:Nat) (x:V),ns[j]?=some x->∃u,us[j]?=some u/\u.oneCell'=true/\ay σ s w x u) (PV:∀u∈us,u.oneCell'=true) (P:Program) :
  ∃w',(storeCells ⟨b,base+k*o.sz+off,none⟩ us).run P w=.ok () w'/\aC σ s w σ (s.set id { o with au:=o.au.set k (g8 cs off ns) }) w' /\
   Inv σ (s.set id { o with au:=o.au.set k (g8 cs off ns) }) w':=by
 rcases hI.content _ o ho with h1|⟨b',bN,arr,E,h1,h2,h3,h4,h5⟩
 ·exact(h1.yF hs hC).elim
 rw[hs]at h1;cases h1;have hk:k<o.au.length:=(List.getElem?_eq_some_iff.1 oL).1;have ia:cs.length=o.sz:=h3 cs (List.mem_of_getElem? oL);have aeA:k*o.sz+o.sz<=o.au.length*o.sz:=by have:=akk o.sz (show k+1<=o.au.length from hk);rw[akx,Nat.one_mul]at this;exact this
 have dZ:=run_storeCells_at P b (base+k*o.sz+off) E us 0 arr w h2 (by rw[hus];omega) PV;simp only[ak0]at dZ;generalize lG:(arr.toList.take (base+k*o.sz+off)++us++arr.toList.drop (base+k*o.sz+off+us.length)).toArray=bR at dZ;have ie:bR.size=arr.size:=by rw[<- lG];simp;omega
 have dO:∀p,bR[p]?=if base+k*o.sz+off<=p/\p<base+k*o.sz+off+us.length then us[p-(base+k*o.sz+off)]? else arr[p]?:=by
  intro p;have hl:(arr.toList.take (base+k*o.sz+off)).length=base+k*o.sz+off:=cC;rw[<- lG,List.getElem?_toArray];by_cases g1:p<base+k*o.sz+off
  ·rw[bd,aj7,List.getElem?_append_left ae,List.getElem?_take,be g1,Array.getElem?_toList]
  ·by_cases g2:p<base+k*o.sz+off+us.length
   ·rw[sP,aj7,List.getElem?_append_right ae,hl,List.getElem?_append_left ae]
   ·rw[bd,List.getElem?_append_right cC,List.getElem?_drop,Array.getElem?_toList];congr 1;simp;omega
 refine⟨_,dZ,?_⟩;have:=lQ (p:=σ id) (w':=w.setRow b bR) (o':={ o with au:=o.au.set k (g8 cs off ns) }) hI ho hl rfl rfl rfl ak
  (λb1 _ eU=>setRow_other w b b1 bR (λe=>eU base (by rw[hs,e])))
  (λb1 jb Vt E1 he hh=>by
   rw[hs]at he;cases he;rw[h2]at hh;cases hh;exact⟨bR,setRow_heap w b arr bR E (0,0) h2,ie⟩)
  (λb1 jb he hm=>by
   rw[hs]at he;cases he;exact(hC.notM hm).elim)
  (ajZ _) (λ_=>⟨rfl,rfl⟩) (λb1 jb he=>.inl ⟨jb,he⟩)
  (λhE=>.inr ⟨b,base,bR,E,hs,setRow_heap w b arr bR E (0,0) h2,(by
   intro e he;simp only at he;rcases akL he with h'|h'
   ·exact h3 e h'
   ·rw[h',sx _ _ _ hfit];exact ia),(by simp only[aj8];omega),(by
   intro i j x hx;simp only at hx ⊢;rw[u5]at hE ⊢;by_cases SW:i=k
   ·subst SW;rw[List.getElem?_set_self hk]at hx;simp only[akA]at hx;rw[pD _ _ _ hfit]at hx;split at hx
    ·rename_i wF;obtain⟨u,k1,k2,k3⟩:=hrep _ x hx;refine⟨u,?_,k2,k3.aR hE⟩;rw[dO,sP,<- k1];congr 1;omega
    ·rename_i wF;obtain⟨u,k1,k2,k3⟩:=h5 i j x (by rw[oL];exact hx);refine⟨u,?_,k2,k3.aR hE⟩;rw[dO,bd];exact k1
   ·rw[List.getElem?_set_ne (Ne.symm SW)]at hx;obtain⟨u,k1,k2,k3⟩:=h5 i j x hx;refine⟨u,?_,k2,k3.aR hE⟩;rw[dO,ap ?_]
    ·exact k1
    ·have hjl:j<o.sz:=by
      cases he:o.au[i]? with
      |none=>rw[he]at hx;cases hx
      |some e =>
       rw[he]at hx;have:=(List.getElem?_eq_some_iff.1 hx).1;rw[h3 e (List.mem_of_getElem? he)]at this;exact this
     rcases Nat.lt_or_gt_of_ne SW with az|az
     ·have:=akk o.sz (show i+1<=k from az);rw[akx,Nat.one_mul]at this;omega
     ·have:=akk o.sz (show k+1<=i from az);rw[akx,Nat.one_mul]at this;omega)⟩)
 rw[u5]at this;exact this
theorem Lu{p:V}{K:List Obj->Prop} (hI:Inv σ s w) (hp:ay σ s w p u) (hx:ay σ s w x c) (UT:∀id g i off b a,p≠.pp id g i off b a) (h:iF P t s p x K) :
  ∃s' w',(Instr.storeAt t u c).run P w=.ok () w'/\aC σ s w σ s' w'/\Inv σ s' w'/\K s':=by
 unfold iF at h;cases ht:bQ P t with
 |none=>rw[ht]at h;exact h.elim
 |some i =>
  rw[ht]at h;simp only at h;cases hp with
  |rf o ho hg hu hk =>
   simp only[ho]at h;obtain⟨wG,hl,h⟩:=h;obtain⟨b,base,hs,hC,rfl⟩:=hk wG;split at h
   ·exact h.elim
   ·rename_i id g k off _ cs oL;split at h
    ·exact h.elim
    ·rename_i ns uu;obtain⟨h1,h2,h3⟩:=h;obtain⟨wJ,nO⟩:=mN hx uu;obtain⟨ti,d,z,k1,k2,k3,k4,k5,k6,k7,k8,k9⟩:=gj ht;have eZ:∀w,(sizeOf t).run P w=.ok i.sz w:=λw=>by simp [sizeOf,typeInfo,k1,k4]
     obtain⟨w',r1,r2,r3⟩:=Qa hI ho hl oL (ns:=ns) (off:=off) ae hs hC (us:=c.cells.toList) (by simpa using wJ)
      (λj x hx=>by
       obtain⟨u,e1,e2,e3⟩:=nO j x hx;exact⟨u,by rw[Array.getElem?_toList];exact e1,e2,e3⟩)
      (λu hu=>by
       obtain⟨j,hj,rfl⟩:=List.mem_iff_getElem.1 hu;have hj':j<ns.length:=by simpa [wJ]using hj
       obtain⟨u,e1,e2,e3⟩:=nO j ns[j] (by simp [hj']);have:c.cells.toList[j]=u:=by rw[<- Array.getElem?_toList]at e1;exact(List.getElem?_eq_some_iff.1 e1).2
       rw[this];exact e2) P
     refine⟨_,w',?_,r2,r3,h3⟩;simp [Instr.storeAt,Instr.sureAddr,storeVar,eZ,wJ,h1,r1]
  |pp o ho hg hk=>exact absurd rfl (UT _ _ _ _ _ _)
  |_=>exact h.elim
theorem Jl{p:V}{K:List Obj->Prop} (hI:Inv σ s w) (hp:ay σ s w p u) (hx:ay σ s w x c) (h:iF P t s p x K) :
  ∃s' w',(Instr.storeAt t u c).run P w=.ok () w'/\aC σ s w σ s' w'/\Inv σ s' w'/\K s':=by
 by_cases UQ:∃id g i off b a,p=.pp id g i off b a
 ·obtain⟨id,g,i,off,b,a,rfl⟩:=UQ;exact Lu hI hp.XK hx (by intros;simp) h
 ·exact Lu hI hp hx (λid g i off b a he=>UQ ⟨id,g,i,off,b,a,he⟩) h
end Go.VL
