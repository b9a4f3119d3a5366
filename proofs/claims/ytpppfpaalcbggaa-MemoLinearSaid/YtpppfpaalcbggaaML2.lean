/- A part of the proof (Vn Vo Vp Vpa Vgr Vq Vr Vs Vt Vv Vw Vy Vz Vza Vzb Vzc Vzd Vze Vu Vx). -/
import Derived.ProofKit
import Derived.OpenShut
import Derived.Test.YtpppfpaalcbggaaML1
set_option linter.unusedSimpArgs false
set_option linter.unusedVariables false
set_option maxRecDepth 100000
set_option maxHeartbeats 80000000
namespace Go.VL
def edgeMask (acc:List Nat) (es:List Edge):Nat :=
 es.foldl (fun m e=>if Region.binds .any e then m ||| 2 ^ e.on ||| acc.getD e.on 0 else m) 0
def masks:List Oper→List Nat→List Nat
 | [],acc=>acc
 | o::rest,acc=>masks rest (acc++[edgeMask acc o.after.toList])
def befB (ms:List Nat) (i j:Nat):Bool:=(ms.getD j 0).testBit i
def Closed (full:List Oper) (L:Nat→Prop):Prop:=∀j o,full[j]?=some o→L j→∀e∈o.after.toList,Region.binds .any e=true→L e.on
theorem edgeMask_spec {L:Nat→Prop} {acc:List Nat} (hacc:∀j i,(acc.getD j 0).testBit i=true→L j→L i):∀(es:List Edge) (m:Nat),(∀e∈es,Region.binds .any e=true→L e.on)→(∀i,m.testBit i=true→L i) →
  ∀i,(es.foldl (fun m e=>if Region.binds .any e then m ||| 2 ^ e.on ||| acc.getD e.on 0 else m) m).testBit i=true→L i
 | [],m,_,hm,i,h=>hm i h
 | e::es,m,he,hm,i,h=>by
  simp only[List.foldl_cons] at h
  refine edgeMask_spec hacc es _ (fun e' h'=>he e' (List.mem_cons_of_mem _ h')) (fun i' h'=>?_) i h
  split at h'
  ·rename_i hb
   have hon:=he e (List.mem_cons_self ..) hb
   rw[Nat.testBit_or,Nat.testBit_or,Nat.testBit_two_pow] at h'
   simp only[Bool.or_eq_true,decide_eq_true_eq] at h'
   rcases h' with (h' | h') | h'
   ·exact hm i' h'
   ·rw[← h']; exact hon
   ·exact hacc _ _ h' hon
  ·exact hm i' h'
theorem masks_spec {full:List Oper} {L:Nat→Prop} (hL:Closed full L):∀(l:List Oper) (acc:List Nat),(∀j,l[j]?=full[acc.length + j]?)→(∀j i,(acc.getD j 0).testBit i=true→L j→L i) →
  ∀j i,befB (masks l acc) i j=true→L j→L i
 | [],acc,_,hacc,j,i,h,hj=>hacc j i h hj
 | o::rest,acc,hl,hacc,j,i,h,hj=>by
  simp only[masks] at h
  refine masks_spec hL rest _ (fun k=>by have:=hl (k + 1); simpa [Nat.add_assoc,Nat.add_comm 1 k] using this) (fun k i' hk hLk=>?_) j i h hj
  by_cases hlt:k < acc.length
  ·rw[List.getD_eq_getElem?_getD,List.getElem?_append_left hlt,← List.getD_eq_getElem?_getD] at hk
   exact hacc k i' hk hLk
  ·by_cases heq:k=acc.length
   ·subst heq
    rw[List.getD_eq_getElem?_getD,List.getElem?_append_right (Nat.le_refl _)] at hk
    simp only[Nat.sub_self,List.getElem?_cons_zero,Option.getD_some] at hk
    have ho:full[acc.length]?=some o:=by have:=hl 0; simpa using this.symm
    exact edgeMask_spec hacc _ 0 (fun e he hb=>hL _ o ho hLk e he hb) (by simp) i' hk
   ·rw[List.getD_eq_getElem?_getD,List.getElem?_eq_none (by simp; omega)] at hk
    simp at hk
abbrev Foots:=List (Nat × List Nat × List Nat)
def footOf:Foots→Nat→Option (List Nat × List Nat)
 | [],_=>none
 |(k,f)::l,i=>if k=i then some f else footOf l i
def wrOf (fs:Foots) (i:Nat):List Nat :=
 match footOf fs i with
 | some (_,w)=>w
 | none=>[]
def allW:Foots→List Nat
 | []=>[]
 |(_,_,w)::l=>w++allW l
theorem allW_mem:∀{fs:Foots} {i id:Nat},id∈wrOf fs i→id∈allW fs
 | [],i,id,h=>by simp [wrOf,footOf] at h
 |(k,r,w)::l,i,id,h=>by
  unfold wrOf at h
  simp only[footOf] at h
  simp only[allW,List.mem_append]
  by_cases hk:k=i
  ·rw[if_pos hk] at h; exact .inl h
  ·rw[if_neg hk] at h; exact .inr (allW_mem h)
def rdP (fs:Foots) (i id:Nat):Prop :=
 match footOf fs i with
 | some (r,_)=>id∈r
 | none=>id ∉ allW fs
def compat (fs:Foots) (i j:Nat):Bool :=
 match footOf fs i,footOf fs j with
 | some (r,w),some (r',w')=>w.all (fun id=>!r'.contains id&&!w'.contains id)&&w'.all fun id=>!r.contains id
 | _,_=>true
def pairOk (full:List Oper) (ms:List Nat) (bars:List Nat) (fs:Foots) (i j:Nat) (oi oj:Oper):Bool :=
 befB ms i j||(oi.apart full.toArray oj&&oj.apart full.toArray oi&&!bars.contains i&&!bars.contains j&&compat fs i j)
def noSel (o:Oper):Bool:=(match o.op with | .select ..=>false | _=>true)&&!(o.dst == some 0)
def drawOk (full:List Oper) (bars:List Nat) (fs:Foots):Bool :=
 let ms:=masks full []
 full.zipIdx.all (fun (oi,i)=>noSel oi&&oi.after.toList.all (fun e=>!Region.binds .any e||decide (e.on < i))&&full.zipIdx.all fun (oj,j)=>!decide (i < j)||pairOk full ms bars fs i j oi oj)
theorem compat_spec {fs:Foots} {i j:Nat} (h:compat fs i j=true) {id:Nat} (hw:id∈wrOf fs i):¬rdP fs j id∧id ∉ wrOf fs j:=by
 have ha:=allW_mem hw
 unfold compat at h
 unfold wrOf at hw ⊢
 unfold rdP
 cases hi:footOf fs i with
 | none=>rw[hi] at hw; cases hw
 | some x =>
  obtain⟨r,w⟩:=x
  rw[hi] at hw h
  simp only at hw
  cases hj:footOf fs j with
  | none=>exact⟨fun h=>h ha,by simp⟩
  | some y =>
   obtain⟨r',w'⟩:=y
   rw[hj] at h
   simp only[Bool.and_eq_true,List.all_eq_true] at h
   have:=h.1 id hw
   simp only[Bool.and_eq_true,Bool.not_eq_true',List.contains_eq_mem,decide_eq_false_iff_not] at this
   exact this
theorem compat_comm {fs:Foots} {i j:Nat} (h:compat fs i j=true):compat fs j i=true:=by
 unfold compat at *
 cases hi:footOf fs i with
 | none=>cases footOf fs j <;> rfl
 | some x =>
  cases hj:footOf fs j with
  | none=>rfl
  | some y =>
   obtain⟨r,w⟩:=x
   obtain⟨r',w'⟩:=y
   rw[hi,hj] at h
   simp only[Bool.and_eq_true,List.all_eq_true,Bool.not_eq_true',List.contains_eq_mem,decide_eq_false_iff_not] at h ⊢
   exact⟨fun id hid=>⟨h.2 id hid,fun hw=>(h.1 id hw).2 hid⟩,fun id hid=>(h.1 id hid).1⟩
theorem callOpWp_congr {P:Program} {c:Call} {e e':Nat→V} {s:List Obj} {K:V→List Obj→Prop} (h0:e 0=e' 0) (h:∀x∈c.operands,ev e x=ev e' x):callOpWp P c e s K=callOpWp P c e' s K:=by
 have hargs:∀x∈c.args.toList,ev e x=ev e' x:=fun x hx=>h x (by simp [Call.operands]; exact .inr (by simpa using hx))
 have hm:c.args.toList.map (ev e)=c.args.toList.map (ev e'):=List.map_congr_left hargs
 unfold callOpWp
 rw[hm]
 cases hc:c.callee with
 | value f =>
  have hf:ev e f=ev e' f:=h f (by simp [Call.operands,hc])
  cases f <;> simp only[hf,h0]
 | invoke r m=>rfl
 | builtin b =>
  cases b
  case len=>rcases hl:c.args.toList with _ | ⟨x,_ | ⟨y,l⟩⟩ <;> rcases ht:c.argTypes.toList with _ | ⟨t,_ | ⟨t',l'⟩⟩ <;> simp_all
  case cap=>rcases hl:c.args.toList with _ | ⟨x,_ | ⟨y,l⟩⟩ <;> rcases ht:c.argTypes.toList with _ | ⟨t,_ | ⟨t',l'⟩⟩ <;> simp_all
  case append=>rcases hl:c.args.toList with _ | ⟨x,_ | ⟨y,_ | ⟨z,l⟩⟩⟩ <;> rcases ht:c.argTypes.toList with _ | ⟨t,_ | ⟨t',_ | ⟨t'',l'⟩⟩⟩ <;> simp_all
  case copy=>rcases hl:c.args.toList with _ | ⟨x,_ | ⟨y,_ | ⟨z,l⟩⟩⟩ <;> rcases ht:c.argTypes.toList with _ | ⟨t,_ | ⟨t',_ | ⟨t'',l'⟩⟩⟩ <;> simp_all
  case clear=>rcases hl:c.args.toList with _ | ⟨x,_ | ⟨y,l⟩⟩ <;> rcases ht:c.argTypes.toList with _ | ⟨t,_ | ⟨t',l'⟩⟩ <;> simp_all
  case min=>rcases hl:c.args.toList with _ | ⟨x,l⟩ <;> rw[hl] at hargs <;> simp only[List.map_congr_left fun y hy=>hargs y (List.mem_cons_of_mem _ hy),hargs _ (List.mem_cons_self ..)]
  case max=>rcases hl:c.args.toList with _ | ⟨x,l⟩ <;> rw[hl] at hargs <;> simp only[List.map_congr_left fun y hy=>hargs y (List.mem_cons_of_mem _ hy),hargs _ (List.mem_cons_self ..)]
  all_goals rfl
theorem opWp_congr {P:Program} {o:Oper} {e e':Nat→V} {s:List Obj} {K:V→List Obj→Prop} (h0:e 0=e' 0) (h:∀x∈o.op.operands,ev e x=ev e' x):opWp P o e s K=opWp P o e' s K:=by
 obtain⟨dst,op,ty,pos,after,guard⟩:=o
 have pairs:∀ps:Array (Nat × Operand),(∀x∈ps.map (·.2),ev e x=ev e' x)→(ps.toList.map fun p=>(p.1,ev e p.2))=(ps.toList.map fun p=>(p.1,ev e' p.2)):=fun ps hp =>
  List.map_congr_left fun p hm=>by
   obtain⟨i,x⟩:=p
   simp only[hp x (Array.mem_map.2 ⟨(i,x),by simpa using hm,rfl⟩)]
 cases op <;> simp only[Op.operands] at h <;> simp only[opWp]
 case build t ps=>rw[pairs ps fun x hx=>h x (by simpa using hx)]
 case buildSlice t n ps=>rw[pairs ps fun x hx=>h x (by simpa using hx)]
 case makeFunc fn first captured =>
  rw[List.map_congr_left (l:=first.toList) fun x hx=>h x (by simp; exact .inl (by simpa using hx)),List.map_congr_left (l:=captured.toList) fun x hx=>h x (by simp; exact .inr (by simpa using hx))]
 case call c=>exact callOpWp_congr h0 h
 case slice t x lo hi mx=>cases lo <;> cases hi <;> cases mx <;> simp_all
 all_goals (first | rfl | (simp_all; done))
def maskE (full:List Oper) (o:Oper) (e:Env):Env:=fun t=>if t∈o.looksAt full.toArray∨t=0 then e t else .any
theorem RepE.mask {σ s w N e a} (h:RepE σ s w N e a) (full:List Oper) (o:Oper):RepE σ s w N (maskE full o e) a :=
 ⟨h.1,h.2.1,fun t=>by unfold maskE; split; exact h.2.2 t; exact .any⟩
theorem maskE_congr {full:List Oper} {o:Oper} {e e':Env} (h0:e 0=e' 0) (h:∀t∈o.looksAt full.toArray,e t=e' t):maskE full o e=maskE full o e':=by
 funext t
 unfold maskE
 split
 ·rename_i ht
  rcases ht with ht | rfl
  ·exact h t ht
  ·exact h0
 ·rfl
def detS (P:Program) (full:List Oper) (o:Oper) (e:Env) (s:List Obj) (v:V) (s1:List Obj):Prop :=
 ∀(σ:Gh) (w:World) (N:Nat) (a:Act),Inv σ s w→RepE σ s w N (maskE full o e) a→TriOp P o σ s w a fun v' s'=>v'=v∧s'=s1
def detWp (P:Program) (o:Oper) (e:Env) (s:List Obj) (v:V) (s1:List Obj):Prop:=opWp P o e s fun v' s'=>v'=v∧s'=s1
theorem detS_op {P:Program} {full:List Oper} {o:Oper} {e:Env} {s:List Obj} {v:V} {s1:List Obj} (h:detWp P o e s v s1):detS P full o e s v s1:=by
 intro σ w N a hI hR
 refine opWp_sound hI hR ?_
 have:opWp P o e s (fun v' s'=>v'=v∧s'=s1)=opWp P o (maskE full o e) s (fun v' s'=>v'=v∧s'=s1):=opWp_congr (by simp [maskE]) fun x hx=>by
  cases x with
  | tmp t =>
   have ht:t∈o.looksAt full.toArray:=List.mem_append_left _ (List.mem_filterMap.2 ⟨.tmp t,by simpa using hx,rfl⟩)
   simp [ev,maskE,ht]
  | _=>rfl
 rw[← this]; exact h
structure Ent where
 val:Option V
 tf:List Obj→List Obj
def entVal (x:Ent):V:=x.val.getD .un
def TfOk (fs:Foots) (k:Nat) (f:List Obj→List Obj):Prop :=
 ∀s,(f s).length=s.length∧(∀id,id ∉ wrOf fs k→(f s)[id]?=s[id]?)∧∀s',s'.length=s.length→∀id,id∈wrOf fs k→s'[id]?=s[id]?→(f s)[id]?=(f s')[id]?
def EntOk (P:Program) (full:List Oper) (bars:List Nat) (fs:Foots) (i:Nat) (o:Oper) (x:Ent) (e:Env) (s:List Obj):Prop :=
 (bars.contains i=false→TfOk fs i x.tf) ∧
 match x.val with
 | none=>(∀s,x.tf s=s)∧∃g want d,o.guard=some (g,want)∧gslot full g=some d∧(e d=.d (.sc (.bool (!want)))∨e d=.un)
 | some v=>(∀g want,o.guard=some (g,want)→∃d,gslot full g=some d∧e d=.d (.sc (.bool want))) ∧
   ∀s',s'.length=s.length→(bars.contains i=true→s'=s)→(∀id,rdP fs i id→s'[id]?=s[id]?)→detS P full o e s' v (x.tf s')
def Trace (P:Program) (N:Nat) (full:List Oper) (bars:List Nat) (fs:Foots):Nat→List Oper→List Ent→Env→List Obj→Env→List Obj→Prop
 | _,[],[],e,s,e',s'=>e'=e∧s'=s
 | i,o::rest,x::tr,e,s,e',s'=>dstOk N o.dst∧EntOk P full bars fs i o x e s∧Trace P N full bars fs (i + 1) rest tr (updO e o.dst (entVal x)) (x.tf s) e' s'
 | _,_,_,_,_,_,_=>False
def envAt:List Oper→List Ent→(Nat→Bool)→Nat→Env→Env
 | o::l,x::tr,L,k,e=>envAt l tr L (k + 1) (if L k then updO e o.dst (entVal x) else e)
 | _,_,_,_,e=>e
theorem updE_self {e:Env} {d:Nat} {v:V} (h:e d=v):updE e d v=e:=by
 funext t
 unfold updE
 split
 ·rename_i ht; subst ht; exact h.symm
 ·rfl
theorem envAt_none:∀(l:List Oper) (tr:List Ent) (L:Nat→Bool) (k:Nat) (e:Env),(∀j,k≤j→L j=false)→envAt l tr L k e=e
 | [],_,_,_,_,_=>by simp [envAt]
 | _::_,[],_,_,_,_=>by simp [envAt]
 | o::l,x::tr,L,k,e,h=>by
  simp only[envAt,h k (Nat.le_refl _)]
  exact envAt_none l tr L (k + 1) e fun j hj=>h j (by omega)
theorem envAt_lt:∀(m:Nat) (l:List Oper) (tr:List Ent) (k:Nat) (e:Env) (o:Oper) (x:Ent),l[m]?=some o→tr[m]?=some x →
  envAt l tr (fun j=>decide (j < k + m + 1)) k e=updO (envAt l tr (fun j=>decide (j < k + m)) k e) o.dst (entVal x)
 | _,[],_,_,_,_,_,h,_=>by simp at h
 | _,_::_,[],_,_,_,_,_,h=>by simp at h
 | 0,o'::l,x'::tr,k,e,o,x,h1,h2=>by
  simp only[List.getElem?_cons_zero,Option.some.injEq] at h1 h2
  subst h1; subst h2
  simp only[envAt,Nat.add_zero,Nat.lt_irrefl,decide_false,Bool.false_eq_true,if_false,show k < k + 1 by omega,decide_true,if_true]
  rw[envAt_none _ _ _ _ _ (fun j hj=>by simp; omega),envAt_none _ _ _ _ _ (fun j hj=>by simp; omega)]
 | m + 1,o'::l,x'::tr,k,e,o,x,h1,h2=>by
  have h3:decide (k < k + (m + 1) + 1)=true:=by simp; omega
  have h4:decide (k < k + (m + 1))=true:=by simp
  simp only[envAt,h3,h4,if_true]
  have:=envAt_lt m l tr (k + 1) (updO e o'.dst (entVal x')) o x (by simpa using h1) (by simpa using h2)
  rw[show k + (m + 1) + 1=k + 1 + m + 1 by omega,show k + (m + 1)=k + 1 + m by omega]
  exact this
theorem updO_get (e:Env) (d:Option Nat) (v:V) (t:Nat):updO e d v t=if d=some t then v else e t:=by
 cases d with
 | none=>simp [updO]
 | some d =>
  simp only[updO,updE,Option.some.injEq]
  by_cases h:t=d
  ·rw[if_pos h,if_pos h.symm]
  ·rw[if_neg h,if_neg (Ne.symm h)]
theorem envAt_congr (t:Nat):∀(l:List Oper) (tr:List Ent) (L L':Nat→Bool) (k:Nat) (e e':Env),e t=e' t→(∀m o,l[m]?=some o→o.dst=some t→L (k + m)=L' (k + m)) →
  envAt l tr L k e t=envAt l tr L' k e' t
 | [],_,_,_,_,_,_,he,_=>by simpa [envAt] using he
 | _::_,[],_,_,_,_,_,he,_=>by simpa [envAt] using he
 | o::l,x::tr,L,L',k,e,e',he,h=>by
  simp only[envAt]
  refine envAt_congr t l tr L L' (k + 1) _ _ ?_ fun m o' ho' hd=>by have:=h (m + 1) o' (by simpa using ho') hd; simpa [Nat.add_assoc,Nat.add_comm 1 m] using this
  by_cases hd:o.dst=some t
  ·have:=h 0 o rfl hd
   simp only[Nat.add_zero] at this
   rw[this]
   split
   ·rw[updO_get,updO_get,if_pos hd,if_pos hd]
   ·exact he
  ·have h1:∀(b:Bool) (f:Env),(if b=true then updO f o.dst (entVal x) else f) t=f t:=fun b f=>by cases b <;> simp [updO_get,hd]
   rw[h1,h1]
   exact he
def stAt:List Ent→(Nat→Bool)→Nat→List Obj→List Obj
 | x::tr,L,k,s=>stAt tr L (k + 1) (if L k then x.tf s else s)
 | [],_,_,s=>s
theorem stAt_none:∀(tr:List Ent) (L:Nat→Bool) (k:Nat) (s:List Obj),(∀j,k≤j→L j=false)→stAt tr L k s=s
 | [],_,_,_,_=>rfl
 | x::tr,L,k,s,h=>by
  simp only[stAt]
  rw[stAt_none tr L (k + 1) _ fun j hj=>h j (by omega)]
  simp [h k (Nat.le_refl _)]
theorem stAt_congr:∀(tr:List Ent) (L L':Nat→Bool) (k:Nat) (s:List Obj),(∀m,m < tr.length→L (k + m)=L' (k + m))→stAt tr L k s=stAt tr L' k s
 | [],_,_,_,_,_=>rfl
 | x::tr,L,L',k,s,h=>by
  simp only[stAt]
  have h0:L k=L' k:=by have:=h 0 (by simp); simpa using this
  rw[h0]
  exact stAt_congr tr L L' (k + 1) _ fun m hm=>by
   have:=h (m + 1) (by simpa using hm)
   rw[show k + (m + 1)=k + 1 + m by omega] at this
   exact this
theorem stAt_lt:∀(m:Nat) (tr:List Ent) (k:Nat) (s:List Obj) (x:Ent),tr[m]?=some x →
  stAt tr (fun j=>decide (j < k + m + 1)) k s=x.tf (stAt tr (fun j=>decide (j < k + m)) k s)
 | _,[],_,_,_,h=>by simp at h
 | 0,x'::tr,k,s,x,h=>by
  simp only[List.getElem?_cons_zero,Option.some.injEq] at h
  subst h
  simp only[stAt,Nat.add_zero,Nat.lt_irrefl,decide_false,Bool.false_eq_true,if_false,show k < k + 1 by omega,decide_true,if_true]
  rw[stAt_none _ _ _ _ (fun j hj=>by simp; omega),stAt_none _ _ _ _ (fun j hj=>by simp; omega)]
 | m + 1,x'::tr,k,s,x,h=>by
  have h3:decide (k < k + (m + 1) + 1)=true:=by simp; omega
  have h4:decide (k < k + (m + 1))=true:=by simp
  simp only[stAt,h3,h4,if_true]
  have:=stAt_lt m tr (k + 1) (x'.tf s) x (by simpa using h)
  rw[show k + (m + 1) + 1=k + 1 + m + 1 by omega,show k + (m + 1)=k + 1 + m by omega]
  exact this
theorem stAt_agree {bars:List Nat} {fs:Foots} {R:Nat→Prop}:∀(tr:List Ent) (L L':Nat→Bool) (k:Nat) (s s':List Obj),
  (∀m x,tr[m]?=some x→bars.contains (k + m)=false→TfOk fs (k + m) x.tf) →
  (∀m,m < tr.length→L (k + m)=L' (k + m)∧(bars.contains (k + m)=true→L (k + m)=true→s=s'∧∀m',m' < m→L (k + m')=L' (k + m'))∨(bars.contains (k + m)=false∧∀id,R id→id ∉ wrOf fs (k + m))) →
  s.length=s'.length→(∀id,R id→s[id]?=s'[id]?) →
  (stAt tr L k s).length=(stAt tr L' k s').length∧∀id,R id→(stAt tr L k s)[id]?=(stAt tr L' k s')[id]?
 | [],_,_,_,s,s',_,_,hl,h=>⟨hl,h⟩
 | x::tr,L,L',k,s,s',htf,hd,hl,h=>by
  simp only[stAt]
  have htf':∀m y,tr[m]?=some y→bars.contains (k + 1 + m)=false→TfOk fs (k + 1 + m) y.tf:=fun m y hy hb=>by
   have:=htf (m + 1) y (by simpa using hy) (by rw[show k + (m + 1)=k + 1 + m by omega]; exact hb)
   rwa [show k + (m + 1)=k + 1 + m by omega] at this
  have next:∀t t':List Obj,t.length=t'.length→(∀id,R id→t[id]?=t'[id]?)→(s=s'→L k=L' k→t=t') →
    (stAt tr L (k + 1) t).length=(stAt tr L' (k + 1) t').length∧∀id,R id→(stAt tr L (k + 1) t)[id]?=(stAt tr L' (k + 1) t')[id]?:=by
   intro t t' h1 h2 h3
   refine stAt_agree tr L L' (k + 1) t t' htf' (fun m hm=>?_) h1 h2
   have:=hd (m + 1) (by simpa using hm)
   rw[show k + (m + 1)=k + 1 + m by omega] at this
   rcases this with ⟨g1,g2⟩ | g
   ·refine .inl ⟨g1,fun hb hLt=>?_⟩
    obtain⟨g3,g4⟩:=g2 hb hLt
    have g0:=g4 0 (by omega)
    rw[Nat.add_zero] at g0
    exact⟨h3 g3 g0,fun m' hm'=>by
     have:=g4 (m' + 1) (by omega)
     rwa [show k + (m' + 1)=k + 1 + m' by omega] at this⟩
   ·exact .inr g
  have d0:=hd 0 (by simp)
  rw[Nat.add_zero] at d0
  have tf0:=htf 0 x rfl
  rw[Nat.add_zero] at tf0
  cases hL:L k with
  | false =>
   cases hL':L' k with
   | false =>
    simp only[Bool.false_eq_true,if_false]
    exact next s s' hl h fun h _=>h
   | true =>
    simp only[Bool.false_eq_true,if_false,if_true]
    rcases d0 with ⟨d0,_⟩ | ⟨d1,d2⟩
    ·rw[hL,hL'] at d0; cases d0
    ·obtain⟨f1,f2,_⟩:=tf0 d1 s'
     exact next s (x.tf s') (by rw[f1]; exact hl) (fun id hid=>by rw[f2 id (d2 id hid)]; exact h id hid) fun _ h'=>by rw[hL,hL'] at h'; cases h'
  | true =>
   cases hL':L' k with
   | false =>
    simp only[Bool.false_eq_true,if_false,if_true]
    rcases d0 with ⟨d0,_⟩ | ⟨d1,d2⟩
    ·rw[hL,hL'] at d0; cases d0
    ·obtain⟨f1,f2,_⟩:=tf0 d1 s
     exact next (x.tf s) s' (by rw[f1]; exact hl) (fun id hid=>by rw[f2 id (d2 id hid)]; exact h id hid) fun _ h'=>by rw[hL,hL'] at h'; cases h'
   | true =>
    simp only[if_true]
    cases hb:bars.contains k with
    | true =>
     rcases d0 with ⟨_,d0⟩ | ⟨d1,_⟩
     ·obtain⟨rfl,_⟩:=d0 hb hL
      exact next _ _ rfl (fun _ _=>rfl) fun _ _=>rfl
     ·rw[hb] at d1; cases d1
    | false =>
     obtain⟨f1,f2,f3⟩:=tf0 hb s
     obtain⟨f1',f2',_⟩:=tf0 hb s'
     refine next _ _ (by rw[f1,f1']; exact hl) (fun id hid=>?_) fun h _=>by rw[h]
     by_cases hw:id∈wrOf fs k
     ·exact f3 s' hl.symm id hw (h id hid).symm
     ·rw[f2 id hw,f2' id hw]; exact h id hid
theorem trace_at {P:Program} {N:Nat} {full:List Oper} {bars:List Nat} {fs:Foots}:∀(l:List Oper) (tr:List Ent) (i:Nat) (e:Env) (s:List Obj) (e':Env) (s':List Obj),Trace P N full bars fs i l tr e s e' s' →
  tr.length=l.length∧e'=envAt l tr (fun _=>true) i e∧s'=stAt tr (fun _=>true) i s ∧
  ∀(m:Nat) (o:Oper) (x:Ent),l[m]?=some o→tr[m]?=some x→dstOk N o.dst∧EntOk P full bars fs (i + m) o x (envAt l tr (fun j=>decide (j < i + m)) i e) (stAt tr (fun j=>decide (j < i + m)) i s)
 | [],[],i,e,s,e',s',h=>by
  obtain⟨rfl,rfl⟩:=h
  exact⟨rfl,by simp [envAt],rfl,fun m o x h=>by simp at h⟩
 | [],_::_,_,_,_,_,_,h=>h.elim
 | _::_,[],_,_,_,_,_,h=>h.elim
 | o::l,x::tr,i,e,s,e',s',h=>by
  obtain⟨hd,hx,ht⟩:=h
  obtain⟨h0,h1,h2,h3⟩:=trace_at l tr (i + 1) _ _ e' s' ht
  refine⟨by simp [h0],by simp only[envAt,if_true]; exact h1,by simp only[stAt,if_true]; exact h2,fun m o1 x1 ho hx1=>?_⟩
  cases m with
  | zero =>
   simp only[List.getElem?_cons_zero,Option.some.injEq] at ho hx1
   subst ho; subst hx1
   have e1:envAt (o::l) (x::tr) (fun j=>decide (j < i + 0)) i e=e:=envAt_none _ _ _ _ _ fun j hj=>by simp; omega
   have e2:stAt (x::tr) (fun j=>decide (j < i + 0)) i s=s:=stAt_none _ _ _ _ fun j hj=>by simp; omega
   rw[e1,e2]
   exact⟨hd,hx⟩
  | succ m =>
   have:=h3 m o1 x1 (by simpa using ho) (by simpa using hx1)
   rw[show i + (m + 1)=i + 1 + m by omega]
   have hlt:decide (i < i + 1 + m)=true:=by simp; omega
   have e1:envAt (o::l) (x::tr) (fun j=>decide (j < i + 1 + m)) i e=envAt l tr (fun j=>decide (j < i + 1 + m)) (i + 1) (updO e o.dst (entVal x)):=by
    simp only[envAt,hlt,if_true]
   have e2:stAt (x::tr) (fun j=>decide (j < i + 1 + m)) i s=stAt tr (fun j=>decide (j < i + 1 + m)) (i + 1) (x.tf s):=by
    simp only[stAt,hlt,if_true]
   rw[e1,e2]
   exact this
def lst (listed:Array Bool) (j:Nat):Bool:=listed.getD j false
def unl (listed:Array Bool):Nat:=(listed.toList.filter (!·)).length
theorem unl_set {listed:Array Bool} {i:Nat} (h:listed.getD i true=false):unl (listed.setIfInBounds i true) < unl listed:=by
 have hi:i < listed.size:=by
  rcases Nat.lt_or_ge i listed.size with h' | h'
  ·exact h'
  ·simp [Array.getElem?_eq_none h'] at h
 have hv:listed.toList[i]?=some false:=by
  rw[Array.getD_eq_getD_getElem?] at h
  rw[Array.getElem?_toList]
  rw[Array.getElem?_eq_getElem hi] at h ⊢
  simpa using h
 unfold unl
 rw[Array.toList_setIfInBounds]
 generalize listed.toList=l at hv
 clear h hi
 induction l generalizing i with
 | nil=>simp at hv
 | cons b l ih =>
  cases i with
  | zero =>
   simp only[List.getElem?_cons_zero,Option.some.injEq] at hv
   subst hv
   simp
  | succ i =>
   have:=ih (i:=i) (by simpa using hv)
   simp only[List.set_cons_succ,List.filter_cons]
   cases b
   ·simp only[Bool.not_false,if_true,List.length_cons]; omega
   ·simpa using this
theorem unl_zero {listed:Array Bool} (h:unl listed=0) {i:Nat} (hi:i < listed.size):listed.getD i false=true:=by
 unfold unl at h
 rw[List.length_eq_zero_iff,List.filter_eq_nil_iff] at h
 have:=h listed[i] (by simp)
 simpa [Array.getD,hi] using this
section
variable {P:Program} {N:Nat} {full:List Oper} {bars:List Nat} {fs:Foots} {tr:List Ent} {e0:Env} {s0:List Obj}
theorem pair_of_drawOk (hd:drawOk full bars fs=true) {i j:Nat} {oi oj:Oper} (hi:full[i]?=some oi) (hj:full[j]?=some oj) (hij:i < j):pairOk full (masks full []) bars fs i j oi oj=true:=by
 simp only[drawOk,List.all_eq_true] at hd
 have h1:=hd (oi,i) (by rw[List.mem_zipIdx_iff_getElem?]; exact hi)
 simp only[Bool.and_eq_true,List.all_eq_true] at h1
 have h2:=h1.2 (oj,j) (by rw[List.mem_zipIdx_iff_getElem?]; exact hj)
 simpa [hij] using h2
theorem edge_of_drawOk (hd:drawOk full bars fs=true) {i:Nat} {oi:Oper} (hi:full[i]?=some oi) {x:Edge} (hx:x∈oi.after) (hb:Region.binds .any x=true):x.on < i:=by
 simp only[drawOk,List.all_eq_true] at hd
 have h1:=hd (oi,i) (by rw[List.mem_zipIdx_iff_getElem?]; exact hi)
 simp only[Bool.and_eq_true,List.all_eq_true] at h1
 have:=h1.1.2 x (by simpa using hx)
 simpa [hb] using this
theorem bef_of_closed {L:Nat→Prop} (hL:Closed full L) {i j:Nat} (h:befB (masks full []) i j=true) (hj:L j):L i :=
 masks_spec hL full [] (by simp) (by simp) j i h hj
theorem stands (hd:drawOk full bars fs=true) {L:Nat→Bool} (hL:Closed full fun j=>L j=true) {i:Nat} {oi:Oper} (hi:full[i]?=some oi) (hLi:L i=false)
  (hready:∀x∈oi.after.toList,Region.binds .any x=true→L x.on=true) {m:Nat} {om:Oper} (hm:full[m]?=some om) (hne:m≠i) :
  L m=decide (m < i)∨((om.apart full.toArray oi=true∧oi.apart full.toArray om=true)∧bars.contains m=false∧bars.contains i=false∧compat fs m i=true):=by
 have hL':Closed full fun j=>L j=true∨j=i:=by
  intro j o ho hj x hx hb
  rcases hj with hj | rfl
  ·exact .inl (hL j o ho hj x hx hb)
  ·rw[hi] at ho; cases ho; exact .inl (hready x hx hb)
 rcases Nat.lt_or_gt_of_ne hne with hlt | hgt
 ·have hp:=pair_of_drawOk hd hm hi hlt
  simp only[pairOk,Bool.or_eq_true] at hp
  rcases hp with hp | hp
  ·rcases bef_of_closed hL' hp (.inr rfl) with h | h
   ·exact .inl (by rw[h]; simp [hlt])
   ·exact absurd h hne
  ·simp only[Bool.and_eq_true,Bool.not_eq_true'] at hp
   obtain⟨⟨⟨⟨a1,a2⟩,a3⟩,a4⟩,a5⟩:=hp
   exact .inr ⟨⟨a1,a2⟩,a3,a4,a5⟩
 ·have hp:=pair_of_drawOk hd hi hm hgt
  simp only[pairOk,Bool.or_eq_true] at hp
  rcases hp with hp | hp
  ·cases hLm:L m with
   | false=>exact .inl (by simp; omega)
   | true=>have:=bef_of_closed hL hp hLm; rw[hLi] at this; cases this
  ·simp only[Bool.and_eq_true,Bool.not_eq_true'] at hp
   obtain⟨⟨⟨⟨a1,a2⟩,a3⟩,a4⟩,a5⟩:=hp
   exact .inr ⟨⟨a2,a1⟩,a4,a3,compat_comm a5⟩
theorem bar_before (hd:drawOk full bars fs=true) {L:Nat→Bool} (hL:Closed full fun j=>L j=true) {k m:Nat} (hk:bars.contains k=true) (hLk:L k=true) (hkf:k < full.length) (hm:m < k):L m=true:=by
 have hp:=pair_of_drawOk hd (List.getElem?_eq_getElem (by omega:m < full.length)) (List.getElem?_eq_getElem hkf) hm
 simp only[pairOk,Bool.or_eq_true] at hp
 rcases hp with hp | hp
 ·exact bef_of_closed hL hp hLk
 ·simp only[Bool.and_eq_true,Bool.not_eq_true'] at hp
  rw[hk] at hp; exact absurd hp.1.2 (by simp)
theorem Closed.add {L:Nat→Bool} (hL:Closed full fun j=>L j=true) {i:Nat} {oi:Oper} (hi:full[i]?=some oi) (hready:∀x∈oi.after.toList,Region.binds .any x=true→L x.on=true) {L':Nat→Bool}
  (h':∀j,L' j=(L j||decide (j=i))):Closed full fun j=>L' j=true:=by
 intro j o ho hj x hx hb
 have hj:L' j=true:=hj
 show L' x.on=true
 rw[h',Bool.or_eq_true] at hj ⊢
 rcases hj with hj | hj
 ·exact .inl (hL j o ho hj x hx hb)
 ·rw[decide_eq_true_eq] at hj; subst hj
  rw[hi] at ho; cases ho
  exact .inl (hready x hx hb)
theorem env_stand (hd:drawOk full bars fs=true) {L:Nat→Bool} (hL:Closed full fun j=>L j=true) {i:Nat} {oi:Oper} (hi:full[i]?=some oi) (hLi:L i=false)
  (hready:∀x∈oi.after.toList,Region.binds .any x=true→L x.on=true) {t:Nat} (ht:t∈oi.looksAt full.toArray):envAt full tr L 0 e0 t=envAt full tr (fun j=>decide (j < 0 + i)) 0 e0 t:=by
 refine envAt_congr t full tr _ _ 0 _ _ rfl fun m om hm hdst=>?_
 simp only[Nat.zero_add]
 by_cases hne:m=i
 ·subst hne; simp [hLi]
 ·rcases stands hd hL hi hLi hready hm hne with h | ⟨⟨h,_⟩,_⟩
  ·exact h
  ·exact absurd ht ((Oper.apart_spec h).1 t hdst)
theorem env_zero (hd:drawOk full bars fs=true) (L L':Nat→Bool):envAt full tr L 0 e0 0=envAt full tr L' 0 e0 0:=by
 refine envAt_congr 0 full tr _ _ 0 _ _ rfl fun m om hm hdst=>?_
 unfold drawOk at hd
 have:=List.all_eq_true.1 hd (om,m) (List.mem_zipIdx_iff_getElem?.2 hm)
 simp [noSel,hdst] at this
theorem env_put (hd:drawOk full bars fs=true) {L:Nat→Bool} (hL:Closed full fun j=>L j=true) {i:Nat} {oi:Oper} (hi:full[i]?=some oi) (hLi:L i=false)
  (hready:∀x∈oi.after.toList,Region.binds .any x=true→L x.on=true) {x:Ent} (hx:tr[i]?=some x) {L':Nat→Bool} (h':∀j,L' j=(L j||decide (j=i))) :
  envAt full tr L' 0 e0=updO (envAt full tr L 0 e0) oi.dst (entVal x):=by
 funext t
 by_cases hdt:oi.dst=some t
 ·rw[updO_get,if_pos hdt]
  have h1:envAt full tr L' 0 e0 t=envAt full tr (fun j=>decide (j < 0 + i + 1)) 0 e0 t:=by
   refine envAt_congr t full tr _ _ 0 _ _ rfl fun m om hm hdst=>?_
   simp only[Nat.zero_add]
   rw[h']
   by_cases hne:m=i
   ·subst hne; simp
   ·rcases stands hd hL hi hLi hready hm hne with h | ⟨⟨h,_⟩,_⟩
    ·rw[h]; simp only[hne,decide_false,Bool.or_false]; rw[decide_eq_decide]; omega
    ·exact absurd hdt ((Oper.apart_spec h).2.1 t hdst)
  rw[h1,envAt_lt i full tr 0 e0 oi x hi hx,updO_get,if_pos hdt]
 ·rw[updO_get,if_neg hdt]
  refine envAt_congr t full tr _ _ 0 _ _ rfl fun m om hm hdst=>?_
  simp only[Nat.zero_add]
  rw[h']
  by_cases hne:m=i
  ·subst hne; rw[hi] at hm; cases hm; exact absurd hdst hdt
  ·simp [hne]
theorem st_stand (hd:drawOk full bars fs=true) (hl:tr.length=full.length) (htf:∀m x,tr[m]?=some x→bars.contains m=false→TfOk fs m x.tf) {L:Nat→Bool} (hL:Closed full fun j=>L j=true) {i:Nat} {oi:Oper} (hi:full[i]?=some oi) (hLi:L i=false)
  (hready:∀x∈oi.after.toList,Region.binds .any x=true→L x.on=true) {R:Nat→Prop} (hR:∀m,bars.contains i=false→compat fs m i=true→∀id,R id→id ∉ wrOf fs m) :
  (stAt tr L 0 s0).length=(stAt tr (fun j=>decide (j < 0 + i)) 0 s0).length∧∀id,R id→(stAt tr L 0 s0)[id]?=(stAt tr (fun j=>decide (j < 0 + i)) 0 s0)[id]?:=by
 have hif:i < full.length:=(List.getElem?_eq_some_iff.1 hi).1
 refine stAt_agree (bars:=bars) (fs:=fs) tr _ _ 0 s0 s0 (fun m x hx hb=>by rw[Nat.zero_add] at hb ⊢; exact htf m x hx hb) (fun m hm=>?_) rfl fun _ _=>rfl
 simp only[Nat.zero_add]
 have barc:bars.contains m=true→L m=true→m < i→∀m',m' < m→L m'=decide (m' < i):=by
  intro hb hLm hmi m' hm'
  rw[bar_before hd hL hb hLm (by omega) hm']; simp; omega
 by_cases hne:m=i
 ·subst hne
  exact .inl ⟨by simp [hLi],fun _ h=>by rw[hLi] at h; cases h⟩
 ·rcases stands hd hL hi hLi hready (List.getElem?_eq_getElem (by omega:m < full.length)) hne with h | ⟨_,h1,h2,h3⟩
  ·exact .inl ⟨h,fun hb hLm=>⟨trivial,barc hb hLm (by rw[hLm] at h; simpa using h.symm)⟩⟩
  ·exact .inr ⟨h1,hR m h2 h3⟩
theorem st_put (hd:drawOk full bars fs=true) (hl:tr.length=full.length) (htf:∀m x,tr[m]?=some x→bars.contains m=false→TfOk fs m x.tf) {L:Nat→Bool} (hL:Closed full fun j=>L j=true) {i:Nat} {oi:Oper} (hi:full[i]?=some oi) (hLi:L i=false)
  (hready:∀x∈oi.after.toList,Region.binds .any x=true→L x.on=true) {x:Ent} (hx:tr[i]?=some x) {L':Nat→Bool} (h':∀j,L' j=(L j||decide (j=i))) :
  stAt tr L' 0 s0=x.tf (stAt tr L 0 s0):=by
 have hif:i < full.length:=(List.getElem?_eq_some_iff.1 hi).1
 have hlt:=stAt_lt i tr 0 s0 x hx
 rw[Nat.zero_add] at hlt
 have barc:∀m,m < tr.length→bars.contains m=true→L m=true→m < i→∀m',m' < m→L m'=decide (m' < i):=by
  intro m hm hb hLm hmi m' hm'
  rw[bar_before hd hL hb hLm (by omega) hm']; simp; omega
 by_cases hb:bars.contains i=true
 ·
  have hall:∀m,m < tr.length→L m=decide (m < i):=by
   intro m hm
   by_cases hne:m=i
   ·subst hne; simp [hLi]
   ·rcases stands hd hL hi hLi hready (List.getElem?_eq_getElem (by omega:m < full.length)) hne with h | ⟨_,_,h2,_⟩
    ·exact h
    ·rw[hb] at h2; cases h2
  rw[stAt_congr tr L (fun j=>decide (j < i)) 0 s0 fun m hm=>by rw[Nat.zero_add]; exact hall m hm,← hlt]
  refine stAt_congr tr _ _ 0 s0 fun m hm=>?_
  rw[Nat.zero_add,h',hall m hm]
  by_cases hne:m=i
  ·subst hne; simp
  ·simp only[hne,decide_false,Bool.or_false]; rw[decide_eq_decide]; omega
 ·have hb:bars.contains i=false:=by simpa using hb
  obtain⟨f1,f2,f3⟩:=htf i x hx hb (stAt tr L 0 s0)
  -- off what i writes: nothing is new
  have offW:=stAt_agree (bars:=bars) (fs:=fs) (R:=fun id=>id ∉ wrOf fs i) tr L' L 0 s0 s0 (fun m y hy hb=>by rw[Nat.zero_add] at hb ⊢; exact htf m y hy hb) (fun m hm=>by
    simp only[Nat.zero_add]
    by_cases hne:m=i
    ·subst hne; exact .inr ⟨hb,fun id hid=>hid⟩
    ·have e1:L' m=L m:=by rw[h']; simp [hne]
     refine .inl ⟨e1,fun hbm hLm=>⟨trivial,fun m' hm'=>?_⟩⟩
     rw[e1] at hLm
     have:=bar_before hd hL hbm hLm (by omega) hm'
     rw[h',this]; rfl) rfl fun _ _=>rfl
  -- on what i writes: as in the text's order
  have onW:=stAt_agree (bars:=bars) (fs:=fs) (R:=fun id=>id∈wrOf fs i) tr L' (fun j=>decide (j < i + 1)) 0 s0 s0 (fun m y hy hb=>by rw[Nat.zero_add] at hb ⊢; exact htf m y hy hb) (fun m hm=>by
    simp only[Nat.zero_add]
    by_cases hne:m=i
    ·subst hne
     refine .inl ⟨by rw[h']; simp,fun hbm _=>by rw[hb] at hbm; cases hbm⟩
    ·have e1:L' m=L m:=by rw[h']; simp [hne]
     rcases stands hd hL hi hLi hready (List.getElem?_eq_getElem (by omega:m < full.length)) hne with h | ⟨_,h1,_,h3⟩
     ·refine .inl ⟨by rw[e1,h,decide_eq_decide]; omega,fun hbm hLm=>⟨trivial,fun m' hm'=>?_⟩⟩
      rw[e1] at hLm
      have hmi:m < i:=by rw[hLm] at h; simpa using h.symm
      rw[h',barc m hm hbm hLm hmi m' hm']
      simp only[show m'≠i by omega,decide_false,Bool.or_false]; rw[decide_eq_decide]; omega
     ·exact .inr ⟨h1,fun id hid=>(compat_spec (compat_comm h3) hid).2⟩) rfl fun _ _=>rfl
  refine List.ext_getElem? fun id=>?_
  by_cases hw:id∈wrOf fs i
  ·have:=st_stand (s0:=s0) hd hl htf hL hi hLi hready (R:=fun id=>id∈wrOf fs i) (fun m _ hc id hid hm=>(compat_spec hc hm).2 hid)
   rw[Nat.zero_add] at this
   rw[onW.2 id hw,hlt,f3 _ this.1.symm id hw (this.2 id hw).symm]
  ·rw[offW.2 id hw,f2 id hw]
theorem guard_in {σ:Gh} {s:List Obj} {w:World} {e:Env} {a:Act} {o:Oper} {g:Nat} {want:Bool} {d:Nat} (hR:RepE σ s w N e a) (ho:o.guard=some (g,want)) (hg:gslot full g=some d) :
  (e d=.d (.sc (.bool want))→Region.wanted o (yielded full.toArray a.tmps)=true)∧(e d=.d (.sc (.bool (!want)))∨e d=.un→Region.wanted o (yielded full.toArray a.tmps)=false):=by
 constructor
 ·intro h
  have hw:guardWp (gslot full g) e want (fun _=>True) (fun _=>False):=by
   rw[hg]; simp [guardWp,h]
  obtain⟨_,_,h | h⟩:=guard_spec hR ho hw
  ·exact h.1
  ·exact h.2.elim
 ·intro h
  have hw:guardWp (gslot full g) e want (fun _=>False) (fun _=>True):=by
   rw[hg]
   rcases h with h | h <;> simp [guardWp,h]
  obtain⟨_,_,h | h⟩:=guard_spec hR ho hw
  ·exact h.2.elim
  ·exact h.1
theorem any_sound (hd:drawOk full bars fs=true) {e1:Env} {s1:List Obj} (ht:Trace P N full bars fs 0 full tr e0 s0 e1 s1)
  {σ00:Gh} {s00:List Obj} {w00:World} {Q:Exit→Env→List Obj→Prop} {r:Option Nat} {D:List Deferred} {ws:World} (hQ:Q .normal e1 s1):∀(fuel:Nat) (listed:Array Bool) (σ:Gh) (w:World) (a:Act),listed.size=full.length→unl listed≤fuel →
  (Closed full fun j=>lst listed j=true)→KeepD ws w→Evolve σ00 s00 w00 σ (stAt tr (lst listed) 0 s0) w→Inv σ (stAt tr (lst listed) 0 s0) w→RepE σ (stAt tr (lst listed) 0 s0) w N (envAt full tr (lst listed) 0 e0) a →
  wpAnyIn (rdF r) 0 P .any full.toArray (QR ws D (QX σ00 s00 w00 N Q)) fuel listed (Act.wD a D) w:=by
 intro fuel
 obtain⟨hl,t1,t2,t3⟩:=trace_at full tr 0 e0 s0 e1 s1 ht
 have htf:∀m x,tr[m]?=some x→bars.contains m=false→TfOk fs m x.tf:=by
  intro m x hx hb
  have hm:m < full.length:=by have:=(List.getElem?_eq_some_iff.1 hx).1; omega
  have:=(t3 m full[m] x (List.getElem?_eq_getElem hm) hx).2.1
  rw[Nat.zero_add] at this
  exact this hb
 -- when nothing is ready all is listed
 have all_of_ready:∀listed:Array Bool,listed.size=full.length→Region.ready .any full.toArray listed=[]→∀j,j < full.length→lst listed j=true:=by
  intro listed hsz hr j
  induction j using Nat.strongRecOn with
  | _ j ih =>
   intro hj
   cases hlj:lst listed j with
   | true=>rfl
   | false =>
    exfalso
    have:j∈Region.ready .any full.toArray listed:=by
     rw[mem_ready]
     refine⟨?_,full[j],by simp [hj],fun x hx hb=>?_⟩
     ·unfold lst at hlj
      have:j < listed.size:=by omega
      simpa [Array.getD,this] using hlj
     ·exact ih x.on (edge_of_drawOk hd (List.getElem?_eq_getElem hj) hx hb) (by
       have:=edge_of_drawOk hd (List.getElem?_eq_getElem hj) hx hb; omega)
    rw[hr] at this
    cases this
 have fin:∀(listed:Array Bool) (σ:Gh) (w:World) (a:Act),(∀j,j < full.length→lst listed j=true)→KeepD ws w→Evolve σ00 s00 w00 σ (stAt tr (lst listed) 0 s0) w→Inv σ (stAt tr (lst listed) 0 s0) w →
   RepE σ (stAt tr (lst listed) 0 s0) w N (envAt full tr (lst listed) 0 e0) a→QR ws D (QX σ00 s00 w00 N Q) .normal (Act.wD a D) w:=by
  intro listed σ w a hall hk hE hI hR
  have he:envAt full tr (lst listed) 0 e0=e1:=by
   rw[t1]
   funext t
   refine envAt_congr t full tr _ _ 0 _ _ rfl fun m om hm _=>?_
   rw[Nat.zero_add]
   exact hall m (List.getElem?_eq_some_iff.1 hm).1
  have hs:stAt tr (lst listed) 0 s0=s1:=by
   rw[t2]
   refine stAt_congr tr _ _ 0 _ fun m hm=>?_
   rw[Nat.zero_add]
   exact hall m (by omega)
  rw[he,hs] at hR
  rw[hs] at hE hI
  exact QR_of hk hR.1 ⟨e1,σ,s1,hE,hI,hR,hQ⟩
 have none_of_all:∀listed:Array Bool,(∀j,j < full.length→lst listed j=true)→Region.ready .any full.toArray listed=[]:=by
  intro listed hall
  rw[List.eq_nil_iff_forall_not_mem]
  intro j hj
  rw[mem_ready] at hj
  obtain⟨h0,o,ho,_⟩:=hj
  have hjl:j < full.length:=by simpa using (Array.getElem?_eq_some_iff.1 ho).1
  have:=hall j hjl
  unfold lst at this
  rw[Array.getD_eq_getD_getElem?] at this h0
  cases hx:listed[j]? with
  | none=>rw[hx] at h0; cases h0
  | some b=>rw[hx] at this h0; simp only[Option.getD_some] at this h0; rw[this] at h0; cases h0
 induction fuel with
 | zero =>
  intro listed σ w a hsz hu hL hk hE hI hR
  have hall:∀j,j < full.length→lst listed j=true:=fun j hj=>unl_zero (by omega) (by omega)
  exact⟨none_of_all listed hall,fin listed σ w a hall hk hE hI hR⟩
 | succ fuel ih =>
  intro listed σ w a hsz hu hL hk hE hI hR
  refine⟨fun hr=>fin listed σ w a (all_of_ready listed hsz hr) hk hE hI hR,fun i hir=>?_⟩
  rw[mem_ready] at hir
  obtain⟨h0,o,ho,hedges⟩:=hir
  have hif:i < full.length:=by simpa using (Array.getElem?_eq_some_iff.1 ho).1
  have hof:full[i]?=some o:=by simpa using ho
  have hLi:lst listed i=false:=by
   unfold lst
   have:i < listed.size:=by omega
   simp only[Array.getD,this,dif_pos] at h0 ⊢
   exact h0
  have hready:∀x∈o.after.toList,Region.binds .any x=true→lst listed x.on=true:=fun x hx hb=>hedges x (by simpa using hx) hb
  have hx:∃x,tr[i]?=some x:=⟨tr[i],List.getElem?_eq_getElem (by omega)⟩
  obtain⟨x,hx⟩:=hx
  have h':∀j,lst (listed.setIfInBounds i true) j=(lst listed j||decide (j=i)):=by
   intro j
   unfold lst
   by_cases hji:j=i
   ·subst hji
    have:j < listed.size:=by omega
    simp [this]
   ·rw[getD_set_ne false (Ne.symm hji)]; simp [hji]
  have hnext:=ih (listed.setIfInBounds i true)
  have heP:=env_put (tr:=tr) (e0:=e0) hd hL hof hLi hready hx h'
  have hsP:=st_put (s0:=s0) hd hl htf hL hof hLi hready hx h'
  have hcl:=Closed.add hL hof hready h'
  have hul:=unl_set h0
  obtain⟨hdst,_,hat⟩:=t3 i o x hof hx
  unfold wpOpIn
  rw[ho]
  simp only
  cases hv:x.val with
  | none =>
   rw[hv] at hat
   obtain⟨hst,g,want,d,hg,hgs,hgd⟩:=hat
   have hdl:d∈o.looksAt full.toArray:=by
    unfold gslot at hgs
    split at hgs
    ·rename_i og hog
     simp [Oper.looksAt,hg,hog,hgs]
    ·cases hgs
   rw[← env_stand (tr:=tr) (e0:=e0) hd hL hof hLi hready hdl] at hgd
   rw[show Region.wanted o (yielded full.toArray (Act.wD a D).tmps)=false from (guard_in hR hg hgs).2 hgd]
   simp only[Bool.false_eq_true,if_false]
   rw[hst] at hsP
   rw[wD_put]
   refine⟨fun _ _=>trivial,?_⟩
   refine hnext σ w _ (by simpa using hsz) (by omega) hcl hk (by rw[hsP]; exact hE) (by rw[hsP]; exact hI) ?_
   rw[hsP,heP]
   have:entVal x=.un:=by simp [entVal,hv]
   rw[this]
   exact hR.put hdst .un
  | some v =>
   rw[hv] at hat
   obtain⟨hgs,hdet⟩:=hat
   have hwant:Region.wanted o (yielded full.toArray a.tmps)=true:=by
    cases hg:o.guard with
    | none=>simp [Region.wanted,hg]
    | some gw =>
     obtain⟨g,want⟩:=gw
     obtain⟨d,hgd,hgv⟩:=hgs g want hg
     have hdl:d∈o.looksAt full.toArray:=by
      unfold gslot at hgd
      split at hgd
      ·rename_i og hog
       simp [Oper.looksAt,hg,hog,hgd]
      ·cases hgd
     rw[← env_stand (tr:=tr) (e0:=e0) hd hL hof hLi hready hdl] at hgv
     exact(guard_in hR hg hgd).1 hgv
   rw[if_pos (show Region.wanted o (yielded full.toArray (Act.wD a D).tmps)=true from hwant)]
   have hdet':detS P full o (envAt full tr (lst listed) 0 e0) (stAt tr (lst listed) 0 s0) v (stAt tr (lst (listed.setIfInBounds i true)) 0 s0):=by
    have hm:maskE full o (envAt full tr (lst listed) 0 e0)=maskE full o (envAt full tr (fun j=>decide (j < 0 + i)) 0 e0):=maskE_congr (env_zero hd _ _) fun t ht=>env_stand hd hL hof hLi hready ht
    unfold detS
    rw[hm,hsP]
    refine hdet _ ?_ ?_ ?_
    ·exact(st_stand (s0:=s0) hd hl htf hL hof hLi hready (R:=fun _=>False) (fun _ _ _ _ h=>h.elim)).1
    ·intro hb
     rw[Nat.zero_add] at hb
     have:=st_stand (s0:=s0) hd hl htf hL hof hLi hready (R:=fun _=>True) (fun _ h=>by rw[hb] at h; cases h)
     exact List.ext_getElem? fun id=>this.2 id trivial
    ·intro id hid
     rw[Nat.zero_add] at hid
     exact(st_stand (s0:=s0) hd hl htf hL hof hLi hready (R:=fun id=>rdP fs i id) (fun m _ hc id hid hw=>(compat_spec hc hw).1 hid)).2 id hid
   refine Oper.wpIn_mono (fun a' w' ⟨a0,h1,u,v',σ',s',ha,hE',hI',hR',hK⟩=>?_) (oper_rd (fun a' w' ⟨u,_,_,_,ha,_⟩=>⟨u,ha⟩) (hdet' σ w N a hI (hR.mask full o)))
   obtain⟨rfl,rfl⟩:=hK
   subst ha h1
   refine hnext σ' w' _ (by simpa using hsz) (by omega) hcl (hk.trans (.of hI hE')) (hE.trans hE') hI' ?_
   rw[heP]
   have:entVal x=v':=by simp [entVal,hv]
   rw[this]
   exact(hR.evolve hE').put hdst hR'
theorem trace_sound (hm:P.follows .mixedOrders=true) (hd:drawOk full bars fs=true) {e:Env} {s:List Obj} {e1:Env} {s1:List Obj} (ht:Trace P N full bars fs 0 full tr e s e1 s1) {K:Env→List Obj→Prop} (hK:K e1 s1):drawWp P N full e s K:=by
 intro σ0 s00 w0 Q hKQ σ w a id hE hI hR
 intro r D
 refine wpIn_region_any hm ?_
 have hf:∀j,lst (Array.replicate full.toArray.size false) j=false:=by
  intro j
  unfold lst
  rw[Array.getD_eq_getD_getElem?,Array.getElem?_replicate]
  split <;> rfl
 have hs:stAt tr (lst (Array.replicate full.toArray.size false)) 0 s=s:=stAt_none _ _ _ _ fun j _=>hf j
 have he:envAt full tr (lst (Array.replicate full.toArray.size false)) 0 e=e:=envAt_none _ _ _ _ _ fun j _=>hf j
 refine any_sound hd ht (hKQ e1 s1 hK) _ _ σ _ a (by simp) ?_ (fun j o _ hj=>by have hj:lst _ j=true:=hj; rw[hf j] at hj; cases hj) (fun _ _ h _=>h) ?_ ?_ ?_
 ·unfold unl
  refine Nat.le_trans (List.length_filter_le _ _) (by simp)
 ·rw[hs]; exact hE.trans (drew_obj hI).1
 ·rw[hs]; exact(drew_obj hI).2
 ·rw[hs,he]; exact hR.evolve (drew_obj hI).1
end
def Det1 (X:(V→Prop)→Prop):Prop:=∀K,X K→∃v,X (fun v'=>v'=v)∧K v
def Det2 (X:(V→List Obj→Prop)→Prop):Prop:=∀K,X K→∃v s,X (fun v' s'=>v'=v∧s'=s)∧K v s
theorem mkVWp_det {agg n cs}:Det1 (mkVWp agg n cs):=by
 intro K h
 unfold mkVWp at *
 cases agg with
 | true=>exact⟨_,⟨h.1,rfl⟩,h.2⟩
 | false =>
  cases cs with
  | nil=>exact h.2.elim
  | cons v l=>exact⟨v,⟨h.1,rfl⟩,h.2⟩
theorem atG_det {s id g} {F:Obj→(V→Prop)→Prop} (hF:∀o,Det1 (F o)):Det1 fun K=>atG s id g fun o=>F o K:=by
 intro K h
 unfold atG at *
 cases hs:s[id]? with
 | none=>rw[hs] at h; exact h.elim
 | some o =>
  simp only[hs] at h ⊢
  obtain⟨v,h1,h2⟩:=hF o K h.2
  exact⟨v,⟨h.1,h1⟩,h2⟩
theorem atG_det2 {s id g} {F:Obj→(V→List Obj→Prop)→Prop} (hF:∀o,Det2 (F o)):Det2 fun K=>atG s id g fun o=>F o K:=by
 intro K h
 unfold atG at *
 cases hs:s[id]? with
 | none=>rw[hs] at h; exact h.elim
 | some o =>
  simp only[hs] at h ⊢
  obtain⟨v,s1,h1,h2⟩:=hF o K h.2
  exact⟨v,s1,⟨h.1,h1⟩,h2⟩
theorem det_pure {v:V}:Det1 fun K=>K v:=fun _ h=>⟨v,rfl,h⟩
theorem det_false:Det1 fun _=>False:=fun _ h=>h.elim
theorem det_and {c:Prop} {X:(V→Prop)→Prop} (h:Det1 X):Det1 fun K=>c∧X K:=fun K hk =>
 let ⟨v,h1,h2⟩:=h K hk.2
 ⟨v,⟨hk.1,h1⟩,h2⟩
theorem det2_pure {v:V} {s:List Obj}:Det2 fun K=>K v s:=fun _ h=>⟨v,s,⟨rfl,rfl⟩,h⟩
theorem det2_false:Det2 fun _=>False:=fun _ h=>h.elim
theorem det2_and {c:Prop} {X:(V→List Obj→Prop)→Prop} (h:Det2 X):Det2 fun K=>c∧X K:=fun K hk =>
 let ⟨v,s,h1,h2⟩:=h K hk.2
 ⟨v,s,⟨hk.1,h1⟩,h2⟩
theorem det2_of {X:(V→Prop)→Prop} {s:List Obj} (h:Det1 X):Det2 fun K=>X fun v=>K v s:=by
 intro K hk
 obtain⟨v,h1,h2⟩:=h _ hk
 refine⟨v,s,?_,h2⟩
 simpa using h1
theorem loadWp_det {P t s p}:Det1 (loadWp P t s p):=by
 unfold loadWp
 cases tyI P t with
 | none=>exact det_false
 | some i =>
  simp only
  cases p with
  | d x =>
   cases x with
   | el cs=>exact mkVWp_det
   | _=>exact det_false
  | rf id g k off =>
   simp only
   cases s[id]? with
   | none=>exact det_false
   | some o =>
    simp only
    cases o.els[k]? with
    | none=>exact det_and det_false
    | some cs=>exact det_and mkVWp_det
  | pp id g k off b a =>
   simp only
   cases s[id]? with
   | none=>exact det_false
   | some o =>
    simp only
    cases o.els[k]? with
    | none=>exact det_and det_false
    | some cs=>exact det_and mkVWp_det
  | bx v=>exact mkVWp_det
  | _=>exact det_false
theorem fieldAddrWp_det {P t s p f}:Det1 (fieldAddrWp P t s p f):=by
 unfold fieldAddrWp
 cases fOff P t f with
 | none=>exact det_false
 | some i =>
  simp only
  split
  ·exact det_pure
  ·exact atG_det fun _=>det_pure
  ·exact atG_det fun _=>det_pure
  ·exact det_pure
  ·exact det_false
theorem elP_det {els i z}:Det1 (elP els i z):=by
 unfold elP
 cases els[i]? with
 | none=>exact det_false
 | some cs=>exact det_and det_pure
theorem indexAddrWp_det {P t s x i}:Det1 (indexAddrWp P t s x i):=by
 unfold indexAddrWp
 split
 ·split
  ·split
   ·exact det_and (det_and elP_det)
   ·exact det_and (det_and elP_det)
   ·exact atG_det fun _=>det_and (det_and (det_and det_pure))
   ·exact det_false
  ·split
   ·split
    ·exact det_and (det_and det_pure)
    ·exact atG_det fun _=>det_and (det_and det_pure)
    ·exact det_false
   ·exact det_false
 ·exact det_false
theorem partWp_det {P t cs off}:Det1 (partWp P t cs off):=by
 unfold partWp
 cases tyI P t with
 | none=>exact det_false
 | some i =>
  simp only
  cases i.agg with
  | true=>exact det_and det_pure
  | false =>
   simp only
   cases cs[off]? with
   | none=>exact det_false
   | some v=>exact det_pure
theorem fieldWp_det {P t x f}:Det1 (fieldWp P t x f):=by
 unfold fieldWp
 split
 ·split
  ·split
   ·exact partWp_det
   ·exact det_false
  ·exact det_false
 ·exact det_false
theorem indexWp_det {P t x i}:Det1 (indexWp P t x i):=by
 unfold indexWp
 split
 ·split
  ·split
   ·split
    ·exact det_and (det_and partWp_det)
    ·exact det_false
   ·exact det_false
  ·exact det_false
 ·exact det_false
theorem buildWp_det {P t parts}:Det1 (buildWp P t parts):=by
 unfold buildWp
 split
 ·exact det_false
 ·split
  ·split
   ·exact det_pure
   ·exact det_false
  ·split
   ·split
    ·exact det_pure
    ·exact det_false
   ·exact det_false
theorem allocWp_det {P t s}:Det2 (allocWp P t s):=by
 unfold allocWp
 split
 ·exact det2_false
 ·exact det2_pure
theorem boxWp_det {s x}:Det2 (boxWp s x):=by
 unfold boxWp
 split
 ·exact det2_false
 ·exact det2_pure
theorem buildSliceWp_det {P t len parts s}:Det2 (buildSliceWp P t len parts s):=by
 unfold buildSliceWp
 split
 ·exact det2_false
 ·refine det2_and ?_
  split
  ·exact det2_false
  ·split
   ·exact det2_pure
   ·exact det2_pure
theorem makeSliceWp_det {P t l c s}:Det2 (makeSliceWp P t l c s):=by
 unfold makeSliceWp
 split
 ·exact det2_false
 ·split
  ·exact det2_and det2_pure
  ·exact det2_false
theorem appendWp_det {P t a x s}:Det2 (appendWp P t a x s):=by
 unfold appendWp
 split
 ·exact det2_false
 ·split
  ·exact det2_false
  ·refine det2_and ?_
   split
   ·split
    ·exact det2_and det2_pure
    ·exact det2_and det2_pure
   ·exact atG_det2 fun _=>det2_and det2_pure
   ·exact det2_false
theorem appendZWp_det {P t t' a x s}:Det2 (appendZWp P t t' a x s):=by
 unfold appendZWp
 split
 ·exact det2_false
 ·split
  ·split
   ·exact det2_and det2_pure
   ·exact det2_false
  ·exact det2_false
theorem capWp_det {P t x}:Det1 (capWp P t x):=by
 unfold capWp
 split
 ·split
  ·exact det_pure
  ·exact det_false
 ·exact det_false
theorem arSliceWp_det {P t x lo hi mx}:Det1 (arSliceWp P t x lo hi mx):=by
 unfold arSliceWp
 split
 ·exact det_false
 ·split
  ·exact det_and det_pure
  ·exact det_false
theorem sliceWp_det {P t x lo hi mx s}:Det1 (sliceWp P t x lo hi mx s):=by
 unfold sliceWp
 split
 ·exact arSliceWp_det
 ·split
  ·exact det_false
  ·split
   ·refine det_and ?_
    split
    ·exact det_and det_pure
    ·exact det_and det_pure
    ·exact det_and (det_and (det_and det_pure))
    ·refine atG_det fun _=>det_and ?_
     split
     ·exact det_pure
     ·exact det_pure
    ·exact det_false
   ·exact det_false
theorem lenWp_det {P t x s}:Det1 (lenWp P t x s):=by
 unfold lenWp
 split
 ·split
  ·exact det_pure
  ·exact det_pure
  ·exact det_pure
  ·exact det_false
 ·split
  ·exact det_pure
  ·exact det_false
 ·split
  ·exact atG_det fun _=>det_pure
  ·exact det_false
 ·exact det_false
theorem intWp_det {op k a b}:Det1 (intWp op k a b):=by
 unfold intWp
 split <;> first | exact det_pure | exact det_and det_pure | exact det_false | (split <;> first | exact det_pure | exact det_and det_pure | exact det_false)
theorem arrEqWp_det {P op t xs ys}:Det1 (arrEqWp P op t xs ys):=by
 unfold arrEqWp
 split
 ·refine det_and ?_
  split <;> first | exact det_pure | exact det_false
 ·refine det_and ?_
  split <;> first | exact det_pure | exact det_false
 ·exact det_false
theorem binWp0_det {P op t s x y}:Det1 (binWp0 P op t s x y):=by
 unfold binWp0
 split <;> first | exact arrEqWp_det | exact det_and intWp_det | exact det_false | (refine det_and ?_; split <;> first | exact det_pure | exact det_false) | (refine det_and (det_and ?_); split <;> first | exact det_pure | exact det_false) | (split <;> first | exact det_pure | exact det_false)
theorem binWp_det {P op t s x y}:Det1 (binWp P op t s x y):=by
 unfold binWp
 split
 ·unfold shiftWp
  split
  ·exact det_and det_pure
  ·exact det_false
 ·exact binWp0_det
theorem nilSlWp_det {P op t s x}:Det1 (nilSlWp P op t s x):=by
 unfold nilSlWp
 refine det_and (det_and ?_)
 split <;> first | exact det_pure | exact det_false | exact atG_det fun _=>det_pure
theorem unWp_det {op x}:Det1 (unWp op x):=by
 unfold unWp
 split <;> first | exact det_pure | exact det_false
theorem convWp_det {P a b x}:Det1 (convWp P a b x):=by
 unfold convWp
 split
 ·split <;> first | exact det_pure | exact det_false
 ·exact det_false
theorem minmaxWp_det {mn}:∀(ys:List V) (acc:V),Det1 (minmaxWp mn acc ys)
 | [],acc=>det_pure
 | y::ys,acc=>by
  intro K h
  unfold minmaxWp at h
  split at h
  ·obtain⟨v,h1,h2⟩:=minmaxWp_det ys _ K h
   exact⟨v,by unfold minmaxWp; exact h1,h2⟩
  ·exact h.elim
theorem nilWp_det {s x}:Det1 (nilWp s x):=by
 unfold nilWp
 split
 ·exact det_pure
 ·exact atG_det fun _=>det_pure
 ·exact atG_det fun _=>det_pure
 ·exact det_pure
 ·exact det_pure
 ·exact det_false
theorem tupWp_det {x i}:Det1 (tupWp x i):=by
 unfold tupWp
 split
 ·split
  ·exact det_pure
  ·exact det_false
 ·exact det_false
theorem boolWp_det2 {x a b s}:Det2 fun K=>boolWp x (K a s) (K b s):=by
 unfold boolWp
 split
 ·rename_i b'
  cases b' with
  | true=>intro K h; exact⟨a,s,by simp,h.1 rfl⟩
  | false=>intro K h; exact⟨b,s,by simp,h.2 rfl⟩
 ·exact det2_false
theorem storeWp_det {P t s p x}:Det2 fun K=>storeWp P t s p x fun s'=>K .un s':=by
 unfold storeWp
 split
 ·exact det2_false
 ·split
  ·split
   ·exact det2_false
   ·refine det2_and (det2_and ?_)
    split
    ·exact det2_false
    ·split
     ·exact det2_false
     ·exact det2_and (det2_and det2_pure)
  ·split
   ·exact det2_false
   ·refine det2_and (det2_and ?_)
    split
    ·exact det2_false
    ·split
     ·exact det2_false
     ·exact det2_and (det2_and det2_pure)
  ·exact det2_false
theorem copyWp_det {P t a x s}:Det2 (copyWp P t a x s):=by
 unfold copyWp
 split
 ·exact det2_false
 ·split
  ·exact det2_false
  ·refine det2_and ?_
   split
   ·unfold atG
    split
    ·exact det2_false
    ·exact det2_and (det2_and det2_pure)
   ·exact det2_false
theorem clearWp_det {P t x s}:Det2 (clearWp P t x s):=by
 unfold clearWp
 split
 ·exact det2_false
 ·split
  ·unfold atG
   split
   ·exact det2_false
   ·exact det2_and (det2_and det2_pure)
  ·exact det2_pure
  ·exact det2_false
theorem det_ex {α:Type} {F:α→(V→Prop)→Prop} (hF:∀a,Det1 (F a)):Det1 fun K=>∃a,F a K:=by
 rintro K ⟨a,h⟩
 obtain⟨v,h1,h2⟩:=hF a K h
 exact⟨v,⟨a,h1⟩,h2⟩
theorem det2_ex {α:Type} {F:α→(V→List Obj→Prop)→Prop} (hF:∀a,Det2 (F a)):Det2 fun K=>∃a,F a K:=by
 rintro K ⟨a,h⟩
 obtain⟨v,s,h1,h2⟩:=hF a K h
 exact⟨v,s,⟨a,h1⟩,h2⟩
theorem lookKWp_det {P t s m k}:Det1 (lookKWp P t s m k):=by
 unfold lookKWp
 split
 ·split
  ·split
   ·exact det_and (atG_det fun _=>det_ex fun _=>det_ex fun _=>det_ex fun _=>det_and (det_and (det_and (det_and det_pure))))
   ·exact det_false
  ·exact det_false
 ·exact det_false
theorem updKWp_det {P t s m k x}:Det2 fun K=>updKWp P t s m k x fun s'=>K .un s':=by
 unfold updKWp
 split
 ·split
  ·split
   ·split
    ·refine det2_and (atG_det2 fun _=>det2_and (det2_ex fun _=>det2_ex fun r=>det2_and ?_))
     cases r with
     | none=>exact det2_pure
     | some v=>exact det2_and det2_pure
    ·exact det2_false
   ·exact det2_false
  ·exact det2_false
 ·exact det2_false
theorem lookFWp_det {P t s m k}:Det1 (lookFWp P t s m k):=by
 unfold lookFWp
 split
 ·exact det_false
 ·split
  ·split
   ·refine atG_det fun _=>det_and ?_
    split
    ·exact det_false
    ·exact det_pure
   ·exact det_false
  ·exact det_false
theorem updFWp_det {P t s m k x}:Det2 fun K=>updFWp P t s m k x fun s'=>K .un s':=by
 unfold updFWp
 split
 ·exact updKWp_det
 ·split
  ·split
   ·split
    ·refine atG_det2 fun _=>det2_and ?_
     split
     ·exact det2_false
     ·exact det2_and det2_pure
    ·exact det2_false
   ·exact det2_false
  ·exact det2_false
theorem lookupWp_det {P t s m k}:Det1 (lookupWp P t s m k):=by
 unfold lookupWp
 split
 ·exact lookFWp_det
 ·split
  ·split
   ·refine atG_det fun _=>det_and ?_
    split
    ·exact det_false
    ·exact det_pure
   ·exact det_false
  ·exact det_false
theorem updWp_det {P t s m k x}:Det2 fun K=>updWp P t s m k x fun s'=>K .un s':=by
 unfold updWp
 split
 ·exact updFWp_det
 ·split
  ·split
   ·split
    ·refine atG_det2 fun _=>det2_and ?_
     split
     ·exact det2_false
     ·exact det2_and det2_pure
    ·exact det2_false
   ·exact det2_false
  ·exact det2_false
theorem makeMapWp_det {P t r s}:Det2 (makeMapWp P t r s):=det2_and det2_pure
def fnCall (o:Oper):Bool :=
 match o.op with
 | .call c=>match c.callee with
  | .value _=>true
  | _=>false
 | _=>false
theorem op_det {P o e s} (hc:fnCall o=false):Det2 (opWp P o e s):=by
 obtain⟨dst,op,ty,pos,after,guard⟩:=o
 unfold opWp
 cases op <;> simp only
 case move=>exact det2_pure
 case assign=>exact det2_pure
 case pick=>exact boolWp_det2
 case alloc=>exact allocWp_det
 case box=>exact boxWp_det
 case build=>exact det2_of buildWp_det
 case buildSlice=>exact buildSliceWp_det
 case load=>exact det2_of loadWp_det
 case store=>exact storeWp_det
 case nilCheck=>exact det2_of nilWp_det
 case binOp op t x y t' =>
  cases nilC y with
  | true=>exact det2_of nilSlWp_det
  | false=>exact det2_of binWp_det
 case unOp=>exact det2_of unWp_det
 case convert=>exact det2_of convWp_det
 case makeFunc=>exact det2_pure
 case makeSlice=>exact makeSliceWp_det
 case slice=>exact det2_of sliceWp_det
 case fieldAddr=>exact det2_of fieldAddrWp_det
 case field=>exact det2_of fieldWp_det
 case indexAddr=>exact det2_of indexAddrWp_det
 case index=>exact det2_of indexWp_det
 case extract=>exact det2_of tupWp_det
 case makeMap=>exact makeMapWp_det
 case lookup t x i ok =>
  cases ok with
  | true=>exact det2_of lookKWp_det
  | false=>exact det2_of lookupWp_det
 case mapUpdate=>exact updWp_det
 case insert=>exact updWp_det
 case call c =>
  unfold callOpWp
  simp only[fnCall] at hc
  split
  ·rename_i h; rw[h] at hc; cases hc
  ·rename_i h; rw[h] at hc; cases hc
  ·split
   ·exact det2_of lenWp_det
   ·split
    ·exact appendWp_det
    ·exact appendZWp_det
   ·exact det2_and copyWp_det
   ·exact clearWp_det
   ·exact det2_of (minmaxWp_det _ _)
   ·exact det2_of (minmaxWp_det _ _)
   ·exact det2_of capWp_det
   ·exact det2_false
  ·exact det2_false
 all_goals exact det2_false
def vIds:V→List Nat
 | .rf id _ _ _=>[id]
 | .pp id _ _ _ _ _=>[id]
 | .so id _ _ _=>[id]
 | .mp id _=>[id]
 | _=>[]
def mpIds:V→List Nat
 | .mp id _=>[id]
 | _=>[]
def opReads (e:Env) (o:Oper):List Nat :=
 match o.op with
 | .move _ | .assign _ | .pick .. | .build .. | .buildSlice .. | .makeFunc ..=>[]
 | .load _ a=>vIds (rawAt (e 0) (ev e a))
 | .call ⟨.builtin .len,xs,_⟩=>xs.toList.flatMap fun x=>mpIds (ev e x)
 | _=>o.op.operands.toList.flatMap fun x=>vIds (ev e x)
def roOp (o:Oper):Bool :=
 match o.op with
 | .move _ | .assign _ | .pick .. | .build .. | .buildSlice .. | .load .. | .nilCheck _ | .binOp .. | .unOp .. | .convert .. | .makeFunc .. | .slice .. | .fieldAddr .. | .field .. | .indexAddr .. | .index .. | .extract .. | .lookup ..=>true
 | .call c=>match c.callee with
  | .builtin .len=>true
  | .builtin .min=>true
  | .builtin .max=>true
  | .builtin .append=>true
  | _=>false
 | _=>false
section
variable {P:Program} {s s':List Obj}
theorem atG_agree {id g:Nat} (h:s'[id]?=s[id]?) (K:Obj→Prop):atG s id g K=atG s' id g K:=by
 unfold atG; rw[h]
theorem loadWp_agree {t:TypeId} {p:V} (h:∀id∈vIds p,s'[id]?=s[id]?) (K:V→Prop):loadWp P t s p K=loadWp P t s' p K:=by
 unfold loadWp
 cases tyI P t with
 | none=>rfl
 | some i =>
  cases p with
  | rf id g k off=>simp only[h id (by simp [vIds])]
  | pp id g k off b a=>simp only[h id (by simp [vIds])]
  | d x=>cases x <;> rfl
  | _=>rfl
theorem fieldAddrWp_agree {t:TypeId} {p:V} {f:Nat} (h:∀id∈vIds p,s'[id]?=s[id]?) (K:V→Prop):fieldAddrWp P t s p f K=fieldAddrWp P t s' p f K:=by
 unfold fieldAddrWp
 cases fOff P t f with
 | none=>rfl
 | some d =>
  cases p with
  | rf id g k off=>simp only[atG_agree (h id (by simp [vIds]))]
  | pp id g k off b a=>simp only[atG_agree (h id (by simp [vIds]))]
  | d x=>simp only; split <;> first | rfl | (rename_i he; cases he)
  | _=>rfl
theorem indexAddrWp_agree {t:TypeId} {p i:V} (h:∀id∈vIds p,s'[id]?=s[id]?) (K:V→Prop):indexAddrWp P t s p i K=indexAddrWp P t s' p i K:=by
 unfold indexAddrWp
 split
 ·split
  ·cases p with
   | so id g lo n=>simp only[atG_agree (h id (by simp [vIds]))]
   | d x=>cases x <;> rfl
   | _=>rfl
  ·split
   ·cases p with
    | rf id g k off=>simp only[atG_agree (h id (by simp [vIds]))]
    | d x=>cases x <;> rfl
    | _=>rfl
   ·rfl
 ·rfl
theorem lenWp_agree {t:TypeId} {p:V} (h:∀id∈mpIds p,s'[id]?=s[id]?) (K:V→Prop):lenWp P t p s K=lenWp P t p s' K:=by
 unfold lenWp
 split
 ·cases p with
  | so id g lo n=>rfl
  | d x=>cases x <;> rfl
  | _=>rfl
 ·rfl
 ·cases p with
  | mp id g=>simp only[atG_agree (h id (by simp [mpIds]))]
  | _=>rfl
 ·rfl
theorem lookKWp_agree {t:TypeId} {p k:V} (h:∀id∈vIds p,s'[id]?=s[id]?) (K:V→Prop):lookKWp P t s p k K=lookKWp P t s' p k K:=by
 unfold lookKWp
 split
 ·cases p with
  | mp id g=>simp only[atG_agree (h id (by simp [vIds]))]
  | _=>rfl
 ·rfl
theorem lookFWp_agree {t:TypeId} {p k:V} (h:∀id∈vIds p,s'[id]?=s[id]?) (K:V→Prop):lookFWp P t s p k K=lookFWp P t s' p k K:=by
 unfold lookFWp
 cases mapFTy P t with
 | none=>rfl
 | some ik =>
  cases p with
  | mp id g=>simp only[atG_agree (h id (by simp [vIds]))]
  | _=>rfl
theorem lookupWp_agree {t:TypeId} {p k:V} (h:∀id∈vIds p,s'[id]?=s[id]?) (K:V→Prop):lookupWp P t s p k K=lookupWp P t s' p k K:=by
 unfold lookupWp
 cases mapTy P t with
 | none=>exact lookFWp_agree h K
 | some ik =>
  cases p with
  | mp id g=>simp only[atG_agree (h id (by simp [vIds]))]
  | _=>rfl
theorem nilWp_agree {p:V} (h:∀id∈vIds p,s'[id]?=s[id]?) (K:V→Prop):nilWp s p K=nilWp s' p K:=by
 cases p with
 | rf id g k off=>simp only[nilWp,atG_agree (h id (by simp [vIds]))]
 | pp id g k off b a=>simp only[nilWp,atG_agree (h id (by simp [vIds]))]
 | d x=>unfold nilWp; split <;> first | rfl | (rename_i he; cases he)
 | cl f a b=>cases f <;> rfl
 | _=>rfl
theorem elsV_agree {p:V} (h:∀id∈vIds p,s'[id]?=s[id]?):elsV s p=elsV s' p:=by
 unfold elsV
 cases p with
 | so id g lo n=>simp only[h id (by simp [vIds])]
 | d x=>cases x <;> rfl
 | _=>rfl
theorem sliceWp_agree {t:TypeId} {p:V} {lo hi mx:Option V} (h:∀id∈vIds p,s'[id]?=s[id]?) (K:V→Prop):sliceWp P t p lo hi mx s K=sliceWp P t p lo hi mx s' K:=by
 unfold sliceWp
 rw[elsV_agree h]
 split
 ·rfl
 ·split
  ·rfl
  ·split
   ·congr 1
    cases mx with
    | none =>
     cases p with
     | so id g lo n=>simp only[atG_agree (h id (by simp [vIds]))]
     | d x=>cases x <;> rfl
     | _=>rfl
    | some m =>
     cases p with
     | d x=>cases x <;> rfl
     | _=>rfl
   ·rfl
theorem nilSlWp_agree {op:BinOp} {t:TypeId} {p:V} (h:∀id∈vIds p,s'[id]?=s[id]?) (K:V→Prop):nilSlWp P op t s p K=nilSlWp P op t s' p K:=by
 unfold nilSlWp
 cases p with
 | so id g lo n=>cases n <;> simp only[atG_agree (h id (by simp [vIds]))]
 | d x=>cases x with
  | sl els=>cases els <;> rfl
  | _=>rfl
 | fu els=>cases els <;> rfl
 | _=>rfl
theorem isPtr_agree {p:V} (h:∀id∈vIds p,s'[id]?=s[id]?):isPtr s p=isPtr s' p:=by
 unfold isPtr
 cases p with
 | rf id g k off=>simp only[atG_agree (h id (by simp [vIds]))]
 | pp id g k off b a=>simp only[atG_agree (h id (by simp [vIds]))]
 | d x=>cases x <;> rfl
 | _=>rfl
theorem binWp0_agree {op:BinOp} {t:TypeId} {x y:V} (h:∀id∈vIds x,s'[id]?=s[id]?) (h':∀id∈vIds y,s'[id]?=s[id]?) (K:V→Prop):binWp0 P op t s x y K=binWp0 P op t s' x y K:=by
 unfold binWp0
 split <;> simp only[isPtr_agree h,isPtr_agree h']
theorem binWp_agree {op:BinOp} {t:TypeId} {x y:V} (h:∀id∈vIds x,s'[id]?=s[id]?) (h':∀id∈vIds y,s'[id]?=s[id]?) (K:V→Prop):binWp P op t s x y K=binWp P op t s' x y K:=by
 unfold binWp
 split
 ·rfl
 ·exact binWp0_agree h h' K
theorem set_ne {s:List Obj} {id:Nat} {o n:Obj} (ho:s[id]?=some o) (hn:n.g≠o.g):s.set id n≠s:=by
 intro h
 have h1:=List.getElem?_set_self (a:=n) (List.getElem?_eq_some_iff.1 ho).1
 rw[h,ho] at h1
 cases h1
 exact hn rfl
theorem appendWp_ro {t:TypeId} {a x v:V} (h:∀id∈vIds a,s'[id]?=s[id]?) (h':∀id∈vIds x,s'[id]?=s[id]?) (hw:appendWp P t a x s fun v' s1=>v'=v∧s1=s):appendWp P t a x s' fun v' s1=>v'=v∧s1=s':=by
 unfold appendWp at hw ⊢
 rw[elsV_agree h'] at hw
 split at hw
 ·exact hw.elim
 rename_i i hi
 split at hw
 ·exact hw.elim
 rename_i ns hns
 refine⟨hw.1,?_⟩
 have hw:=hw.2
 split at hw
 ·split at hw
  ·exact⟨hw.1,hw.2.1,rfl⟩
  ·exact absurd (congrArg List.length hw.2.2) (by simp)
 ·exfalso
  obtain⟨o,ho,hg,⟨_,_,hs⟩⟩:=atG_spec hw
  exact set_ne ho (by simp only; omega) hs
 ·exact hw.elim
theorem appendZWp_new {t t':TypeId} {a x v:V} (hw:appendZWp P t t' a x s fun v' s1=>v'=v∧s1=s):False:=by
 unfold appendZWp at hw
 split at hw
 ·exact hw
 ·split at hw
  ·split at hw
   ·exact absurd (congrArg List.length hw.2.2) (by simp)
   ·exact hw
  ·exact hw
theorem ro_agree {o:Oper} {e:Env} {v:V} (hr:roOp o=true) (h:∀id∈opReads e o,s'[id]?=s[id]?) (hw:opWp P o e s fun v' s1=>v'=v∧s1=s):opWp P o e s' fun v' s1=>v'=v∧s1=s':=by
 obtain⟨dst,op,ty,pos,after,guard⟩:=o
 have rd:(opReads e ⟨dst,op,ty,pos,after,guard⟩=op.operands.toList.flatMap fun x=>vIds (ev e x))→∀x∈op.operands.toList,∀id∈vIds (ev e x),s'[id]?=s[id]?:=fun he x hx id hid=>h id (by rw[he]; exact List.mem_flatMap.2 ⟨x,hx,hid⟩)
 unfold opWp at hw ⊢
 cases op <;> simp only[roOp,Bool.false_eq_true] at hr <;> simp only at hw ⊢
 case move=>exact hw
 case assign=>exact hw
 case pick=>simpa using hw
 case build=>exact hw
 case buildSlice =>
  unfold buildSliceWp at hw ⊢
  split at hw
  ·exact hw.elim
  ·refine⟨hw.1,?_⟩
   have hw:=hw.2
   split at hw
   ·exact hw.elim
   ·split at hw
    ·exact⟨hw.1,rfl⟩
    ·exact absurd (congrArg List.length hw.2) (by simp)
 case load t a=>rw[loadWp_agree (fun id hid=>h id (by simpa [opReads] using hid))] at hw; exact hw
 case nilCheck a=>rw[nilWp_agree (rd rfl a (by simp [Op.operands]))] at hw; exact hw
 case binOp op t x y t' =>
  cases hn:nilC y with
  | true=>rw[hn] at hw; simp only[cond_true] at hw ⊢; rw[nilSlWp_agree (rd rfl x (by simp [Op.operands]))] at hw; exact hw
  | false=>rw[hn] at hw; simp only[cond_false] at hw ⊢; rw[binWp_agree (rd rfl x (by simp [Op.operands])) (rd rfl y (by simp [Op.operands]))] at hw; exact hw
 case unOp=>exact hw
 case convert=>exact hw
 case makeFunc=>exact hw
 case slice t x lo hi mx=>rw[sliceWp_agree (rd rfl x (by simp [Op.operands]))] at hw; exact hw
 case fieldAddr t x f=>rw[fieldAddrWp_agree (rd rfl x (by simp [Op.operands]))] at hw; exact hw
 case field=>exact hw
 case indexAddr t x i=>rw[indexAddrWp_agree (rd rfl x (by simp [Op.operands]))] at hw; exact hw
 case index=>exact hw
 case extract=>exact hw
 case lookup t x i ok =>
  cases ok with
  | true=>simp only[cond_true] at hw ⊢; rw[lookKWp_agree (rd rfl x (by simp [Op.operands]))] at hw; exact hw
  | false=>simp only[cond_false] at hw ⊢; rw[lookupWp_agree (rd rfl x (by simp [Op.operands]))] at hw; exact hw
 case call c =>
  obtain⟨callee,args,argTypes⟩:=c
  cases callee with
  | value f=>cases hr
  | invoke r m=>cases hr
  | builtin b =>
   unfold callOpWp at hw ⊢
   simp only at hw ⊢ hr
   split at hw
   ·rename_i x t ha ht
    rw[lenWp_agree (s':=s') (fun id hid=>h id (by simp [opReads,ha]; exact hid))] at hw
    exact hw
   ·rename_i a x t t' ha ht
    split at hw
    ·rename_i htt
     rw[if_pos htt]
     exact appendWp_ro (rd rfl a (by simp [Op.operands,Call.operands,ha])) (rd rfl x (by simp [Op.operands,Call.operands,ha])) hw
    ·exact(appendZWp_new hw).elim
   ·first | (cases hr; done) | (simp at hr; done)
   ·first | (cases hr; done) | (simp at hr; done)
   ·exact hw
   ·exact hw
   ·first | exact hw | (cases hr; done) | (simp at hr; done)
   ·exact hw.elim
end
def kill1 (s:List Obj) (id:Nat):List Obj :=
 match s[id]? with
 | some o=>s.set id { o with live:=false }
 | none=>s
def killO (s:List Obj):List Nat→List Obj
 | []=>s
 | id::ids=>killO (kill1 s id) ids
theorem kill1_get {s:List Obj} {id id':Nat} {o:Obj} (h:(kill1 s id)[id']?=some o):∃o',s[id']?=some o'∧o.g=o'.g∧o.sz=o'.sz∧o.els=o'.els∧(o.live=true→o'.live=true):=by
 unfold kill1 at h
 split at h
 ·rename_i o0 ho0
  rw[List.getElem?_set] at h
  split at h
  ·rename_i he
   subst he
   split at h
   ·simp only[Option.some.injEq] at h; subst h; exact⟨o0,ho0,rfl,rfl,rfl,fun h=>by cases h⟩
   ·cases h
  ·exact⟨o,h,rfl,rfl,rfl,fun h=>h⟩
 ·exact⟨o,h,rfl,rfl,rfl,fun h=>h⟩
theorem kill1_to {s:List Obj} {id id':Nat} {o:Obj} (h:s[id']?=some o):∃o',(kill1 s id)[id']?=some o'∧o'.g=o.g∧o'.sz=o.sz:=by
 unfold kill1
 split
 ·rename_i o0 ho0
  rw[List.getElem?_set]
  split
  ·rename_i he
   subst he
   rw[ho0] at h; cases h
   rw[if_pos (List.getElem?_eq_some_iff.1 ho0).1]
   exact⟨_,rfl,rfl,rfl⟩
  ·exact⟨o,h,rfl,rfl⟩
 ·exact⟨o,h,rfl,rfl⟩
theorem kill1_ok {σ:Gh} {s:List Obj} {w:World} (hI:Inv σ s w) (id:Nat):Evolve σ s w σ (kill1 s id) w∧Inv σ (kill1 s id) w:=by
 have own:∀b,Own σ (kill1 s id) b→Own σ s b:=by
  rintro b (h | ⟨id',o,base,h1,h2,h3⟩)
  ·exact .inl h
  ·obtain⟨o',k1,_,_,_,k5⟩:=kill1_get h1
   exact .inr ⟨id',o',base,k1,k5 h2,h3⟩
 have hE:Evolve σ s w σ (kill1 s id) w:=⟨rfl,rfl,rfl,Nat.le_refl _,fun _ _ _=>rfl,fun _ arr _ _ h=>⟨arr,h,rfl⟩,fun _ _ h=>h,fun b h=>.inl (own b h),
  fun id' o ho=>let ⟨o',k1,k2,k3⟩:=kill1_to (id:=id) ho; ⟨o',k1,by omega,fun _=>⟨k3,rfl⟩⟩,rfl,fun _ _ _=>rfl⟩
 refine⟨hE,⟨fun id' o ho=>?_,fun i i' o o' b base base' h1 h2 h3 h4 h5=>?_,hI.low,fun i o b base h1 h2=>?_⟩⟩
 ·obtain⟨o',k1,_,k3,k4,_⟩:=kill1_get ho
  rw[k4,k3]
  rcases hI.content id' o' k1 with h | ⟨b,base,arr,E,h1,h2,h3,h4,h5⟩
  ·exact .inl (h.congr k4)
  ·exact .inr ⟨b,base,arr,E,h1,h2,h3,h4,fun i j x hx=>let ⟨u,g1,g2,g3⟩:=h5 i j x hx; ⟨u,g1,g2,g3.evolve hE⟩⟩
 ·obtain⟨p,k1,_,_,_,k5⟩:=kill1_get h1
  obtain⟨p',l1,_⟩:=kill1_get h2
  exact hI.inj i i' p p' b base base' k1 l1 (k5 h3) h4 h5
 ·obtain⟨p,k1,_⟩:=kill1_get h1
  exact hI.apart i p b base k1 h2
theorem killO_ok {σ:Gh} {w:World}:∀(ids:List Nat) (s:List Obj),Inv σ s w→Evolve σ s w σ (killO s ids) w∧Inv σ (killO s ids) w
 | [],s,hI=>⟨Evolve.refl _ _ _,hI⟩
 | id::ids,s,hI=>by
  obtain⟨h1,h2⟩:=kill1_ok hI id
  obtain⟨k1,k2⟩:=killO_ok ids (kill1 s id) h2
  exact⟨h1.trans k1,k2⟩
theorem call_give {P:Program} {f:FuncId} {args cargs:List V} {s:List Obj} {K:V→List Obj→Prop} (ids:List Nat) (hc:frzV.go (killO s ids).length (killO s ids) args=some cargs) (h:callWp P f cargs (killO s ids) K):callWp P f args s K:=by
 refine⟨h.1,fun σ w vals hI hl hv=>?_⟩
 obtain⟨hE,hI'⟩:=killO_ok ids s hI
 obtain⟨k1,k2⟩:=frzV_go hc
 refine(h.2 σ w vals hI' (by omega) fun i x hx=>?_).mono fun e w' ⟨u,v,σ',s',h1,h2,h3,h4,h5⟩=>⟨u,v,σ',s',h1,hE.trans h2,h3,h4,h5⟩
 obtain⟨y,hy,hf⟩:=k2 i x hx
 have:=frzV_spec hI' ((hv i y hy).evolve hE) hf
 rwa [List.take_length] at this
def cleanV (lim:Nat) (s:List Obj) (x:V):V:=(frzV lim s x).getD .any
def cleanE (lim:Nat) (s:List Obj) (keep:List Nat) (e:Env):Env:=fun t=>if keep.contains t then cleanV lim s (e t) else .any
def cleanS (lim:Nat) (s:List Obj):List Obj:=(s.take lim).map fun o=>{ o with els:=o.els.map fun c=>c.map (cleanV lim s) }
theorem cleanV_spec {σ:Gh} {s:List Obj} {w:World} (hI:Inv σ s w) {lim:Nat} {x:V} {u:Value} (hr:RepV σ s w x u):RepV σ (s.take lim) w (cleanV lim s x) u:=by
 unfold cleanV
 cases h:frzV lim s x with
 | none=>exact .any
 | some y=>exact frzV_spec hI hr h
theorem Cln.drop' {L:Nat} {e:Env} {s:List Obj} (lim:Nat) (hL:L≤lim) (keep:List Nat):∀(σ0:Gh) (s0:List Obj) (w0:World) (σ:Gh) (w:World) (N:Nat) (a:Act),s0.length≤L→Evolve σ0 s0 w0 σ s w→Inv σ s w→RepE σ s w N e a →
  Evolve σ0 s0 w0 σ (cleanS lim s) w∧Inv σ (cleanS lim s) w∧RepE σ (cleanS lim s) w N (cleanE lim s keep e) a:=by
 intro σ0 s0 w0 σ w N a hs0 hE hI hR
 have hE1:=hE.take (lim:=lim) (by omega)
 have get:∀(id:Nat) (o:Obj),(cleanS lim s)[id]?=some o→∃o',(s.take lim)[id]?=some o'∧o={ o' with els:=o'.els.map fun c=>c.map (cleanV lim s) }:=by
  intro id o ho
  unfold cleanS at ho
  rw[List.getElem?_map] at ho
  obtain⟨o',h1,h2⟩:=Option.map_eq_some_iff.1 ho
  exact⟨o',h1,h2.symm⟩
 have hE2:Evolve σ (s.take lim) w σ (cleanS lim s) w:=by
  refine⟨rfl,rfl,rfl,Nat.le_refl _,fun _ _ _=>rfl,fun _ arr _ _ h=>⟨arr,h,rfl⟩,fun _ _ h=>h,fun b hb=>.inl ?_,fun id o ho=>?_,rfl,fun _ _ _=>rfl⟩
  ·rcases hb with h | ⟨id,o,base,h1,h2,h3⟩
   ·exact .inl h
   ·obtain⟨o',k1,rfl⟩:=get id o h1
    exact .inr ⟨id,o',base,k1,h2,h3⟩
  ·exact⟨{ o with els:=o.els.map fun c=>c.map (cleanV lim s) },by unfold cleanS; rw[List.getElem?_map,ho]; rfl,Nat.le_refl _,fun _=>⟨rfl,rfl⟩⟩
 refine⟨hE1.trans hE2,⟨fun id o ho=>?_,fun i i' o o' b base base' h1 h2 h3 h4 h5=>?_,hI.low,fun i o b base h1 h2=>?_⟩,⟨hR.1,hR.2.1,fun t=>?_⟩⟩
 ·obtain⟨o',k1,rfl⟩:=get id o ho
  have k2:s[id]?=some o':=by rw[List.getElem?_take] at k1; split at k1 <;> simp_all
  rcases hI.content id o' k2 with (⟨h1,h2⟩ | ⟨b,es,c,h1,h2,h3⟩) | ⟨b,base,arr,E,h1,h2,h3,h4,h5⟩
  ·exact .inl (.inl ⟨h1,by simp [h2]⟩)
  ·refine .inl (.inr ⟨b,es,c,h1,h2,?_⟩)
   simp only[h3,mapEls,List.map_map]
   apply List.map_congr_left
   intro e _
   rfl
  ·refine .inr ⟨b,base,arr,E,h1,h2,fun c hc=>?_,by simpa using h4,fun i j x hx=>?_⟩
   ·obtain⟨c',hc',rfl⟩:=List.mem_map.1 hc
    simpa using h3 c' hc'
   ·simp only[List.getElem?_map] at hx
    cases hi:o'.els[i]? with
    | none=>simp [hi] at hx
    | some c =>
     simp only[hi,Option.map_some,Option.bind_some,List.getElem?_map] at hx
     obtain⟨y,hy,rfl⟩:=Option.map_eq_some_iff.1 hx
     obtain⟨u,g1,g2,g3⟩:=h5 i j y (by simp [hi,hy])
     exact⟨u,g1,g2,(cleanV_spec hI g3).evolve hE2⟩
 ·obtain⟨p,k1,rfl⟩:=get _ _ h1
  obtain⟨p',l1,rfl⟩:=get _ _ h2
  have k2:s[i]?=some p:=by rw[List.getElem?_take] at k1; split at k1 <;> simp_all
  have l2:s[i']?=some p':=by rw[List.getElem?_take] at l1; split at l1 <;> simp_all
  exact hI.inj i i' p p' b base base' k2 l2 h3 h4 h5
 ·obtain⟨p,k1,rfl⟩:=get _ _ h1
  have k2:s[i]?=some p:=by rw[List.getElem?_take] at k1; split at k1 <;> simp_all
  exact hI.apart i p b base k2 h2
 ·unfold cleanE
  split
  ·exact(cleanV_spec hI (hR.2.2 t)).evolve hE2
  ·exact .any
theorem refsV_go_of {lim:Nat}:∀{l:List V},(∀(i:Nat) (x:V),l[i]?=some x→refsV lim x=true)→refsV.go lim l=true
 | [],_=>rfl
 | v::vs,h=>by
  simp only[refsV.go,Bool.and_eq_true]
  exact⟨h 0 v rfl,refsV_go_of fun i x hx=>h (i + 1) x (by simpa using hx)⟩
theorem lt_of_get {s:List Obj} {id:Nat} {o:Obj} (h:s[id]?=some o):id < s.length:=(List.getElem?_eq_some_iff.1 h).1
theorem RepV.refsIn {σ:Gh} {s:List Obj} {w:World} {x:V} {u:Value} (h:RepV σ s w x u):refsV s.length x=true:=by
 induction h with
 | d hx=>rfl
 | ag h1 h2 _ ih=>exact refsV_go_of ih
 | tu h1 _ ih=>exact refsV_go_of ih
 | fu hx=>rfl
 | so o ho hg hu hk=>exact decide_eq_true (lt_of_get ho)
 | rf o ho hg hu hk=>exact decide_eq_true (lt_of_get ho)
 | pp o ho hg hk=>exact decide_eq_true (lt_of_get ho)
 | mp o ho hg hu hk=>exact decide_eq_true (lt_of_get ho)
 | bx h1 h2 h3 hu _ ih=>exact ih
 | cap h1 _ ih=>exact ih
 | cl h1 _ h3 _ ih1 ih2 =>
  simp only[refsV,Bool.and_eq_true]
  exact⟨refsV_go_of ih1,refsV_go_of ih2⟩
 | un=>rfl
 | any=>rfl
theorem RepV.retell {σ σ':Gh} {s s':List Obj} {w:World} {n:Nat} (fewer:∀b,Own σ' s' b→Own σ s b)
  (hobj:∀id o,id < n→s[id]?=some o→∃o',s'[id]?=some o'∧o.g≤o'.g∧(o'.g=o.g→o'.sz=o.sz∧σ' id=σ id)) {x:V} {u:Value} (hr:RepV σ s w x u) (h:refsV n x=true):RepV σ' s' w x u:=by
 induction hr with
 | d hx=>exact .d (hx.own fewer)
 | ag h1 h2 _ ih=>exact .ag h1 h2 fun i x hx=>ih i x hx (refsV_go (by simpa only[refsV] using h) i x hx)
 | tu h1 _ ih=>exact .tu h1 fun i x hx=>ih i x hx (refsV_go (by simpa only[refsV] using h) i x hx)
 | fu hx=>exact .fu (hx.own fewer)
 | so o ho hg hu hk =>
  simp only[refsV,decide_eq_true_eq] at h
  obtain⟨o',h1,h2,h3⟩:=hobj _ o h ho
  refine .so o' h1 (Nat.le_trans hg h2) hu fun he=>?_
  have e:o'.g=o.g:=by omega
  have:=hk (by omega)
  unfold SoOK at this ⊢
  rw[(h3 e).1,(h3 e).2]
  exact this
 | rf o ho hg hu hk =>
  simp only[refsV,decide_eq_true_eq] at h
  obtain⟨o',h1,h2,h3⟩:=hobj _ o h ho
  refine .rf o' h1 (Nat.le_trans hg h2) hu fun he=>?_
  have e:o'.g=o.g:=by omega
  rw[(h3 e).1,(h3 e).2]
  exact hk (by omega)
 | pp o ho hg hk =>
  simp only[refsV,decide_eq_true_eq] at h
  obtain⟨o',h1,h2,h3⟩:=hobj _ o h ho
  refine .pp o' h1 (Nat.le_trans hg h2) fun he=>?_
  have e:o'.g=o.g:=by omega
  rw[(h3 e).1,(h3 e).2]
  exact hk (by omega)
 | mp o ho hg hu hk =>
  simp only[refsV,decide_eq_true_eq] at h
  obtain⟨o',h1,h2,h3⟩:=hobj _ o h ho
  refine .mp o' h1 (Nat.le_trans hg h2) hu fun he=>?_
  have e:o'.g=o.g:=by omega
  rw[(h3 e).2]
  exact hk (by omega)
 | bx h1 h2 h3 hu _ ih=>exact .bx h1 h2 (fun h'=>h3 (fewer _ h')) hu (ih (by simpa only[refsV] using h))
 | cap h1 _ ih=>exact .cap h1 (ih (by simpa only[refsV] using h))
 | cl h1 _ h3 _ ih1 ih2 =>
  simp only[refsV,Bool.and_eq_true] at h
  exact .cl h1 (fun i x hx=>ih1 i x hx (refsV_go h.1 i x hx)) h3 (fun i x hx=>ih2 i x hx (refsV_go h.2 i x hx))
 | un=>exact .un
 | any=>exact .any
def holeG (σ:Gh) (h n:Nat):Gh:=⟨fun k=>if k=h then σ n else if n≤k then none else σ k,σ.base⟩
theorem move_holeR {σ0 σ1:Gh} {s:List Obj} {w0 w1:World} {o ob:Obj} {h:Nat} (hI0:Inv σ0 s w0) (hE:Evolve σ0 s w0 σ1 (s++[o]) w1) (hI:Inv σ1 (s++[o]) w1) (hh:s[h]?=some ob) (hol:o.live=true)
  (hd:∀(i j:Nat) (x:V),(o.els[i]?.bind (·[j]?))=some x→refsV 0 x=true∨refsV s.length x=true) :
  Evolve σ0 s w0 (holeG σ1 h s.length) (s.set h ⟨ob.g + 1,true,o.sz,o.els⟩) w1∧Inv (holeG σ1 h s.length) (s.set h ⟨ob.g + 1,true,o.sz,o.els⟩) w1 ∧
   ∀lo n u,RepV σ1 (s++[o]) w1 (.so s.length o.g lo n) u→RepV (holeG σ1 h s.length) (s.set h ⟨ob.g + 1,true,o.sz,o.els⟩) w1 (.so h (ob.g + 1) lo n) u:=by
 have hlt:=lt_of_get hh
 have hself:(s.set h ⟨ob.g + 1,true,o.sz,o.els⟩)[h]?=some ⟨ob.g + 1,true,o.sz,o.els⟩:=by simp [hlt]
 have hoth:∀k,k≠h→(s.set h (⟨ob.g + 1,true,o.sz,o.els⟩:Obj))[k]?=s[k]?:=fun k hk=>by rw[List.getElem?_set_ne (fun e=>hk e.symm)]
 have hnew:(s++[o])[s.length]?=some o:=by simp
 have hold:∀k ok,s[k]?=some ok→(s++[o])[k]?=some ok:=fun k ok hk=>by rw[List.getElem?_append_left (lt_of_get hk)]; exact hk
 have gh:holeG σ1 h s.length h=σ1 s.length:=if_pos rfl
 have go:∀k ok,k≠h→s[k]?=some ok→holeG σ1 h s.length k=σ1 k:=fun k ok hk hs=>by
  show (if k=h then _ else if s.length≤k then _ else _)=_
  rw[if_neg hk,if_neg (by have:=lt_of_get hs; omega)]
 have fewer:∀b,Own (holeG σ1 h s.length) (s.set h ⟨ob.g + 1,true,o.sz,o.els⟩) b→Own σ1 (s++[o]) b:=by
  rintro b (hb | ⟨k,ok,base,h1,h2,h3⟩)
  ·exact .inl hb
  ·by_cases hk:k=h
   ·subst hk
    rw[gh] at h3
    exact .inr ⟨s.length,o,base,hnew,hol,h3⟩
   ·rw[hoth k hk] at h1
    rw[go k ok hk h1] at h3
    exact .inr ⟨k,ok,base,hold k ok h1,h2,h3⟩
 have hobj:∀id o1,id < s.length→(s++[o])[id]?=some o1→∃o',(s.set h ⟨ob.g + 1,true,o.sz,o.els⟩)[id]?=some o'∧o1.g≤o'.g∧(o'.g=o1.g→o'.sz=o1.sz∧holeG σ1 h s.length id=σ1 id):=by
  intro id o1 hid h1
  rw[List.getElem?_append_left hid] at h1
  by_cases hk:id=h
  ·subst hk
   rw[hh] at h1; cases h1
   exact⟨_,hself,Nat.le_succ _,fun he=>by simp at he⟩
  ·exact⟨o1,by rw[hoth id hk]; exact h1,Nat.le_refl _,fun _=>⟨rfl,go id o1 hk h1⟩⟩
 have hE2:Evolve σ0 s w0 (holeG σ1 h s.length) (s.set h ⟨ob.g + 1,true,o.sz,o.els⟩) w1:=by
  refine⟨hE.os,hE.tape,hE.output,hE.size,hE.keep,hE.shape,hE.shapeM,fun b hb=>hE.own b (fewer b hb),fun id o1 h1=>?_,hE.base,hE.foreign⟩
  obtain⟨o2,k1,k2,k3⟩:=hE.objs id o1 h1
  have hid:=lt_of_get h1
  obtain⟨o3,j1,j2,j3⟩:=hobj id o2 hid k1
  exact⟨o3,j1,Nat.le_trans k2 j2,fun he=>⟨(j3 (by omega)).1.trans (k3 (by omega)).1,(j3 (by omega)).2.trans (k3 (by omega)).2⟩⟩
 have hrefs:∀(id:Nat) (o1:Obj),s[id]?=some o1→∀(i j:Nat) (x:V),(o1.els[i]?.bind (·[j]?))=some x→refsV s.length x=true:=by
  intro id o1 h1 i j x hx
  rcases hI0.content id o1 h1 with (⟨_,he⟩ | ⟨b,es,c,_,_,he⟩) | ⟨b,base,arr,E,_,_,_,_,h5⟩
  ·rw[he] at hx; simp at hx
  ·rw[he] at hx
   unfold mapEls at hx
   rw[List.getElem?_map] at hx
   cases hes:es.toList[i]? with
   | none=>rw[hes] at hx; cases hx
   | some y =>
    rw[hes] at hx
    simp only[Option.map_some,Option.bind_some] at hx
    match j with
    | 0=>simp at hx; subst hx; rfl
    | 1=>simp at hx; subst hx; rfl
    | j + 2=>simp at hx
  ·obtain⟨u,_,_,h6⟩:=h5 i j x hx
   exact h6.refsIn
 refine⟨hE2,⟨?_,?_,hI.low,?_⟩,?_⟩
 ·intro id o1 h1
  by_cases hk:id=h
  ·subst hk
   rw[hself] at h1; cases h1
   rw[gh]
   rcases hI.content _ _ hnew with hb | ⟨b,base,arr,E,k1,k2,k3,k4,k5⟩
   ·exact .inl (hb.congr rfl)
   ·refine .inr ⟨b,base,arr,E,k1,k2,k3,k4,fun i j x hx=>?_⟩
    obtain⟨u,j1,j2,j3⟩:=k5 i j x hx
    rcases hd i j x hx with hd' | hd'
    ·exact⟨u,j1,j2,j3.move hd' fewer⟩
    ·exact⟨u,j1,j2,RepV.retell fewer hobj j3 hd'⟩
  ·rw[hoth id hk] at h1
   rw[go id o1 hk h1]
   rcases hI.content _ _ (hold id o1 h1) with hb | ⟨b,base,arr,E,k1,k2,k3,k4,k5⟩
   ·exact .inl hb
   ·refine .inr ⟨b,base,arr,E,k1,k2,k3,k4,fun i j x hx=>?_⟩
    obtain⟨u,j1,j2,j3⟩:=k5 i j x hx
    exact⟨u,j1,j2,RepV.retell fewer hobj j3 (hrefs id o1 h1 i j x hx)⟩
 ·intro k k' o1 o2 b base base' h1 h2 h3 h4 h5
  by_cases hk:k=h <;> by_cases hk':k'=h
  ·rw[hk,hk']
  ·subst hk
   rw[gh] at h4
   rw[hoth k' hk'] at h2
   rw[go k' o2 hk' h2] at h5
   have:=hI.inj _ _ _ _ _ _ _ hnew (hold k' o2 h2) hol h4 h5
   have:=lt_of_get h2
   omega
  ·subst hk'
   rw[gh] at h5
   rw[hoth k hk] at h1
   rw[go k o1 hk h1] at h4
   have:=hI.inj _ _ _ _ _ _ _ (hold k o1 h1) hnew h3 h4 h5
   have:=lt_of_get h1
   omega
  ·rw[hoth k hk] at h1
   rw[hoth k' hk'] at h2
   rw[go k o1 hk h1] at h4
   rw[go k' o2 hk' h2] at h5
   exact hI.inj _ _ _ _ _ _ _ (hold k o1 h1) (hold k' o2 h2) h3 h4 h5
 ·intro k o1 b base h1 h2
  by_cases hk:k=h
  ·subst hk
   rw[gh] at h2
   exact hI.apart _ _ _ _ hnew h2
  ·rw[hoth k hk] at h1
   rw[go k o1 hk h1] at h2
   exact hI.apart _ _ _ _ (hold k o1 h1) h2
 ·intro lo n u hu
  cases hu with | so o1 h1 h2 h3 h4=>?_
  rw[hnew] at h1; cases h1
  refine .so _ hself (Nat.le_refl _) h3 fun _=>?_
  have:=h4 rfl
  unfold SoOK at this ⊢
  rw[gh]
  exact this
theorem move_hole {σ0 σ1:Gh} {s:List Obj} {w0 w1:World} {o ob:Obj} {h:Nat} (hI0:Inv σ0 s w0) (hE:Evolve σ0 s w0 σ1 (s++[o]) w1) (hI:Inv σ1 (s++[o]) w1) (hh:s[h]?=some ob) (hol:o.live=true)
  (hd:∀(i j:Nat) (x:V),(o.els[i]?.bind (·[j]?))=some x→refsV 0 x=true) :
  Evolve σ0 s w0 (holeG σ1 h s.length) (s.set h ⟨ob.g + 1,true,o.sz,o.els⟩) w1∧Inv (holeG σ1 h s.length) (s.set h ⟨ob.g + 1,true,o.sz,o.els⟩) w1 ∧
   ∀lo n u,RepV σ1 (s++[o]) w1 (.so s.length o.g lo n) u→RepV (holeG σ1 h s.length) (s.set h ⟨ob.g + 1,true,o.sz,o.els⟩) w1 (.so h (ob.g + 1) lo n) u:=move_holeR hI0 hE hI hh hol fun i j x hx=>.inl (hd i j x hx)
theorem append_room {P:Program} {t ty e:TypeId} {i:TyI} {id g lo n cl ch:Nat} {xv:V} {ua ux:Value} {σ:Gh} {s:List Obj} {w:World} {o:Obj} {ns:List (List V)} (hI:Inv σ s w) (ha:RepV σ s w (.so id g lo n) ua) (hc:CapIn cl ch ua) (hx:RepV σ s w xv ux) (hns:elsV s xv=some ns)
  (hti:slTy P t=some (e,i)) (ho:s[id]?=some o) (hg:o.g=g) (hosz:o.sz=i.sz) (hz:∀e∈ns,e.length=i.sz) (hpos:0 < i.sz) (hnp:0 < ns.length) (hlo:lo + n≤o.els.length) (hlive:o.live=true) (hr:n + ns.length≤cl) :
  ∃r σ' w',(Builtin.append_ #[t,t] ty #[ua,ux]).run P w=.ok r w'∧Evolve σ s w σ' (s.set id ⟨g,true,i.sz,o.els.take (lo + n)++ns++o.els.drop (lo + n + ns.length)⟩) w' ∧
   Inv σ' (s.set id ⟨g,true,i.sz,o.els.take (lo + n)++ns++o.els.drop (lo + n + ns.length)⟩) w'∧RepV σ' (s.set id ⟨g,true,i.sz,o.els.take (lo + n)++ns++o.els.drop (lo + n + ns.length)⟩) w' (.so id g lo (n + ns.length)) r:=by
 obtain⟨hu,hi⟩:=slTy_spec hti
 obtain⟨ti,d,z,k1,k2,k3,k4,k5,k6,k7,k8,k9⟩:=tyI_spec hi
 have hzsz:z.cells.size=i.sz:=by rw[← Array.length_toList,k6,k7]
 obtain⟨ax,capx,rfl,xnone,xcap,news,n1,n2,n3,n4⟩:=elsV_spec hI hx hns hz
 have hsrc:Src P ti.size t (.slice ax ns.length capx) ns.length news w:=by
  rw[k4]
  cases ax with
  | none =>
   have:ns=[]:=xnone rfl
   subst this
   simp at hnp
  | some ad=>exact Src.ofSlice w hu ad ns.length capx news n1 (n3 ad rfl) n2
 obtain⟨hEd,hId⟩:=drew_obj hI
 have hels:elsV s (.so id g lo n)=some ((o.els.drop lo).take n):=by simp [elsV,ho,hg,hlo]
 have hesl:((o.els.drop lo).take n).length=n:=by simp; omega
 have hoz:∀e∈o.els,e.length=i.sz:=by
  intro e he'
  rcases hI.content _ o ho with h0 | ⟨b,base,arr,E,h1,h2,h3,h4,h5⟩
  ·cases ha with | so o' ho' hg' hu' hk=>?_
   rw[ho] at ho'; cases ho'
   rcases hk hg with ⟨hs0,_⟩ | ⟨b,bs,cp,E,arr,hs1,hh,_⟩
   ·rw[h0.els_nil hs0] at he'; cases he'
   ·exact(h0.notC hs1 ⟨arr,E,hh⟩).elim
  ·rw[← hosz]; exact h3 e he'
 have hez:∀e∈(o.els.drop lo).take n,e.length=i.sz:=fun e he=>hoz e (List.mem_of_mem_drop (List.mem_of_mem_take he))
 obtain⟨base,cap,hua,a1,a2,olds,o1,o2,o3,o4⟩:=elsV_spec hI ha hels hez
 rw[hesl] at hua a2
 cases ha with | so o' ho' hg' hu' hk=>?_
 rw[ho] at ho'; cases ho'
 have hk':=hk hg
 have hroom:n + ns.length≤cap:=by have:=(hc _ _ _ hua).1; omega
 rcases hk' with ⟨hs0,⟨aa,hua'⟩,rfl,rfl⟩ | ⟨b,bs,cp,E,arr,hs1,hh,hua',hcp,hfit⟩
 ·rw[hua] at hua'
  simp only[Value.slice.injEq] at hua'
  omega
 rw[hua] at hua'
 simp only[Value.slice.injEq] at hua'
 obtain⟨rfl,_,rfl⟩:=hua'
 subst hua
 generalize i.sz=Z at *
 subst hosz
 obtain⟨bb,bs',arr2,E2,q1,q2,q3,q4,q5⟩:∃b base arr E,σ id=some (b,base)∧w.heap[b]?=some (.cells arr E (0,0))∧(∀e∈o.els,e.length=o.sz)∧base + o.els.length * o.sz≤arr.size ∧
   ∀i j x,(o.els[i]?.bind (·[j]?))=some x→∃u,arr[base + i * o.sz + j]?=some u∧u.oneCell'=true∧RepV σ s w x u:=by
  rcases hI.content _ o ho with h0 | h0
  ·exact(h0.notC hs1 ⟨arr,E,hh⟩).elim
  ·exact h0
 rw[hs1] at q1
 simp only[Option.some.injEq,Prod.mk.injEq] at q1
 obtain⟨rfl,rfl⟩:=q1
 rw[hh] at q2
 simp only[Option.some.injEq,Go.Obj.cells.injEq] at q2
 obtain⟨rfl,rfl,_⟩:=q2
 generalize hS:bs + (lo + n) * o.sz=S at *
 have hSlo:bs + lo * o.sz + n * o.sz=S:=by rw[← hS,Nat.add_mul]; omega
 have hq:S + news.length≤arr.size:=by
  rw[n1,← hS]
  have e1:(lo + cap) * o.sz=lo * o.sz + cap * o.sz:=Nat.add_mul _ _ _
  have e2:=Nat.mul_le_mul_right o.sz hroom
  rw[Nat.add_mul] at e2
  rw[Nat.add_mul]
  omega
 have hst:=run_storeCells_at P b S E news 0 arr w hh (by omega) n2
 simp only[Nat.add_zero] at hst
 generalize harr':(arr.toList.take S++news++arr.toList.drop (S + news.length)).toArray=arr' at hst
 have hsize:arr'.size=arr.size:=by rw[← harr']; simp; omega
 have hlS:(arr.toList.take S).length=S:=by simp; omega
 have hlt:∀p,p < S→arr'[p]?=arr[p]?:=by
  intro p hp
  rw[← harr',List.getElem?_toArray,List.append_assoc,List.getElem?_append_left (by simp; omega),List.getElem?_take,if_pos hp,Array.getElem?_toList]
 have hin:∀q,q < news.length→arr'[S + q]?=news[q]?:=by
  intro q hq'
  rw[← harr',List.getElem?_toArray,List.append_assoc,List.getElem?_append_right (by omega),hlS,List.getElem?_append_left (by omega)]
  congr 1
  omega
 have hgt:∀p,S + news.length≤p→arr'[p]?=arr[p]?:=by
  intro p hp
  rw[← harr',List.getElem?_toArray,List.append_assoc,List.getElem?_append_right (by omega),hlS,List.getElem?_append_right (by omega),List.getElem?_drop,Array.getElem?_toList]
  congr 1
  omega
 have hEl:∀e∈o.els.take (lo + n)++ns++o.els.drop (lo + n + ns.length),e.length=o.sz:=by
  intro e he
  rcases List.mem_append.1 he with he | he
  ·rcases List.mem_append.1 he with he | he
   ·exact hoz e (List.mem_of_mem_take he)
   ·exact hz e he
  ·exact hoz e (List.mem_of_mem_drop he)
 have hEn:bs + (o.els.take (lo + n)++ns++o.els.drop (lo + n + ns.length)).length * o.sz≤arr.size:=by
  have hl:(o.els.take (lo + n)++ns++o.els.drop (lo + n + ns.length)).length=max (lo + n + ns.length) o.els.length:=by
   simp only[List.length_append,List.length_take,List.length_drop]; omega
  rw[hl]
  rcases Nat.le_total (lo + n + ns.length) o.els.length with h' | h'
  ·rw[Nat.max_eq_right h']; exact q4
  ·rw[Nat.max_eq_left h']
   have e3:(lo + n + ns.length) * o.sz≤(lo + cap) * o.sz:=Nat.mul_le_mul_right _ (by omega)
   omega
 have:=set_obj (p:=some (b,bs)) (o':=⟨g,true,o.sz,o.els.take (lo + n)++ns++o.els.drop (lo + n + ns.length)⟩) (w':=w.setRow b arr') hI ho hlive rfl rfl rfl (by simp)
  (fun b1 _ hne=>setRow_other w b b1 arr' (fun e=>hne bs (by rw[hs1,e])))
  (fun b1 base1 arr1 E1 he hh'=>by
   rw[hs1] at he; cases he
   rw[hh] at hh'; cases hh'
   exact⟨arr',setRow_heap w b arr arr' E (0,0) hh,hsize⟩)
  (fun b1 base1 he hm=>by
   rw[hs1] at he; cases he
   exact(IsC.notM ⟨arr,E,hh⟩ hm).elim)
  (by simp only; omega) (fun _=>⟨rfl,hs1.symm⟩) (fun b1 base1 he=>by cases he; exact .inl ⟨bs,hs1⟩)
  (fun hE=>.inr ⟨b,bs,arr',E,rfl,setRow_heap w b arr arr' E (0,0) hh,hEl,by rw[hsize]; exact hEn,fun i' j y hy=>by
   simp only at hy ⊢
   obtain⟨el,hel,hj⟩:∃el,(o.els.take (lo + n)++ns++o.els.drop (lo + n + ns.length))[i']?=some el∧el[j]?=some y:=by
    cases hq':(o.els.take (lo + n)++ns++o.els.drop (lo + n + ns.length))[i']? with
    | none=>rw[hq'] at hy; cases hy
    | some el=>rw[hq'] at hy; exact⟨el,rfl,hy⟩
   have hjl:j < o.sz:=by
    have:=(List.getElem?_eq_some_iff.1 hj).1
    rwa [hEl el (List.mem_of_getElem? hel)] at this
   have htl:(o.els.take (lo + n)).length=lo + n:=by simp; omega
   by_cases c1:i' < lo + n
   ·rw[List.append_assoc,List.getElem?_append_left (by omega),List.getElem?_take,if_pos c1] at hel
    obtain⟨u,u1,u2,u3⟩:=q5 i' j y (by rw[hel]; exact hj)
    have hb1:(i' + 1) * o.sz≤(lo + n) * o.sz:=Nat.mul_le_mul_right _ (by omega)
    rw[Nat.add_mul,Nat.one_mul] at hb1
    exact⟨u,by rw[hlt _ (by omega)]; exact u1,u2,u3.evolve hE⟩
   ·by_cases c2:i' < lo + n + ns.length
    ·rw[List.append_assoc,List.getElem?_append_right (by omega),htl,List.getElem?_append_left (by omega)] at hel
     obtain⟨c,d1,d2,d3⟩:=n4 (i' - (lo + n)) j y (by rw[hel]; exact hj)
     have hql:=(List.getElem?_eq_some_iff.1 d1).1
     have hix:bs + i' * o.sz + j=S + ((i' - (lo + n)) * o.sz + j):=by
      rw[← hS,Nat.add_assoc bs,← Nat.add_assoc bs,Nat.add_assoc,Nat.add_assoc]
      have:i' * o.sz=(lo + n) * o.sz + (i' - (lo + n)) * o.sz:=by rw[← Nat.add_mul]; congr 1; omega
      omega
     exact⟨c,by rw[hix,hin _ hql]; exact d1,d2,d3.evolve hE⟩
    ·rw[List.getElem?_append_right (by simp only[List.length_append,htl]; omega),List.getElem?_drop] at hel
     have he2:o.els[i']?=some el:=by
      rw[← hel]; congr 1; simp only[List.length_append,htl]; omega
     obtain⟨u,u1,u2,u3⟩:=q5 i' j y (by rw[he2]; exact hj)
     have hb1:(lo + n + ns.length) * o.sz≤i' * o.sz:=Nat.mul_le_mul_right _ (by omega)
     rw[Nat.add_mul] at hb1
     exact⟨u,by rw[hgt _ (by rw[n1]; omega)]; exact u1,u2,u3.evolve hE⟩⟩)
 have hup:updG σ id (some (b,bs)) id=some (b,bs):=updG_same _ _ _
 refine⟨.slice (some ⟨b,bs + lo * o.sz,none⟩) (n + ns.length) cap,_,w.setRow b arr',?_,this.1,this.2,?_⟩
 ·have hcells:=hsrc.cells
  rw[k4] at hcells
  rw[← hSlo] at hst
  simp [Builtin.append_,run_underlying hu,sizeOf,typeInfo,k1,Builtin.lenOf,hroom,hcells,k4,Addr.add_lit,hst]
 ·exact .so ⟨g,true,o.sz,o.els.take (lo + n)++ns++o.els.drop (lo + n + ns.length)⟩ (by simp [(List.getElem?_eq_some_iff.1 ho).1]) (Nat.le_refl _) ⟨_,_,rfl⟩
   (fun _=>.inr ⟨b,bs,cap,E,arr',hup,setRow_heap w b arr arr' E (0,0) hh,rfl,hroom,by rw[hsize]; exact hfit⟩)
theorem append_grow {P:Program} {t ty e:TypeId} {i:TyI} {id g lo n cl ch:Nat} {xv:V} {ua ux:Value} {σ:Gh} {s:List Obj} {w:World} {o:Obj} {ns:List (List V)} (hI:Inv σ s w) (ha:RepV σ s w (.so id g lo n) ua) (hc:CapIn cl ch ua) (hx:RepV σ s w xv ux) (hns:elsV s xv=some ns)
  (hti:slTy P t=some (e,i)) (ho:s[id]?=some o) (hg:o.g=g) (hosz:o.sz=i.sz) (hz:∀e∈ns,e.length=i.sz) (hpos:0 < i.sz) (hnp:0 < ns.length) (hlo:lo + n≤o.els.length) (hbp:0 < i.byt) (hb:(n + ns.length) * i.byt≤140737488355328) (hr:ch < n + ns.length) :
  ∃r σ' w',(Builtin.append_ #[t,t] ty #[ua,ux]).run P w=.ok r w'∧Evolve σ s w σ' (s++[⟨0,true,i.sz,(o.els.drop lo).take n++ns⟩]) w' ∧
   Inv σ' (s++[⟨0,true,i.sz,(o.els.drop lo).take n++ns⟩]) w'∧RepV σ' (s++[⟨0,true,i.sz,(o.els.drop lo).take n++ns⟩]) w' (.so s.length 0 0 (n + ns.length)) r:=by
 obtain⟨hu,hi⟩:=slTy_spec hti
 obtain⟨ti,d,z,k1,k2,k3,k4,k5,k6,k7,k8,k9⟩:=tyI_spec hi
 have hzsz:z.cells.size=i.sz:=by rw[← Array.length_toList,k6,k7]
 obtain⟨ax,capx,rfl,xnone,xcap,news,n1,n2,n3,n4⟩:=elsV_spec hI hx hns hz
 have hsrc:Src P ti.size t (.slice ax ns.length capx) ns.length news w:=by
  rw[k4]
  cases ax with
  | none =>
   have:ns=[]:=xnone rfl
   subst this
   simp at hnp
  | some ad=>exact Src.ofSlice w hu ad ns.length capx news n1 (n3 ad rfl) n2
 obtain⟨hEd,hId⟩:=drew_obj hI
 have hels:elsV s (.so id g lo n)=some ((o.els.drop lo).take n):=by simp [elsV,ho,hg,hlo]
 have hesl:((o.els.drop lo).take n).length=n:=by simp; omega
 have hoz:∀e∈o.els,e.length=i.sz:=by
  intro e he'
  rcases hI.content _ o ho with h0 | ⟨b,base,arr,E,h1,h2,h3,h4,h5⟩
  ·cases ha with | so o' ho' hg' hu' hk=>?_
   rw[ho] at ho'; cases ho'
   rcases hk hg with ⟨hs0,_⟩ | ⟨b,bs,cp,E,arr,hs1,hh,_⟩
   ·rw[h0.els_nil hs0] at he'; cases he'
   ·exact(h0.notC hs1 ⟨arr,E,hh⟩).elim
  ·rw[← hosz]; exact h3 e he'
 have hez:∀e∈(o.els.drop lo).take n,e.length=i.sz:=fun e he=>hoz e (List.mem_of_mem_drop (List.mem_of_mem_take he))
 obtain⟨base,cap,hua,a1,a2,olds,o1,o2,o3,o4⟩:=elsV_spec hI ha hels hez
 rw[hesl] at hua a2
 cases ha with | so o' ho' hg' hu' hk=>?_
 rw[ho] at ho'; cases ho'
 have hk':=hk hg
 have hcap:cap < n + ns.length:=by have:=(hc _ _ _ hua).2; omega
 have hold:(Builtin.firstCells ti.size n (.slice base n cap)).run P w.drew=.ok olds.toArray w.drew:=by
  rw[k4]
  cases base with
  | none =>
   have he:(o.els.drop lo).take n=[]:=a1 rfl
   rw[he] at o1 hesl
   have hn0:n=0:=by simpa using hesl.symm
   have hn:olds=[]:=List.eq_nil_of_length_eq_zero (by simpa using o1)
   subst hn0 hn
   exact run_firstCells_none w.drew i.sz 0 0 cap
  | some ad=>exact run_firstCells_some w.drew i.sz n ad n cap olds (by rw[o1,hesl]) (by simpa using o3 ad rfl)
 have hle:n + ns.length≤(n + ns.length) * i.byt:=Nat.le_mul_of_pos_right _ hbp
 have hrun:=run_append_grow_src (P:=P) w t t ty e ti z hu k1 k3 base n cap olds hold (.slice ax ns.length capx) ns.length news hsrc hcap (by omega) (growslice_fits hcap (by rw[k5]; exact hb))
 have hge:=grownCap_ge w (n + ns.length) cap e
 subst hua
 generalize grownCap w (n + ns.length) cap e=cap' at *
 have hsz:((olds++news).toArray++Builtin.zeroCells z.cells (cap' - (n + ns.length))).size=cap' * i.sz:=by
  simp only[Array.size_append,List.size_toArray,size_zeroCells,List.length_append,o1,n1,hzsz,hesl]
  rw[← Nat.add_mul,← Nat.add_mul]
  congr 1
  omega
 have hget:∀(i' j:Nat) (y:V),(((o.els.drop lo).take n++ns)[i']?.bind (·[j]?))=some y→∃c,((olds++news).toArray++Builtin.zeroCells z.cells (cap' - (n + ns.length)))[i' * i.sz + j]?=some c∧c.oneCell'=true∧RepV σ s w y c:=by
  intro i' j y hy
  obtain⟨c,c1,c2,c3⟩:=app_content o1 o4 n4 i' j y hy
  exact⟨c,toArr_get c1,c2,c3⟩
 generalize (olds++news).toArray++Builtin.zeroCells z.cells (cap' - (n + ns.length))=arr at *
 have:=new_obj (els:=(o.els.drop lo).take n++ns) (sz:=i.sz) (arr:=arr) hId e (fun e he=>(List.mem_append.1 he).elim (hez e) (hz e)) (by rw[hsz,List.length_append,hesl]; exact Nat.mul_le_mul_right _ hge)
  (fun i' j y hy=>let ⟨c,c1,c2,c3⟩:=hget i' j y hy; ⟨c,c1,c2,c3.evolve hEd⟩)
 refine⟨_,_,_,hrun,hEd.trans this.1,this.2,?_⟩
 exact .so ⟨0,true,i.sz,(o.els.drop lo).take n++ns⟩ (by simp) (Nat.le_refl _) ⟨_,_,rfl⟩ (fun _=>.inr ⟨w.heap.size,0,cap',e,arr,updG_same _ _ _,heap_alloc_new w.drew _,by simp,hge,by simp [hsz]⟩)
def callK (o:Oper) (e:Env):Option (Option (FuncId × List V)) :=
 match o.op with
 | .call c=>match c.callee with
  | .value (.func f)=>some (some (f,c.args.toList.map (ev e)))
  | .value x=>match asCl (e 0) (ev e x) with
   | .cl (.func g) first caps=>some (some (g,first++c.args.toList.map (ev e)++caps))
   | _=>some none
  | .invoke ..=>some none
  | .builtin _=>none
 | _=>none
theorem callK_op {P:Program} {o:Oper} {e:Env} {f:FuncId} {args:List V} (h:callK o e=some (some (f,args))) (s:List Obj) (K:V→List Obj→Prop):opWp P o e s K=callWp P f args s K:=by
 obtain⟨dst,op,ty,pos,after,guard⟩:=o
 cases op <;> try (simp [callK] at h; done)
 rename_i c
 obtain⟨callee,cargs,argTypes⟩:=c
 cases callee with
 | value x =>
  cases x with
  | func g=>simp only[callK,Option.some.injEq,Prod.mk.injEq] at h; obtain⟨rfl,rfl⟩:=h; rfl
  | tmp t =>
   simp only[callK] at h
   split at h
   ·rename_i g first caps hcl
    simp only[Option.some.injEq,Prod.mk.injEq] at h; obtain⟨rfl,rfl⟩:=h
    simp only[opWp,callOpWp,hcl]
   ·cases h
  | const t =>
   simp only[callK] at h
   split at h
   ·rename_i g first caps hcl
    simp only[Option.some.injEq,Prod.mk.injEq] at h; obtain⟨rfl,rfl⟩:=h
    simp only[opWp,callOpWp,hcl]
   ·cases h
  | global t =>
   simp only[callK] at h
   split at h
   ·rename_i g first caps hcl
    simp only[Option.some.injEq,Prod.mk.injEq] at h; obtain⟨rfl,rfl⟩:=h
    simp only[opWp,callOpWp,hcl]
   ·cases h
 | invoke r m=>simp [callK] at h
 | builtin b=>simp [callK] at h
theorem callK_none {o:Oper} {e:Env} (h:callK o e=none):fnCall o=false:=by
 obtain⟨dst,op,ty,pos,after,guard⟩:=o
 cases op <;> try rfl
 rename_i c
 obtain⟨callee,cargs,argTypes⟩:=c
 cases callee with
 | value x =>
  cases x with
  | func g=>simp [callK] at h
  | tmp t=>simp only[callK] at h; split at h <;> cases h
  | const t=>simp only[callK] at h; split at h <;> cases h
  | global t=>simp only[callK] at h; split at h <;> cases h
 | invoke r m=>rfl
 | builtin b=>rfl
def callC (P:Program) (f:FuncId) (args:List V) (s:List Obj) (K:V→List Obj→Prop):Prop:=∃v,(∀s',callWp P f args s' fun v' s''=>v'=v∧s''=s')∧K v s
def callD (P:Program) (f:FuncId) (args:List V) (s:List Obj) (K:V→List Obj→Prop):Prop:=∃v s1,(callWp P f args s fun v' s''=>v'=v∧s''=s1)∧K v s1
def callF (P:Program) (rd wr:List Nat) (f:FuncId) (args:List V) (s:List Obj) (K:V→List Obj→Prop):Prop :=
 ∃v os,os.length=wr.length∧(∀s',s'.length=s.length→(∀id∈rd,s'[id]?=s[id]?)→callWp P f args s' fun v' s''=>v'=v∧s''=putObjs s' wr os)∧K v (putObjs s wr os)
def plainV:V→Bool
 | .d (.sl _)=>true
 | .fu _=>true
 | _=>false
theorem elsV_plain {x:V} (h:plainV x=true) (s s':List Obj):elsV s' x=elsV s x:=by
 unfold plainV at h
 split at h
 ·rfl
 ·rfl
 ·cases h
def fuAt (P:Program) (t t':TypeId) (els:List (List D)) (x:V) (ob:Obj) (h:Nat) (s:List Obj) (K:V→List Obj→Prop):Prop :=
 match x,slTy P t with
 | .fu ns,some (_,i)=>(t=t'∧0 < ns.length∧0 < i.sz∧0 < i.byt∧(els.length + ns.length) * i.byt≤140737488355328∧(∀e∈els,e.length=i.sz)∧∀e∈ns,e.length=i.sz) ∧
   K (.so h (ob.g + 1) 0 (els.length + ns.length)) (s.set h ⟨ob.g + 1,true,i.sz,(els++ns).map (·.map .d)⟩)
 | .d (.sl ns),some (_,i)=>(els=[]∧t=t'∧0 < i.sz∧0 < i.byt∧ns.length * i.byt≤140737488355328∧∀e∈ns,e.length=i.sz) ∧
   K (.so h (ob.g + 1) 0 ns.length) (s.set h ⟨ob.g + 1,true,i.sz,ns.map (·.map .d)⟩)
 | _,_=>False
def msAt (P:Program) (t:TypeId) (l c:V) (ob:Obj) (h:Nat) (s:List Obj) (K:V→List Obj→Prop):Prop :=
 match l,c,slTy P t with
 | .d (.sc (.int _ n)),.d (.sc (.int _ m)),some (_,i)=>(0≤n∧n≤m∧i.byt * m≤140737488355328∧m≤9223372036854775807∧0 < i.sz) ∧
   K (.so h (ob.g + 1) 0 n.toNat) (s.set h ⟨ob.g + 1,true,i.sz,List.replicate n.toNat (i.zero.map cv)⟩)
 | _,_,_=>False
def bsAt (P:Program) (t:TypeId) (len:Nat) (parts:List (Nat × V)) (ob:Obj) (h:Nat) (s:List Obj) (K:V→List Obj→Prop):Prop :=
 match slTy P t with
 | none=>False
 | some (_,i)=>(len * i.sz≤16777216∧0 < i.sz)∧match fillE i.sz (List.replicate len (i.zero.map cv)) parts with
  | none=>False
  | some els=>(allD els=none∧∀e∈els,∀x∈e,refsV s.length x=true)∧K (.so h (ob.g + 1) 0 len) (s.set h ⟨ob.g + 1,true,i.sz,els⟩)
theorem refs_cv (v:Value):refsV 0 (cv v)=true:=by
 unfold cv
 split <;> rfl
def opAt (P:Program) (o:Oper) (e:Env) (s:List Obj) (h:Nat) (K:V→List Obj→Prop):Prop :=
 match s[h]? with
 | none=>False
 | some ob=>match o.op with
  | .alloc t=>ob.live=true∧match tyI P t with
   | some i=>K (.rf h (ob.g + 1) 0 0) (s.set h ⟨ob.g + 1,true,i.sz,[i.zero.map cv]⟩)
   | none=>False
  | .box _ x=>ob.live=true∧match cellsV (ev e x) with
   | some cs=>K (.rf h (ob.g + 1) 0 0) (s.set h ⟨ob.g + 1,true,cs.length,[cs]⟩)
   | none=>False
  | .store t a x=>match ev e a with
   | .rf id _ _ _=>id=h∧storeWp P t s (ev e a) (ev e x) fun s'=>K .un s'
   | .pp id _ _ _ _ _=>id=h∧storeWp P t s (ev e a) (ev e x) fun s'=>K .un s'
   | _=>False
  | .makeSlice t l c=>msAt P t (ev e l) (ev e c) ob h s K
  | .buildSlice t n ps=>bsAt P t n (ps.toList.map fun p=>(p.1,ev e p.2)) ob h s K
  | .call c=>match c.callee,c.args.toList,c.argTypes.toList with
   | .builtin .append,[a,x],[t,t']=>match ev e a with
    | .so id _ _ _=>(id=h∧plainV (ev e x)=true)∧t=t'∧appendWp P t (ev e a) (ev e x) s K
    | .fu els=>fuAt P t t' els (ev e x) ob h s K
    | _=>False
   | _,_,_=>False
  | _=>False
theorem new_at {σ:Gh} {s:List Obj} {w:World} (hI:Inv σ s w) {id:Nat} {o:Obj} (ho:s[id]?=some o) (hlive:o.live=true) {sz:Nat} {els:List (List V)} {arr:Array Value} (E:TypeId) (hl:∀e∈els,e.length=sz) (hs:els.length * sz≤arr.size)
  (hc:∀(i j:Nat) (x:V),(els[i]?.bind (·[j]?))=some x→∃u,arr[i * sz + j]?=some u∧u.oneCell'=true∧RepV σ s w x u) :
  Evolve σ s w (updG σ id (some (w.heap.size,0))) (s.set id ⟨o.g + 1,true,sz,els⟩) (w.alloc (.cells arr E)) ∧
  Inv (updG σ id (some (w.heap.size,0))) (s.set id ⟨o.g + 1,true,sz,els⟩) (w.alloc (.cells arr E)):=by
 refine set_obj (p:=some (w.heap.size,0)) hI ho hlive rfl rfl rfl (by simp) (fun b hb _=>Go.RowKit.Below.heap_alloc w _ b hb)
  (fun b base arr' E' hs' hh=>⟨arr',by rw[Go.RowKit.Below.heap_alloc w _ b (lt_heap hh)]; exact hh,rfl⟩)
  (fun b base hs' hm=>let ⟨es,c,hh⟩:=hm; ⟨es,c,by rw[Go.RowKit.Below.heap_alloc w _ b (lt_heap hh)]; exact hh⟩) (Nat.le_succ _) (fun h=>by simp at h) (fun b base h=>by cases h; exact .inr (Nat.le_refl _))
  (fun hE=>.inr ⟨w.heap.size,0,arr,E,rfl,heap_alloc_new w _,hl,by simpa using hs,fun i j x hx=>?_⟩)
 obtain⟨u,h1,h2,h3⟩:=hc i j x hx
 exact⟨u,by simpa using h1,h2,h3.evolve hE⟩
theorem at_rf {σ:Gh} {s:List Obj} {w:World} {id:Nat} (hid:id < s.length) {o:Obj} {b base:Nat} (hC:IsC w b):RepV (updG σ id (some (b,base))) (s.set id o) w (.rf id o.g 0 0) (.pointer (some ⟨b,base,none⟩)) :=
 .rf o (by simp [hid]) (Nat.le_refl _) rfl (fun _=>⟨b,base,updG_same _ _ _,hC,by simp⟩)
theorem opAt_det {P:Program} {full:List Oper} {o:Oper} {e:Env} {s:List Obj} {h:Nat} {K:V→List Obj→Prop} (ha:opAt P o e s h K) :
  ∃v o',K v (s.set h o')∧∀s',s'.length=s.length→s'[h]?=s[h]?→detS P full o e s' v (s'.set h o'):=by
 obtain⟨dst,op,ty,pos,after,guard⟩:=o
 unfold opAt at ha
 cases hob:s[h]? with
 | none=>rw[hob] at ha; exact ha.elim
 | some ob =>
  rw[hob] at ha
  simp only at ha
  cases op <;> simp only at ha <;> try exact ha.elim
  case alloc t =>
   obtain⟨hl,ha⟩:=ha
   split at ha
   case h_2=>exact ha.elim
   rename_i i hi
   refine⟨_,_,ha,fun s' hlen hs' σ w N a hI hR=>?_⟩
   obtain⟨z,hz,hr,hs,hzl⟩:=zero_reps hi σ s' w
   have:=new_at hI hs' hl (els:=[i.zero.map cv]) (sz:=i.sz) (arr:=z.cells) t (by simp; rw[← hzl]; simpa using hs) (by simp [hs]) (one_cells hr i.sz)
   refine tri_value (u:=.pointer (some ⟨w.heap.size,0,none⟩)) (w':=w.alloc (.cells z.cells t)) ?_ this.1 this.2 (at_rf (o:=⟨ob.g + 1,true,i.sz,[i.zero.map cv]⟩) (List.getElem?_eq_some_iff.1 hs').1 ⟨_,_,heap_alloc_new w _⟩) ⟨rfl,rfl⟩
   simp [execOp,Instr.alloc,hz,newVar,newRow]
  case box t x =>
   obtain⟨hl,ha⟩:=ha
   split at ha
   case h_2=>exact ha.elim
   rename_i cs hcs
   refine⟨_,_,ha,fun s' hlen hs' σ w N a hI hR=>?_⟩
   have hm:ev (maskE full ⟨dst,.box t x,ty,pos,after,guard⟩ e) x=ev e x:=by
    cases x with
    | tmp t'=>simp [ev,maskE,Oper.looksAt,Op.operands]
    | _=>rfl
   have hx:=hR.ev x
   rw[hm] at hx
   have hr:RepsL σ s' w cs (a.eval x).cells:=cellsV_spec hx hcs
   have:=new_at hI hs' hl (els:=[cs]) (sz:=cs.length) (arr:=(a.eval x).cells) t (by simp) (by simp [hr.1]) (one_cells hr _)
   refine tri_value (u:=.pointer (some ⟨w.heap.size,0,none⟩)) (w':=w.alloc (.cells (a.eval x).cells t)) ?_ this.1 this.2 (at_rf (o:=⟨ob.g + 1,true,cs.length,[cs]⟩) (List.getElem?_eq_some_iff.1 hs').1 ⟨_,_,heap_alloc_new w _⟩) ⟨rfl,rfl⟩
   simp [execOp,Instr.box,newVar,newRow]
  case store t x y =>
   split at ha
   case h_3=>exact ha.elim
   ·rename_i id g k off hx
    obtain⟨rfl,ha⟩:=ha
    unfold storeWp at ha
    cases ht:tyI P t with
    | none=>rw[ht] at ha; exact ha.elim
    | some i =>
     rw[ht] at ha
     simp only[hx,hob] at ha
     obtain⟨h1,h2,ha⟩:=ha
     split at ha
     ·exact ha.elim
     ·rename_i cs hcs
      split at ha
      ·exact ha.elim
      ·rename_i ns hns
       obtain⟨h3,h4,ha⟩:=ha
       refine⟨_,_,ha,fun s' hlen hs'=>detS_op ?_⟩
       unfold detWp opWp
       simp only[storeWp,ht,hx,hs',hob,hcs,hns]
       exact⟨h1,h2,h3,h4,trivial,trivial⟩
   ·rename_i id g k off b a' hx
    obtain⟨rfl,ha⟩:=ha
    unfold storeWp at ha
    cases ht:tyI P t with
    | none=>rw[ht] at ha; exact ha.elim
    | some i =>
     rw[ht] at ha
     simp only[hx,hob] at ha
     obtain⟨h1,h2,ha⟩:=ha
     split at ha
     ·exact ha.elim
     ·rename_i cs hcs
      split at ha
      ·exact ha.elim
      ·rename_i ns hns
       obtain⟨h3,h4,ha⟩:=ha
       refine⟨_,_,ha,fun s' hlen hs'=>detS_op ?_⟩
       unfold detWp opWp
       simp only[storeWp,ht,hx,hs',hob,hcs,hns]
       exact⟨h1,h2,h3,h4,trivial,trivial⟩
  case buildSlice t n ps =>
   unfold bsAt at ha
   cases hst:slTy P t with
   | none=>rw[hst] at ha; exact ha.elim
   | some ei =>
    obtain⟨ee,i⟩:=ei
    rw[hst] at ha
    simp only at ha
    obtain⟨h1,ha⟩:=ha
    cases hfi:fillE i.sz (List.replicate n (i.zero.map cv)) (ps.toList.map fun p=>(p.1,ev e p.2)) with
    | none=>rw[hfi] at ha; exact ha.elim
    | some els =>
     rw[hfi] at ha
     simp only at ha
     obtain⟨⟨hnd,hrf⟩,ha⟩:=ha
     refine⟨_,_,ha,fun s' hlen hs' σ w N a0 hI hR=>?_⟩
     have hdet:detWp P ⟨dst,.buildSlice t n ps,ty,pos,after,guard⟩ e s' (.so s'.length 0 0 n) (s'++[⟨0,true,i.sz,els⟩]):=by
      unfold detWp opWp
      simp only
      unfold buildSliceWp
      rw[hst]
      simp only[hfi,hnd]
      exact⟨h1,trivial,trivial⟩
     refine Oper.wp_mono (fun a' w' ⟨u,v,σ',s1,ha',hE',hI',hR',hK1,hK2⟩=>?_) (detS_op hdet σ w N a0 hI hR)
     subst hK1 hK2
     obtain⟨m1,m2,m3⟩:=move_holeR hI hE' hI' hs' rfl (fun i' j x' hx'=>by
      right
      rw[hlen]
      cases hq:els[i']? with
      | none=>rw[hq] at hx'; cases hx'
      | some c =>
       rw[hq] at hx'
       exact hrf c (List.mem_of_getElem? hq) x' (List.mem_of_getElem? hx'))
     exact⟨u,_,_,_,ha',m1,m2,m3 _ _ _ hR',rfl,rfl⟩
  case makeSlice t l c =>
   unfold msAt at ha
   split at ha
   case h_2=>exact ha.elim
   rename_i k1 n k2 m ee i hl hc hst
   obtain⟨h1,ha⟩:=ha
   refine⟨_,_,ha,fun s' hlen hs' σ w N a0 hI hR=>?_⟩
   have hdet:detWp P ⟨dst,.makeSlice t l c,ty,pos,after,guard⟩ e s' (.so s'.length 0 0 n.toNat) (s'++[⟨0,true,i.sz,List.replicate n.toNat (i.zero.map cv)⟩]):=by
    unfold detWp opWp
    simp only
    unfold makeSliceWp
    rw[hl,hc,hst]
    exact⟨h1,rfl,rfl⟩
   refine Oper.wp_mono (fun a' w' ⟨u,v,σ',s1,ha',hE',hI',hR',hK1,hK2⟩=>?_) (detS_op hdet σ w N a0 hI hR)
   subst hK1 hK2
   obtain⟨m1,m2,m3⟩:=move_hole hI hE' hI' hs' rfl (fun i' j x' hx'=>by
    cases hq:(List.replicate n.toNat (i.zero.map cv))[i']? with
    | none=>rw[hq] at hx'; cases hx'
    | some e' =>
     have he:=List.eq_of_mem_replicate (List.mem_of_getElem? hq)
     subst he
     rw[hq] at hx'
     simp only[Option.bind_some,List.getElem?_map] at hx'
     obtain⟨d,_,rfl⟩:=Option.map_eq_some_iff.1 hx'
     exact refs_cv d)
   exact⟨u,_,_,_,ha',m1,m2,m3 _ _ _ hR',rfl,rfl⟩
  case call c =>
   split at ha
   case h_2=>exact ha.elim
   rename_i a x t t' hcal harg hty
   split at ha
   case h_3=>exact ha.elim
   case h_2 =>
    rename_i els hx
    obtain⟨callee,args,tys⟩:=c
    simp only at hcal harg hty
    subst hcal
    unfold fuAt at ha
    split at ha
    case h_3=>exact ha.elim
    case h_2 =>
     rename_i ns ee i hy hst
     obtain⟨⟨rfl,rfl,h2,h3,h4,h6⟩,ha⟩:=ha
     refine⟨_,_,ha,fun s' hlen hs' σ w N a0 hI hR=>?_⟩
     have hdet:detWp P ⟨dst,.call ⟨.builtin .append,args,tys⟩,ty,pos,after,guard⟩ e s' (.so s'.length 0 0 ns.length) (s'++[⟨0,true,i.sz,ns.map (·.map .d)⟩]):=by
      unfold detWp opWp callOpWp
      simp only[harg,hty,eq_self,if_true]
      unfold appendWp
      rw[hx,hy,hst]
      have hel:elsV s' (.d (.sl ns))=some (ns.map (·.map .d)):=rfl
      rw[hel]
      refine⟨⟨fun e he=>?_,h2,h3⟩,?_⟩
      ·obtain⟨d,hd,rfl⟩:=List.mem_map.1 he
       simpa using h6 d hd
      ·simp only
       refine⟨⟨.inl trivial,by simpa using h4,by simp⟩,?_,?_⟩ <;> simp
     refine Oper.wp_mono (fun a' w' ⟨u,v,σ',s1,ha',hE',hI',hR',hK1,hK2⟩=>?_) (detS_op hdet σ w N a0 hI hR)
     subst hK1 hK2
     obtain⟨m1,m2,m3⟩:=move_hole hI hE' hI' hs' rfl (fun i' j x' hx'=>by
      rw[List.getElem?_map] at hx'
      cases hq:ns[i']? with
      | none=>rw[hq] at hx'; cases hx'
      | some c =>
       rw[hq] at hx'
       simp only[Option.map_some,Option.bind_some,List.getElem?_map] at hx'
       obtain⟨d,_,rfl⟩:=Option.map_eq_some_iff.1 hx'
       rfl)
     exact⟨u,_,_,_,ha',m1,m2,m3 _ _ _ hR',rfl,rfl⟩
    rename_i ns ee i hy hst
    obtain⟨⟨rfl,h1,h2,h3,h4,h5,h6⟩,ha⟩:=ha
    refine⟨_,_,ha,fun s' hlen hs' σ w N a0 hI hR=>?_⟩
    have hlt:h < s'.length:=lt_of_get hs'
    have hdet:detWp P ⟨dst,.call ⟨.builtin .append,args,tys⟩,ty,pos,after,guard⟩ e s' (.so s'.length 0 0 (els.length + ns.length)) (s'++[⟨0,true,i.sz,(els++ns).map (·.map .d)⟩]):=by
     unfold detWp opWp callOpWp
     simp only[harg,hty,eq_self,if_true]
     unfold appendWp
     rw[hx,hy,hst]
     have hel:elsV s' (.fu ns)=some (ns.map (·.map .d)):=rfl
     rw[hel]
     refine⟨⟨fun e he=>?_,h2,h3⟩,?_⟩
     ·obtain⟨d,hd,rfl⟩:=List.mem_map.1 he
      simpa using h6 d hd
     ·simp only
      refine⟨⟨.inr (by simpa using h1),by simpa using h4,h5⟩,?_,?_⟩
      ·simp
      ·simp [List.map_append]
    refine Oper.wp_mono (fun a' w' ⟨u,v,σ',s1,ha',hE',hI',hR',hK1,hK2⟩=>?_) (detS_op hdet σ w N a0 hI hR)
    subst hK1 hK2
    obtain⟨m1,m2,m3⟩:=move_hole hI hE' hI' hs' rfl (fun i' j x' hx'=>by
     rw[List.getElem?_map] at hx'
     cases hq:(els++ns)[i']? with
     | none=>rw[hq] at hx'; cases hx'
     | some c =>
      rw[hq] at hx'
      simp only[Option.map_some,Option.bind_some,List.getElem?_map] at hx'
      obtain⟨d,_,rfl⟩:=Option.map_eq_some_iff.1 hx'
      rfl)
    exact⟨u,_,_,_,ha',m1,m2,m3 _ _ _ hR',rfl,rfl⟩
   rename_i id g lo n hx
   obtain⟨⟨rfl,hpl⟩,rfl,ha⟩:=ha
   obtain⟨callee,args,tys⟩:=c
   simp only at hcal harg hty
   subst hcal
   unfold appendWp at ha
   cases hst:slTy P t with
   | none=>rw[hst] at ha; exact ha.elim
   | some ei =>
    obtain⟨ee,i⟩:=ei
    rw[hst] at ha
    simp only at ha
    cases hns:elsV s (ev e x) with
    | none=>rw[hns] at ha; exact ha.elim
    | some ns =>
     rw[hns] at ha
     simp only[hx,atG,hob] at ha
     obtain⟨h1,h2,h3,ha⟩:=ha
     refine⟨_,_,ha,fun s' hlen hs'=>detS_op ?_⟩
     unfold detWp opWp callOpWp
     simp only[harg,hty,eq_self,if_true]
     unfold appendWp
     rw[elsV_plain hpl s s',hns,hst]
     simp only[hx,atG,hs',hob]
     exact⟨h1,h2,h3,trivial,trivial⟩
def opIn (P:Program) (o:Oper) (e:Env) (s:List Obj) (h:Nat) (K:V→List Obj→Prop):Prop :=
 match s[h]? with
 | none=>False
 | some ob=>match o.op with
  | .call c=>match c.callee,c.args.toList,c.argTypes.toList with
   | .builtin .append,[a,x],[t,t']=>match ev e a,ev e x,slTy P t with
    | .cap cl _ (.so id g lo n),.fu ns,some (_,i)=>(id=h∧ob.g=g∧ob.live=true∧t=t'∧ob.sz=i.sz∧(∀e∈ns,e.length=i.sz)∧0 < i.sz∧0 < ns.length∧lo + n≤ob.els.length∧n + ns.length≤cl) ∧
      K (.so id g lo (n + ns.length)) (s.set h ⟨g,true,i.sz,ob.els.take (lo + n)++ns.map (·.map .d)++ob.els.drop (lo + n + ns.length)⟩)
    | _,_,_=>False
   | _,_,_=>False
  | _=>False
def opGr (P:Program) (o:Oper) (e:Env) (s:List Obj) (rd:List Nat) (h:Nat) (K:V→List Obj→Prop):Prop :=
 match s[h]? with
 | none=>False
 | some ob=>match o.op with
  | .call c=>match c.callee,c.args.toList,c.argTypes.toList with
   | .builtin .append,[a,x],[t,t']=>match ev e a,ev e x,slTy P t with
    | .cap _ ch (.so id g lo n),.fu ns,some (_,i)=>match s[id]? with
     | none=>False
     | some o=>(rd.contains id=true∧o.g=g∧t=t'∧o.sz=i.sz∧(∀e∈ns,e.length=i.sz)∧0 < i.sz∧0 < i.byt∧0 < ns.length∧lo + n≤o.els.length∧ch < n + ns.length∧(n + ns.length) * i.byt≤140737488355328 ∧
       (∀e∈o.els,∀x∈e,refsV 0 x=true))∧K (.so h (ob.g + 1) 0 (n + ns.length)) (s.set h ⟨ob.g + 1,true,i.sz,(o.els.drop lo).take n++ns.map (·.map .d)⟩)
    | _,_,_=>False
   | _,_,_=>False
  | _=>False
theorem ev_mask2 {full:List Oper} {dst:Option Nat} {ty:TypeId} {pos:String} {after:Array Edge} {guard:Option (Nat × Bool)} {e:Env} {a x:Operand} {tys:Array TypeId}:∀y,y∈[a,x]→ev (maskE full ⟨dst,.call ⟨.builtin .append,#[a,x],tys⟩,ty,pos,after,guard⟩ e) y=ev e y:=by
 intro y hy
 cases y with
 | tmp k =>
  have hk:k∈(⟨dst,.call ⟨.builtin .append,#[a,x],tys⟩,ty,pos,after,guard⟩:Oper).looksAt full.toArray:=List.mem_append_left _ (List.mem_filterMap.2 ⟨.tmp k,by
   simp only[List.mem_cons,List.not_mem_nil,or_false] at hy
   rcases hy with rfl | rfl <;> simp [Op.operands,Call.operands],rfl⟩)
  simp [ev,maskE,hk]
 | _=>rfl
theorem opIn_det {P:Program} {full:List Oper} {o:Oper} {e:Env} {s:List Obj} {h:Nat} {K:V→List Obj→Prop} (ha:opIn P o e s h K) :
  ∃v o',K v (s.set h o')∧∀s',s'.length=s.length→s'[h]?=s[h]?→detS P full o e s' v (s'.set h o'):=by
 obtain⟨dst,op,ty,pos,after,guard⟩:=o
 unfold opIn at ha
 cases hob:s[h]? with
 | none=>rw[hob] at ha; exact ha.elim
 | some ob =>
  rw[hob] at ha
  simp only at ha
  cases op <;> simp only at ha <;> try exact ha.elim
  rename_i c
  split at ha
  case h_2=>exact ha.elim
  rename_i a x t t' hcal harg hty
  split at ha
  case h_2=>exact ha.elim
  rename_i cl ch id g lo n ns ee i hea hex hst
  obtain⟨⟨rfl,hg,hl,rfl,hsz,hz,hp,hn,hle,hr⟩,ha⟩:=ha
  refine⟨_,_,ha,fun s' hlen hs' σ w N a0 hI hR=>?_⟩
  obtain⟨callee,args,tys⟩:=c
  simp only at hcal harg hty
  subst hcal
  have e1:args=#[a,x]:=Array.toList_inj.1 (by rw[harg])
  have e2:tys=#[t,t]:=Array.toList_inj.1 (by rw[hty])
  subst e1 e2
  have ra:=hR.ev a
  rw[ev_mask2 a (by simp),hea] at ra
  have rx:=hR.ev x
  rw[ev_mask2 x (by simp),hex] at rx
  cases ra with | cap hcc ra=>?_
  obtain⟨r,σ',w',k1,k2,k3,k4⟩:=append_room (ty:=ty) hI ra hcc rx rfl hst hs' hg hsz (fun e he=>by
   obtain⟨d,hd,rfl⟩:=List.mem_map.1 he
   simpa using hz d hd) hp (by simpa using hn) hle hl (by simpa using hr)
  rw[List.length_map] at k2 k3 k4
  exact tri_value (by simp [execOp,resolve,invoke,builtin,k1]) k2 k3 k4 ⟨rfl,rfl⟩
theorem opGr_det {P:Program} {full:List Oper} {o:Oper} {e:Env} {s:List Obj} {rd:List Nat} {h:Nat} {K:V→List Obj→Prop} (ha:opGr P o e s rd h K) :
  ∃v o',K v (s.set h o')∧∀s',s'.length=s.length→s'[h]?=s[h]?→(∀id∈rd,s'[id]?=s[id]?)→detS P full o e s' v (s'.set h o'):=by
 obtain⟨dst,op,ty,pos,after,guard⟩:=o
 unfold opGr at ha
 cases hob:s[h]? with
 | none=>rw[hob] at ha; exact ha.elim
 | some ob =>
  rw[hob] at ha
  simp only at ha
  cases op <;> simp only at ha <;> try exact ha.elim
  rename_i c
  split at ha
  case h_2=>exact ha.elim
  rename_i a x t t' hcal harg hty
  split at ha
  case h_2=>exact ha.elim
  rename_i cl ch id g lo n ns ee i hea hex hst
  split at ha
  ·exact ha.elim
  rename_i o ho
  obtain⟨⟨hrd,hg,rfl,hsz,hz,hp,hbp,hn,hle,hr,hb,hd⟩,ha⟩:=ha
  refine⟨_,_,ha,fun s' hlen hs' hag σ w N a0 hI hR=>?_⟩
  obtain⟨callee,args,tys⟩:=c
  simp only at hcal harg hty
  subst hcal
  have e1:args=#[a,x]:=Array.toList_inj.1 (by rw[harg])
  have e2:tys=#[t,t]:=Array.toList_inj.1 (by rw[hty])
  subst e1 e2
  have ra:=hR.ev a
  rw[ev_mask2 a (by simp),hea] at ra
  have rx:=hR.ev x
  rw[ev_mask2 x (by simp),hex] at rx
  cases ra with | cap hcc ra=>?_
  have ho':s'[id]?=some o:=(hag id (by simpa using hrd)).trans ho
  obtain⟨r,σ',w',k1,k2,k3,k4⟩:=append_grow (ty:=ty) hI ra hcc rx rfl hst ho' hg hsz (fun e he=>by
   obtain⟨d,hd,rfl⟩:=List.mem_map.1 he
   simpa using hz d hd) hp (by simpa using hn) hle hbp (by simpa using hb) (by simpa using hr)
  rw[List.length_map] at k4
  obtain⟨m1,m2,m3⟩:=move_hole hI k2 k3 hs' rfl (fun i' j x' hx'=>by
   simp only at hx'
   cases hq:((o.els.drop lo).take n++ns.map (·.map .d))[i']? with
   | none=>rw[hq] at hx'; cases hx'
   | some c =>
    rw[hq] at hx'
    have hm:=List.mem_of_getElem? hx'
    rcases List.mem_append.1 (List.mem_of_getElem? hq) with hc | hc
    ·exact hd c (List.mem_of_mem_drop (List.mem_of_mem_take hc)) x' hm
    ·obtain⟨dd,_,rfl⟩:=List.mem_map.1 hc
     obtain⟨y,_,rfl⟩:=List.mem_map.1 hm
     rfl)
  exact tri_value (by simp [execOp,resolve,invoke,builtin,k1]) m1 m2 (m3 _ _ _ k4) ⟨rfl,rfl⟩
def sameS (s:List Obj) (K:V→List Obj→Prop) (v:V) (s1:List Obj):Prop:=s1=s∧K v s
theorem sameS_app {s:List Obj} {K:V→List Obj→Prop} {v:V} {s1:List Obj}:sameS s K v s1=(s1=s∧K v s):=(rfl)
def roFree (o:Oper) (e:Env) (ws:List Nat):Bool:=roOp o&&(opReads e o).all fun id=>!ws.contains id
def roIn (o:Oper) (e:Env) (rd:List Nat):Bool:=roOp o&&(opReads e o).all fun id=>rd.contains id
def stepC (P:Program) (bars:List Nat) (fs:Foots) (i:Nat) (o:Oper) (e:Env) (s:List Obj) (K:V→List Obj→Prop):Prop :=
 match bars.contains i with
 | true=>match callK o e with
  | some (some (f,args))=>callD P f args s K
  | some none=>False
  | none=>opWp P o e s K
 | false=>match footOf fs i with
  | none=>match callK o e with
   | some (some (f,args))=>callC P f args s K
   | some none=>False
   | none=>roFree o e (allW fs)=true∧opWp P o e s (sameS s K)
  | some (rd,wr)=>match callK o e with
   | some (some (f,args))=>callF P rd wr f args s K
   | some none=>False
   | none=>match wr with
    | []=>roIn o e rd=true∧opWp P o e s (sameS s K)
    | [h]=>rd.contains h=true∧opAt P o e s h K
    | [h,_]=>rd.contains h=true∧opIn P o e s h K
    | [h,_,_]=>rd.contains h=true∧opGr P o e s rd h K
    | _=>False
theorem putObjs_same:∀(ρ:List Nat) (os:List Obj) (s s':List Obj) (id:Nat),id∈ρ→os.length=ρ.length→s.length=s'.length→(putObjs s ρ os)[id]?=(putObjs s' ρ os)[id]?
 | [],_,_,_,_,h,_,_=>by cases h
 | r::ρ,[],_,_,_,_,h,_=>by simp at h
 | r::ρ,o::os,s,s',id,h,hl,hs=>by
  simp only[putObjs]
  by_cases hm:id∈ρ
  ·exact putObjs_same ρ os _ _ id hm (by simpa using hl) (by simpa using hs)
  ·have:id=r:=by rcases List.mem_cons.1 h with h | h; exact h; exact absurd h hm
   subst this
   rw[putObjs_other ρ os _ _ hm,putObjs_other ρ os _ _ hm]
   by_cases hlt:id < s.length
   ·rw[List.getElem?_set_self hlt,List.getElem?_set_self (by omega)]
   ·rw[List.getElem?_eq_none (by simp; omega),List.getElem?_eq_none (by simp; omega)]
theorem stepC_ent {P:Program} {full:List Oper} {bars:List Nat} {fs:Foots} {i:Nat} {o:Oper} {e:Env} {s:List Obj} {K:V→List Obj→Prop} (hg:∀g want,o.guard=some (g,want)→∃d,gslot full g=some d∧e d=.d (.sc (.bool want))) (h:stepC P bars fs i o e s K) :
  ∃v tf,EntOk P full bars fs i o ⟨some v,tf⟩ e s∧K v (tf s):=by
 unfold stepC at h
 cases hb:bars.contains i with
 | true =>
  rw[hb] at h
  simp only at h
  have bar:∀v s1,detWp P o e s v s1→K v s1→∃v tf,EntOk P full bars fs i o ⟨some v,tf⟩ e s∧K v (tf s):=by
   intro v s1 h1 h2
   refine⟨v,fun _=>s1,⟨(fun h=>by rw[hb] at h; cases h),hg,fun s' _ h' _=>?_⟩,h2⟩
   rw[h' hb]
   exact detS_op h1
  split at h
  ·rename_i f args hc
   obtain⟨v,s1,h1,h2⟩:=h
   exact bar v s1 (by unfold detWp; rw[callK_op hc]; exact h1) h2
  ·exact h.elim
  ·rename_i hc
   obtain⟨v,s1,h1,h2⟩:=op_det (callK_none hc) _ h
   exact bar v s1 h1 h2
 | false =>
  rw[hb] at h
  simp only at h
  cases hf:footOf fs i with
  | none =>
   rw[hf] at h
   simp only at h
   have idTf:TfOk fs i fun s=>s:=fun s=>⟨rfl,fun _ _=>rfl,fun s' hl id hw _=>by simp [wrOf,hf] at hw⟩
   split at h
   ·rename_i f args hc
    obtain⟨v,h1,h2⟩:=h
    exact⟨v,fun s=>s,⟨fun _=>idTf,hg,fun s' _ _ _=>detS_op (by unfold detWp; rw[callK_op hc]; exact h1 s')⟩,h2⟩
   ·exact h.elim
   ·rename_i hc
    obtain⟨hr,h⟩:=h
    obtain⟨v,s1,h1,h2,h3⟩:=op_det (callK_none hc) _ h
    subst h2
    simp only[roFree,Bool.and_eq_true,List.all_eq_true,Bool.not_eq_true',List.contains_eq_mem,decide_eq_false_iff_not] at hr
    refine⟨v,fun s=>s,⟨fun _=>idTf,hg,fun s' _ _ hag=>detS_op (ro_agree hr.1 (fun id hid=>hag id ?_) h1)⟩,h3⟩
    unfold rdP
    rw[hf]
    exact hr.2 id hid
  | some rw' =>
   obtain⟨rd,wr⟩:=rw'
   rw[hf] at h
   simp only at h
   split at h
   ·rename_i f args hc
    obtain⟨v,os,hl,h1,h2⟩:=h
    refine⟨v,fun s=>putObjs s wr os,⟨fun _ s=>⟨putObjs_length _ _ _,fun id hid=>putObjs_other _ _ _ _ (by simpa [wrOf,hf] using hid),fun s' hls id hid _=>putObjs_same _ _ _ _ _ (by simpa [wrOf,hf] using hid) hl hls.symm⟩,hg,
     fun s' hls _ hag=>detS_op (by unfold detWp; rw[callK_op hc]; exact h1 s' hls fun id hid=>hag id (by unfold rdP; rw[hf]; exact hid))⟩,h2⟩
   ·exact h.elim
   ·rename_i hc
    split at h
    ·obtain⟨hr,h⟩:=h
     obtain⟨v,s1,h1,h2,h3⟩:=op_det (callK_none hc) _ h
     subst h2
     simp only[roIn,Bool.and_eq_true,List.all_eq_true,List.contains_eq_mem,decide_eq_true_eq] at hr
     refine⟨v,fun s=>s,⟨fun _ s=>⟨rfl,fun _ _=>rfl,fun s' hl id hw _=>by simp [wrOf,hf] at hw⟩,hg,fun s' _ _ hag=>detS_op (ro_agree hr.1 (fun id hid=>hag id ?_) h1)⟩,h3⟩
     unfold rdP
     rw[hf]
     exact hr.2 id hid
    ·rename_i hh
     obtain⟨hr,h⟩:=h
     obtain⟨v,o',h1,h2⟩:=opAt_det (full:=full) h
     refine⟨v,fun s=>s.set hh o',⟨fun _ s=>⟨by simp,fun id hid=>?_,fun s' hls id hid _=>?_⟩,hg,fun s' hls _ hag=>h2 s' hls (hag hh ?_)⟩,h1⟩
     ·have:id≠hh:=by simpa [wrOf,hf] using hid
      exact List.getElem?_set_ne (Ne.symm this)
     ·have:id=hh:=by simpa [wrOf,hf] using hid
      subst this
      by_cases hlt:id < s.length
      ·rw[List.getElem?_set_self hlt,List.getElem?_set_self (by omega)]
      ·rw[List.getElem?_eq_none (by simp; omega),List.getElem?_eq_none (by simp; omega)]
     ·unfold rdP
      rw[hf]
      simpa using hr
    ·rename_i hh hh2
     obtain⟨hr,h⟩:=h
     obtain⟨v,o',h1,h2⟩:=opIn_det (full:=full) h
     refine⟨v,fun s=>s.set hh o',⟨fun _ s=>⟨by simp,fun id hid=>?_,fun s' hls id hid hsid=>?_⟩,hg,fun s' hls _ hag=>h2 s' hls (hag hh ?_)⟩,h1⟩
     ·have:id≠hh:=by
       intro he; subst he; simp [wrOf,hf] at hid
      exact List.getElem?_set_ne (Ne.symm this)
     ·by_cases he:id=hh
      ·subst he
       by_cases hlt:id < s.length
       ·rw[List.getElem?_set_self hlt,List.getElem?_set_self (by omega)]
       ·rw[List.getElem?_eq_none (by simp; omega),List.getElem?_eq_none (by simp; omega)]
      ·rw[List.getElem?_set_ne (Ne.symm he),List.getElem?_set_ne (Ne.symm he)]
       exact hsid.symm
     ·unfold rdP
      rw[hf]
      simpa using hr
    ·rename_i hh hh2 hh3
     obtain⟨hr,h⟩:=h
     obtain⟨v,o',h1,h2⟩:=opGr_det (full:=full) h
     refine⟨v,fun s=>s.set hh o',⟨fun _ s=>⟨by simp,fun id hid=>?_,fun s' hls id hid hsid=>?_⟩,hg,fun s' hls _ hag=>h2 s' hls (hag hh ?_) fun id hid=>hag id (by unfold rdP; rw[hf]; exact hid)⟩,h1⟩
     ·have:id≠hh:=by
       intro he; subst he; simp [wrOf,hf] at hid
      exact List.getElem?_set_ne (Ne.symm this)
     ·by_cases he:id=hh
      ·subst he
       by_cases hlt:id < s.length
       ·rw[List.getElem?_set_self hlt,List.getElem?_set_self (by omega)]
       ·rw[List.getElem?_eq_none (by simp; omega),List.getElem?_eq_none (by simp; omega)]
      ·rw[List.getElem?_set_ne (Ne.symm he),List.getElem?_set_ne (Ne.symm he)]
       exact hsid.symm
     ·unfold rdP
      rw[hf]
      simpa using hr
    ·exact h.elim
def lexC (P:Program) (N:Nat) (full:List Oper) (bars:List Nat) (fs:Foots):Nat→List Oper→Env→List Obj→(Env→List Obj→Prop)→Prop
 | _,[],e,s,K=>K e s
 | i,o::rest,e,s,K=>dstOk N o.dst∧match o.guard with
  | none=>match o.op with
   | .pick c a b=>bars.contains i=false∧footOf fs i=none∧boolWp (ev e c) (lexC P N full bars fs (i + 1) rest (updO e o.dst (ev e a)) s K) (lexC P N full bars fs (i + 1) rest (updO e o.dst (ev e b)) s K)
   | _=>stepC P bars fs i o e s fun v s1=>lexC P N full bars fs (i + 1) rest (updO e o.dst v) s1 K
  | some (g,want)=>guardWp (gslot full g) e want (fun e=>stepC P bars fs i o e s fun v s1=>lexC P N full bars fs (i + 1) rest (updO e o.dst v) s1 K)
    (fun e=>lexC P N full bars fs (i + 1) rest (updO e o.dst .un) s K)
theorem lexC_trace {P:Program} {N:Nat} {full:List Oper} {bars:List Nat} {fs:Foots}:∀(l:List Oper) (i:Nat) (e:Env) (s:List Obj) (K:Env→List Obj→Prop),lexC P N full bars fs i l e s K →
  ∃tr e' s',Trace P N full bars fs i l tr e s e' s'∧K e' s'
 | [],i,e,s,K,h=>⟨[],e,s,⟨rfl,rfl⟩,h⟩
 | o::rest,i,e,s,K,h=>by
  obtain⟨hd,h⟩:=h
  have run:(∀g want,o.guard=some (g,want)→∃d,gslot full g=some d∧e d=.d (.sc (.bool want)))→(stepC P bars fs i o e s fun v s1=>lexC P N full bars fs (i + 1) rest (updO e o.dst v) s1 K) →
    ∃tr e' s',Trace P N full bars fs i (o::rest) tr e s e' s'∧K e' s':=by
   intro hg h
   obtain⟨v,tf,h1,h2⟩:=stepC_ent hg h
   obtain⟨tr,e',s',k1,k2⟩:=lexC_trace rest (i + 1) _ _ K h2
   exact⟨⟨some v,tf⟩::tr,e',s',⟨hd,h1,k1⟩,k2⟩
  split at h
  ·rename_i hg
   have hgn:∀g want,o.guard=some (g,want)→∃d,gslot full g=some d∧e d=.d (.sc (.bool want)):=fun g want h=>by rw[hg] at h; cases h
   split at h
   ·rename_i c a b hop
    obtain⟨hnb,hnf,h⟩:=h
    unfold boolWp at h
    split at h
    ·rename_i bb hbb
     have go:∀(v:V),(∀s',detWp P o e s' v s')→lexC P N full bars fs (i + 1) rest (updO e o.dst v) s K→∃tr e' s',Trace P N full bars fs i (o::rest) tr e s e' s'∧K e' s':=by
      intro v hv h2
      obtain⟨tr,e',s',k1,k2⟩:=lexC_trace rest (i + 1) _ _ K h2
      exact⟨⟨some v,fun s=>s⟩::tr,e',s',⟨hd,⟨fun _ s=>⟨rfl,fun _ _=>rfl,fun s' hl id hw _=>by simp [wrOf,hnf] at hw⟩,hgn,fun s' _ _ _=>detS_op (hv s')⟩,k1⟩,k2⟩
     cases bb with
     | true=>exact go _ (fun s'=>by simp [detWp,opWp,hop,boolWp,hbb]) (h.1 rfl)
     | false=>exact go _ (fun s'=>by simp [detWp,opWp,hop,boolWp,hbb]) (h.2 rfl)
    ·exact h.elim
   ·exact run hgn h
  ·rename_i g want hg
   unfold guardWp at h
   split at h
   case h_1=>exact h.elim
   rename_i d hd'
   have skip:(e d=.d (.sc (.bool (!want)))∨e d=.un)→lexC P N full bars fs (i + 1) rest (updO e o.dst .un) s K →
     ∃tr e' s',Trace P N full bars fs i (o::rest) tr e s e' s'∧K e' s':=by
    intro hv h2
    obtain⟨tr,e',s',k1,k2⟩:=lexC_trace rest (i + 1) _ _ K h2
    exact⟨⟨none,fun s=>s⟩::tr,e',s',⟨hd,⟨fun _ s=>⟨rfl,fun _ _=>rfl,fun s' hl id _ h=>h.symm⟩,fun _=>rfl,g,want,d,hg,hd',hv⟩,k1⟩,k2⟩
   split at h
   ·rename_i b hb
    by_cases hbw:b=want
    ·subst hbw
     have:=h.1 rfl
     rw[updE_self hb] at this
     exact run (fun g' want' hg'=>by rw[hg] at hg'; cases hg'; exact⟨d,hd',hb⟩) this
    ·have hbn:b=!want:=by cases b <;> cases want <;> simp_all
     subst hbn
     have:=h.2 rfl
     rw[updE_self hb] at this
     exact skip (.inl hb) this
   ·rename_i hb
    exact skip (.inr hb) h
   ·exact h.elim
def contC (P:Program) (N:Nat) (full:List Oper) (bars:List Nat) (fs:Foots) (i:Nat) (rest:List Oper) (e:Env) (d:Option Nat) (K:Env→List Obj→Prop) (v:V) (s:List Obj):Prop:=lexC P N full bars fs i rest (updO e d v) s K
theorem contC_app {P:Program} {N:Nat} {full:List Oper} {bars:List Nat} {fs:Foots} {i:Nat} {rest:List Oper} {e:Env} {d:Option Nat} {K:Env→List Obj→Prop} {v:V} {s:List Obj}:contC P N full bars fs i rest e d K v s=lexC P N full bars fs i rest (updO e d v) s K:=(rfl)
theorem lexC_nil {P:Program} {N:Nat} {full:List Oper} {bars:List Nat} {fs:Foots} {i:Nat} {e:Env} {s:List Obj} {K:Env→List Obj→Prop}:lexC P N full bars fs i [] e s K=K e s:=(rfl)
theorem draw_c {P:Program} {N:Nat} {full:List Oper} (hm:P.follows .mixedOrders=true) (bars:List Nat) (fs:Foots) {e:Env} {s:List Obj} {K:Env→List Obj→Prop} (hd:drawOk full bars fs=true) (h:lexC P N full bars fs 0 full e s K):drawWp P N full e s K:=by
 obtain⟨tr,e',s',h1,h2⟩:=lexC_trace _ _ _ _ _ h
 exact trace_sound hm hd h1 h2
theorem callC_pure {P:Program} {f:FuncId} {args:List V} {r:V} {s:List Obj} {K:V→List Obj→Prop} (h:PureOK P f args r) (ha:refsV.go 0 args=true) (hr:refsV 0 r=true) (hk:K r s):callC P f args s K :=
 ⟨r,fun s'=>call_pure h ha hr ⟨rfl,rfl⟩,hk⟩
theorem callD_of {P:Program} {f:FuncId} {args:List V} {s:List Obj} {K:V→List Obj→Prop} {r:V} {s1:List Obj} (h:callWp P f args s fun v' s''=>v'=r∧s''=s1) (hk:K r s1):callD P f args s K:=⟨r,s1,h,hk⟩
def Cln0 (e:Env) (s:List Obj) (e':Env) (s':List Obj):Prop :=
 ∀(σ0:Gh) (s0:List Obj) (w0:World) (σ:Gh) (w:World) (N:Nat) (a:Act),Evolve σ0 s0 w0 σ s w→Inv σ s w→RepE σ s w N e a→∃σ',Evolve σ0 s0 w0 σ' s' w∧Inv σ' s' w∧RepE σ' s' w N e' a
theorem draw_first {P:Program} {N:Nat} {full:List Oper} {e e':Env} {s s':List Obj} {K:Env→List Obj→Prop} (h:Cln0 e s e' s') (k:drawWp P N full e' s' K):drawWp P N full e s K:=by
 intro σ0 s0 w0 Q hKQ σ w a id hE hI hR
 obtain⟨σ',h1,h2,h3⟩:=h σ0 s0 w0 σ w N a hE hI hR
 exact k σ0 s0 w0 Q hKQ σ' w a id h1 h2 h3
def hole:Obj:=⟨0,true,0,[]⟩
theorem Cln0.reserve {e:Env} {s:List Obj}:Cln0 e s e (s++[hole]):=by
 intro σ0 s0 w0 σ w N a hE hI hR
 have:=push_obj (p:=none) (o':=hole) (w':=w) hI rfl rfl rfl (Nat.le_refl _) (fun _ _=>rfl) (fun _ _ h'=>by cases h') (fun _=>.inl (.inl ⟨rfl,rfl⟩))
 exact⟨_,hE.trans this.1,this.2,hR.evolve this.1⟩
theorem Cln0.trans {e e' e'':Env} {s s' s'':List Obj} (h:Cln0 e s e' s') (k:Cln0 e' s' e'' s''):Cln0 e s e'' s'':=by
 intro σ0 s0 w0 σ w N a hE hI hR
 obtain⟨σ',h1,h2,h3⟩:=h σ0 s0 w0 σ w N a hE hI hR
 exact k σ0 s0 w0 σ' w N a h1 h2 h3
def freezeE (s:List Obj) (slots:List Nat) (e:Env):Env:=fun t=>if slots.contains t then cleanV s.length s (e t) else e t
theorem Cln0.freeze {e:Env} {s:List Obj} (ids slots:List Nat):Cln0 e s (freezeE (killO s ids) slots e) (killO s ids):=by
 intro σ0 s0 w0 σ w N a hE hI hR
 obtain⟨h1,h2⟩:=killO_ok ids s hI
 refine⟨σ,hE.trans h1,h2,hR.1,hR.2.1,fun t=>?_⟩
 unfold freezeE
 split
 ·have:=cleanV_spec h2 (lim:=(killO s ids).length) ((hR.2.2 t).evolve h1)
  rwa [List.take_length] at this
 ·exact(hR.2.2 t).evolve h1
theorem call_one {P:Program} {f:FuncId} {args:List V} {o o':Obj} {r:V} {rest:List Obj} {K:V→List Obj→Prop} (h:callWp P f args [o] fun v s'=>v=r∧s'=[o']) (ha:args.map (renV [0])=args) (hra:refsV.go 1 args=true)
  (hoo:objOk 1 o=true) (ho:renO [0] o=o) (ho':renO [0] o'=o') (hr:renV [0] r=r) (hk:K r (o'::rest)):callWp P f args (o::rest) K:=by
 refine call_frame h [0] rfl (by simp) (fun k ob hk=>?_) ha.symm hra (by simp [hoo]) fun v s' hv=>?_
 ·cases k with
  | zero=>simp at hk; subst hk; simp [ho]
  | succ k=>simp at hk
 ·obtain⟨rfl,rfl⟩:=hv
  refine⟨rfl,?_⟩
  rw[hr]
  simpa [putObjs,ho'] using hk
theorem callF_one {P:Program} {f:FuncId} {args:List V} {o o':Obj} {r:V} {rest:List Obj} {K:V→List Obj→Prop} (h:callWp P f args [o] fun v s'=>v=r∧s'=[o']) (ha:args.map (renV [0])=args) (hra:refsV.go 1 args=true)
  (hoo:objOk 1 o=true) (ho:renO [0] o=o) (ho':renO [0] o'=o') (hr:renV [0] r=r) (hk:K r (o'::rest)):callF P [0] [0] f args (o::rest) K:=by
 refine⟨r,[o'],rfl,fun s' hl hs=>?_,by simpa [putObjs] using hk⟩
 cases s' with
 | nil=>simp at hl
 | cons o1 rest1 =>
  have:o1=o:=by have:=hs 0 (by simp); simpa using this
  subst this
  exact call_one h ha hra hoo ho ho' hr ⟨rfl,by simp [putObjs]⟩
def atS (K:V→List Obj→Prop) (s:List Obj) (v:V):Prop:=K v s
theorem atS_app {K:V→List Obj→Prop} {s:List Obj} {v:V}:atS K s v=K v s:=(rfl)
def unS (K:V→List Obj→Prop) (s:List Obj):Prop:=K .un s
theorem unS_app {K:V→List Obj→Prop} {s:List Obj}:unS K s=K .un s:=(rfl)
def condF {α β:Type} (x:V) (A B:α→β→Prop) (e:α) (s:β):Prop:=condWp x (A e s) (B e s)
theorem condF_true {α β:Type} {A B:α→β→Prop} {e:α} {s:β}:condF (.d (.sc (.bool true))) A B e s=A e s:=by simp [condF,condWp,boolWp]
theorem condF_false {α β:Type} {A B:α→β→Prop} {e:α} {s:β}:condF (.d (.sc (.bool false))) A B e s=B e s:=by simp [condF,condWp,boolWp]
theorem condF_dec {α β:Type} {A B:α→β→Prop} {e:α} {s:β} {p:Prop} [Decidable p]:condF (.d (.sc (.bool (decide p)))) A B e s=((p→A e s)∧(¬p→B e s)):=by simp [condF,condWp,boolWp]
theorem condF_not {α β:Type} {A B:α→β→Prop} {e:α} {s:β} {b:Bool}:condF (.d (.sc (.bool (!b)))) A B e s=condF (.d (.sc (.bool b))) B A e s:=by cases b <;> simp [condF,condWp,boolWp]
theorem condF_ub {α β:Type} {A B:α→β→Prop} {e:α} {s:β}:condF (.d .ub) A B e s=(A e s∧B e s):=(rfl)
theorem condF_gen {α β:Type} {A B:α→β→Prop} {e:α} {s:β} {b:Bool}:condF (.d (.sc (.bool b))) A B e s=((b=true→A e s)∧(b=false→B e s)):=by simp [condF,condWp,boolWp]
def condK (x:V) (A B:List Obj→Prop) (s:List Obj):Prop:=boolWp x (A s) (B s)
theorem condK_true {A B:List Obj→Prop} {s:List Obj}:condK (.d (.sc (.bool true))) A B s=A s:=by simp [condK,boolWp]
theorem condK_false {A B:List Obj→Prop} {s:List Obj}:condK (.d (.sc (.bool false))) A B s=B s:=by simp [condK,boolWp]
theorem condK_dec {A B:List Obj→Prop} {s:List Obj} {p:Prop} [Decidable p]:condK (.d (.sc (.bool (decide p)))) A B s=((p→A s)∧(¬p→B s)):=by simp [condK,boolWp]
theorem condK_not {A B:List Obj→Prop} {s:List Obj} {b:Bool}:condK (.d (.sc (.bool (!b)))) A B s=condK (.d (.sc (.bool b))) B A s:=by cases b <;> simp [condK,boolWp]
def guardV (x:V) (d:Nat) (want:Bool) (A B:Env→Prop) (e:Env):Prop :=
 match x with
 | .d (.sc (.bool b))=>(b=want→A (updE e d (.d (.sc (.bool want)))))∧(b=(!want)→B (updE e d (.d (.sc (.bool (!want))))))
 | .un=>B e
 | _=>False
theorem guardV_tt {d:Nat} {A B:Env→Prop} {e:Env}:guardV (.d (.sc (.bool true))) d true A B e=A (updE e d (.d (.sc (.bool true)))):=by simp [guardV]
theorem guardV_ff {d:Nat} {A B:Env→Prop} {e:Env}:guardV (.d (.sc (.bool false))) d false A B e=A (updE e d (.d (.sc (.bool false)))):=by simp [guardV]
theorem guardV_tf {d:Nat} {A B:Env→Prop} {e:Env}:guardV (.d (.sc (.bool true))) d false A B e=B (updE e d (.d (.sc (.bool true)))):=by simp [guardV]
theorem guardV_ft {d:Nat} {A B:Env→Prop} {e:Env}:guardV (.d (.sc (.bool false))) d true A B e=B (updE e d (.d (.sc (.bool false)))):=by simp [guardV]
theorem guardV_un {d:Nat} {want:Bool} {A B:Env→Prop} {e:Env}:guardV .un d want A B e=B e:=(rfl)
theorem guardV_dt {d:Nat} {A B:Env→Prop} {e:Env} {p:Prop} [Decidable p]:guardV (.d (.sc (.bool (decide p)))) d true A B e=((p→A (updE e d (.d (.sc (.bool true)))))∧(¬p→B (updE e d (.d (.sc (.bool false)))))):=by simp [guardV]
theorem guardV_df {d:Nat} {A B:Env→Prop} {e:Env} {p:Prop} [Decidable p]:guardV (.d (.sc (.bool (decide p)))) d false A B e=((p→B (updE e d (.d (.sc (.bool true)))))∧(¬p→A (updE e d (.d (.sc (.bool false)))))):=by
 simp only[guardV,decide_eq_false_iff_not,Bool.not_false,decide_eq_true_eq]; exact propext And.comm
theorem guardV_ndt {d:Nat} {A B:Env→Prop} {e:Env} {p:Prop} [Decidable p]:guardV (.d (.sc (.bool (!decide p)))) d true A B e=((p→B (updE e d (.d (.sc (.bool false)))))∧(¬p→A (updE e d (.d (.sc (.bool true)))))):=by
 simp only[guardV,Bool.not_eq_true',Bool.not_true,Bool.not_eq_false',decide_eq_false_iff_not,decide_eq_true_eq]; exact propext And.comm
theorem guardV_ndf {d:Nat} {A B:Env→Prop} {e:Env} {p:Prop} [Decidable p]:guardV (.d (.sc (.bool (!decide p)))) d false A B e=((p→A (updE e d (.d (.sc (.bool false)))))∧(¬p→B (updE e d (.d (.sc (.bool true)))))):=by
 simp only[guardV,Bool.not_eq_true',Bool.not_false,Bool.not_eq_false',decide_eq_false_iff_not,decide_eq_true_eq]
def guardS (x:Option Nat) (want:Bool) (A B:Env→Prop) (e:Env):Prop:=guardWp x e want A B
theorem guardS_some {d:Nat} {want:Bool} {A B:Env→Prop} {e:Env}:guardS (some d) want A B e=guardV (e d) d want A B e:=by
 unfold guardS guardWp guardV; exact(rfl)
def gA (P:Program) (N:Nat) (full rest:List Oper) (d:Option Nat) (o:Oper) (s:List Obj) (K:Env→List Obj→Prop) (e:Env):Prop:=opWp P o e s (cont P N full rest e d K)
def gB (P:Program) (N:Nat) (full rest:List Oper) (d:Option Nat) (s:List Obj) (K:Env→List Obj→Prop) (e:Env):Prop:=opsWp P N full rest (updO e d .un) s K
theorem gA_app {P:Program} {N:Nat} {full rest:List Oper} {d:Option Nat} {o:Oper} {s:List Obj} {K:Env→List Obj→Prop} {e:Env}:gA P N full rest d o s K e=opWp P o e s (cont P N full rest e d K):=(rfl)
theorem gB_app {P:Program} {N:Nat} {full rest:List Oper} {d:Option Nat} {s:List Obj} {K:Env→List Obj→Prop} {e:Env}:gB P N full rest d s K e=opsWp P N full rest (updO e d .un) s K:=(rfl)
theorem opsW_none {P:Program} {N:Nat} {full rest:List Oper} {d:Option Nat} {op:Op} {ty:TypeId} {pos:String} {af:Array Edge} {e:Env} {s:List Obj} {K:Env→List Obj→Prop} :
  opsWp P N full (⟨d,op,ty,pos,af,none⟩::rest) e s K=(dstOk N d∧opWp P ⟨d,op,ty,pos,af,none⟩ e s (cont P N full rest e d K)):=(rfl)
theorem opsW_some {P:Program} {N:Nat} {full rest:List Oper} {d:Option Nat} {op:Op} {ty:TypeId} {pos:String} {af:Array Edge} {g:Nat} {want:Bool} {e:Env} {s:List Obj} {K:Env→List Obj→Prop} :
  opsWp P N full (⟨d,op,ty,pos,af,some (g,want)⟩::rest) e s K=(dstOk N d∧guardS (gslot full g) want (gA P N full rest d ⟨d,op,ty,pos,af,some (g,want)⟩ s K) (gB P N full rest d s K) e):=(rfl)
theorem codeW_cond {P:Program} {N L M:Nat} {Q:Exit→Env→List Obj→Prop} {e:Env} {s:List Obj} {c:Operand} {a b:Code}:codeWp P N L M (.cond c a b) Q e s=condF (ev e c) (codeWp P N L M a Q) (codeWp P N L M b Q) (trimE M e) s:=(rfl)
def hA (P:Program) (N:Nat) (full:List Oper) (bars:List Nat) (fs:Foots) (i:Nat) (rest:List Oper) (d:Option Nat) (o:Oper) (s:List Obj) (K:Env→List Obj→Prop) (e:Env):Prop:=stepC P bars fs i o e s (contC P N full bars fs (i + 1) rest e d K)
def hB (P:Program) (N:Nat) (full:List Oper) (bars:List Nat) (fs:Foots) (i:Nat) (rest:List Oper) (d:Option Nat) (s:List Obj) (K:Env→List Obj→Prop) (e:Env):Prop:=lexC P N full bars fs (i + 1) rest (updO e d .un) s K
theorem hA_app {P:Program} {N:Nat} {full:List Oper} {bars:List Nat} {fs:Foots} {i:Nat} {rest:List Oper} {d:Option Nat} {o:Oper} {s:List Obj} {K:Env→List Obj→Prop} {e:Env}:hA P N full bars fs i rest d o s K e=stepC P bars fs i o e s (contC P N full bars fs (i + 1) rest e d K):=(rfl)
theorem hB_app {P:Program} {N:Nat} {full:List Oper} {bars:List Nat} {fs:Foots} {i:Nat} {rest:List Oper} {d:Option Nat} {s:List Obj} {K:Env→List Obj→Prop} {e:Env}:hB P N full bars fs i rest d s K e=lexC P N full bars fs (i + 1) rest (updO e d .un) s K:=(rfl)
theorem lexW_move {P:Program} {N:Nat} {full:List Oper} {bars:List Nat} {fs:Foots} {i:Nat} {rest:List Oper} {d:Option Nat} {x:Operand} {ty:TypeId} {pos:String} {af:Array Edge} {e:Env} {s:List Obj} {K:Env→List Obj→Prop} :
  lexC P N full bars fs i (⟨d,.move x,ty,pos,af,none⟩::rest) e s K=(dstOk N d∧stepC P bars fs i ⟨d,.move x,ty,pos,af,none⟩ e s (contC P N full bars fs (i + 1) rest e d K)):=(rfl)
theorem lexW_assign {P:Program} {N:Nat} {full:List Oper} {bars:List Nat} {fs:Foots} {i:Nat} {rest:List Oper} {d:Option Nat} {x:Operand} {ty:TypeId} {pos:String} {af:Array Edge} {e:Env} {s:List Obj} {K:Env→List Obj→Prop} :
  lexC P N full bars fs i (⟨d,.assign x,ty,pos,af,none⟩::rest) e s K=(dstOk N d∧stepC P bars fs i ⟨d,.assign x,ty,pos,af,none⟩ e s (contC P N full bars fs (i + 1) rest e d K)):=(rfl)
theorem lexW_alloc {P:Program} {N:Nat} {full:List Oper} {bars:List Nat} {fs:Foots} {i:Nat} {rest:List Oper} {d:Option Nat} {t:TypeId} {ty:TypeId} {pos:String} {af:Array Edge} {e:Env} {s:List Obj} {K:Env→List Obj→Prop} :
  lexC P N full bars fs i (⟨d,.alloc t,ty,pos,af,none⟩::rest) e s K=(dstOk N d∧stepC P bars fs i ⟨d,.alloc t,ty,pos,af,none⟩ e s (contC P N full bars fs (i + 1) rest e d K)):=(rfl)
theorem lexW_box {P:Program} {N:Nat} {full:List Oper} {bars:List Nat} {fs:Foots} {i:Nat} {rest:List Oper} {d:Option Nat} {t:TypeId} {x:Operand} {ty:TypeId} {pos:String} {af:Array Edge} {e:Env} {s:List Obj} {K:Env→List Obj→Prop} :
  lexC P N full bars fs i (⟨d,.box t x,ty,pos,af,none⟩::rest) e s K=(dstOk N d∧stepC P bars fs i ⟨d,.box t x,ty,pos,af,none⟩ e s (contC P N full bars fs (i + 1) rest e d K)):=(rfl)
theorem lexW_build {P:Program} {N:Nat} {full:List Oper} {bars:List Nat} {fs:Foots} {i:Nat} {rest:List Oper} {d:Option Nat} {t:TypeId} {parts:Array (Nat × Operand)} {ty:TypeId} {pos:String} {af:Array Edge} {e:Env} {s:List Obj} {K:Env→List Obj→Prop} :
  lexC P N full bars fs i (⟨d,.build t parts,ty,pos,af,none⟩::rest) e s K=(dstOk N d∧stepC P bars fs i ⟨d,.build t parts,ty,pos,af,none⟩ e s (contC P N full bars fs (i + 1) rest e d K)):=(rfl)
theorem lexW_buildSlice {P:Program} {N:Nat} {full:List Oper} {bars:List Nat} {fs:Foots} {i:Nat} {rest:List Oper} {d:Option Nat} {t:TypeId} {n:Nat} {parts:Array (Nat × Operand)} {ty:TypeId} {pos:String} {af:Array Edge} {e:Env} {s:List Obj} {K:Env→List Obj→Prop} :
  lexC P N full bars fs i (⟨d,.buildSlice t n parts,ty,pos,af,none⟩::rest) e s K=(dstOk N d∧stepC P bars fs i ⟨d,.buildSlice t n parts,ty,pos,af,none⟩ e s (contC P N full bars fs (i + 1) rest e d K)):=(rfl)
theorem lexW_load {P:Program} {N:Nat} {full:List Oper} {bars:List Nat} {fs:Foots} {i:Nat} {rest:List Oper} {d:Option Nat} {t:TypeId} {a:Operand} {ty:TypeId} {pos:String} {af:Array Edge} {e:Env} {s:List Obj} {K:Env→List Obj→Prop} :
  lexC P N full bars fs i (⟨d,.load t a,ty,pos,af,none⟩::rest) e s K=(dstOk N d∧stepC P bars fs i ⟨d,.load t a,ty,pos,af,none⟩ e s (contC P N full bars fs (i + 1) rest e d K)):=(rfl)
theorem lexW_makeMap {P:Program} {N:Nat} {full:List Oper} {bars:List Nat} {fs:Foots} {i:Nat} {rest:List Oper} {d:Option Nat} {t:TypeId} {r:Option Operand} {ty:TypeId} {pos:String} {af:Array Edge} {e:Env} {s:List Obj} {K:Env→List Obj→Prop} :
  lexC P N full bars fs i (⟨d,.makeMap t r,ty,pos,af,none⟩::rest) e s K=(dstOk N d∧stepC P bars fs i ⟨d,.makeMap t r,ty,pos,af,none⟩ e s (contC P N full bars fs (i + 1) rest e d K)):=(rfl)
theorem lexW_lookup {P:Program} {N:Nat} {full:List Oper} {bars:List Nat} {fs:Foots} {i:Nat} {rest:List Oper} {d:Option Nat} {t:TypeId} {x i':Operand} {ok:Bool} {ty:TypeId} {pos:String} {af:Array Edge} {e:Env} {s:List Obj} {K:Env→List Obj→Prop} :
  lexC P N full bars fs i (⟨d,.lookup t x i' ok,ty,pos,af,none⟩::rest) e s K=(dstOk N d∧stepC P bars fs i ⟨d,.lookup t x i' ok,ty,pos,af,none⟩ e s (contC P N full bars fs (i + 1) rest e d K)):=(rfl)
theorem lexW_mapUpdate {P:Program} {N:Nat} {full:List Oper} {bars:List Nat} {fs:Foots} {i:Nat} {rest:List Oper} {d:Option Nat} {t:TypeId} {m k x:Operand} {ty:TypeId} {pos:String} {af:Array Edge} {e:Env} {s:List Obj} {K:Env→List Obj→Prop} :
  lexC P N full bars fs i (⟨d,.mapUpdate t m k x,ty,pos,af,none⟩::rest) e s K=(dstOk N d∧stepC P bars fs i ⟨d,.mapUpdate t m k x,ty,pos,af,none⟩ e s (contC P N full bars fs (i + 1) rest e d K)):=(rfl)
theorem lexW_store {P:Program} {N:Nat} {full:List Oper} {bars:List Nat} {fs:Foots} {i:Nat} {rest:List Oper} {d:Option Nat} {t:TypeId} {a x:Operand} {ty:TypeId} {pos:String} {af:Array Edge} {e:Env} {s:List Obj} {K:Env→List Obj→Prop} :
  lexC P N full bars fs i (⟨d,.store t a x,ty,pos,af,none⟩::rest) e s K=(dstOk N d∧stepC P bars fs i ⟨d,.store t a x,ty,pos,af,none⟩ e s (contC P N full bars fs (i + 1) rest e d K)):=(rfl)
theorem lexW_nil {P:Program} {N:Nat} {full:List Oper} {bars:List Nat} {fs:Foots} {i:Nat} {rest:List Oper} {d:Option Nat} {x:Operand} {ty:TypeId} {pos:String} {af:Array Edge} {e:Env} {s:List Obj} {K:Env→List Obj→Prop} :
  lexC P N full bars fs i (⟨d,.nilCheck x,ty,pos,af,none⟩::rest) e s K=(dstOk N d∧stepC P bars fs i ⟨d,.nilCheck x,ty,pos,af,none⟩ e s (contC P N full bars fs (i + 1) rest e d K)):=(rfl)
theorem lexW_bin {P:Program} {N:Nat} {full:List Oper} {bars:List Nat} {fs:Foots} {i:Nat} {rest:List Oper} {d:Option Nat} {op:BinOp} {t t':TypeId} {x y:Operand} {ty:TypeId} {pos:String} {af:Array Edge} {e:Env} {s:List Obj} {K:Env→List Obj→Prop} :
  lexC P N full bars fs i (⟨d,.binOp op t x y t',ty,pos,af,none⟩::rest) e s K=(dstOk N d∧stepC P bars fs i ⟨d,.binOp op t x y t',ty,pos,af,none⟩ e s (contC P N full bars fs (i + 1) rest e d K)):=(rfl)
theorem lexW_unop {P:Program} {N:Nat} {full:List Oper} {bars:List Nat} {fs:Foots} {i:Nat} {rest:List Oper} {d:Option Nat} {op:UnOp} {t:TypeId} {x:Operand} {ty:TypeId} {pos:String} {af:Array Edge} {e:Env} {s:List Obj} {K:Env→List Obj→Prop} :
  lexC P N full bars fs i (⟨d,.unOp op t x,ty,pos,af,none⟩::rest) e s K=(dstOk N d∧stepC P bars fs i ⟨d,.unOp op t x,ty,pos,af,none⟩ e s (contC P N full bars fs (i + 1) rest e d K)):=(rfl)
theorem lexW_convert {P:Program} {N:Nat} {full:List Oper} {bars:List Nat} {fs:Foots} {i:Nat} {rest:List Oper} {d:Option Nat} {a b:TypeId} {x:Operand} {ty:TypeId} {pos:String} {af:Array Edge} {e:Env} {s:List Obj} {K:Env→List Obj→Prop} :
  lexC P N full bars fs i (⟨d,.convert a b x,ty,pos,af,none⟩::rest) e s K=(dstOk N d∧stepC P bars fs i ⟨d,.convert a b x,ty,pos,af,none⟩ e s (contC P N full bars fs (i + 1) rest e d K)):=(rfl)
theorem lexW_makeFunc {P:Program} {N:Nat} {full:List Oper} {bars:List Nat} {fs:Foots} {i:Nat} {rest:List Oper} {d:Option Nat} {fn:Fn} {first caps:Array Operand} {ty:TypeId} {pos:String} {af:Array Edge} {e:Env} {s:List Obj} {K:Env→List Obj→Prop} :
  lexC P N full bars fs i (⟨d,.makeFunc fn first caps,ty,pos,af,none⟩::rest) e s K=(dstOk N d∧stepC P bars fs i ⟨d,.makeFunc fn first caps,ty,pos,af,none⟩ e s (contC P N full bars fs (i + 1) rest e d K)):=(rfl)
theorem lexW_makeSlice {P:Program} {N:Nat} {full:List Oper} {bars:List Nat} {fs:Foots} {i:Nat} {rest:List Oper} {d:Option Nat} {t:TypeId} {l c:Operand} {ty:TypeId} {pos:String} {af:Array Edge} {e:Env} {s:List Obj} {K:Env→List Obj→Prop} :
  lexC P N full bars fs i (⟨d,.makeSlice t l c,ty,pos,af,none⟩::rest) e s K=(dstOk N d∧stepC P bars fs i ⟨d,.makeSlice t l c,ty,pos,af,none⟩ e s (contC P N full bars fs (i + 1) rest e d K)):=(rfl)
theorem lexW_slice {P:Program} {N:Nat} {full:List Oper} {bars:List Nat} {fs:Foots} {i:Nat} {rest:List Oper} {d:Option Nat} {t:TypeId} {x:Operand} {lo hi mx:Option Operand} {ty:TypeId} {pos:String} {af:Array Edge} {e:Env} {s:List Obj} {K:Env→List Obj→Prop} :
  lexC P N full bars fs i (⟨d,.slice t x lo hi mx,ty,pos,af,none⟩::rest) e s K=(dstOk N d∧stepC P bars fs i ⟨d,.slice t x lo hi mx,ty,pos,af,none⟩ e s (contC P N full bars fs (i + 1) rest e d K)):=(rfl)
theorem lexW_fieldAddr {P:Program} {N:Nat} {full:List Oper} {bars:List Nat} {fs:Foots} {i:Nat} {rest:List Oper} {d:Option Nat} {t:TypeId} {x:Operand} {f:Nat} {ty:TypeId} {pos:String} {af:Array Edge} {e:Env} {s:List Obj} {K:Env→List Obj→Prop} :
  lexC P N full bars fs i (⟨d,.fieldAddr t x f,ty,pos,af,none⟩::rest) e s K=(dstOk N d∧stepC P bars fs i ⟨d,.fieldAddr t x f,ty,pos,af,none⟩ e s (contC P N full bars fs (i + 1) rest e d K)):=(rfl)
theorem lexW_field {P:Program} {N:Nat} {full:List Oper} {bars:List Nat} {fs:Foots} {i:Nat} {rest:List Oper} {d:Option Nat} {t:TypeId} {x:Operand} {f:Nat} {ty:TypeId} {pos:String} {af:Array Edge} {e:Env} {s:List Obj} {K:Env→List Obj→Prop} :
  lexC P N full bars fs i (⟨d,.field t x f,ty,pos,af,none⟩::rest) e s K=(dstOk N d∧stepC P bars fs i ⟨d,.field t x f,ty,pos,af,none⟩ e s (contC P N full bars fs (i + 1) rest e d K)):=(rfl)
theorem lexW_indexAddr {P:Program} {N:Nat} {full:List Oper} {bars:List Nat} {fs:Foots} {i:Nat} {rest:List Oper} {d:Option Nat} {t:TypeId} {x i':Operand} {ty:TypeId} {pos:String} {af:Array Edge} {e:Env} {s:List Obj} {K:Env→List Obj→Prop} :
  lexC P N full bars fs i (⟨d,.indexAddr t x i',ty,pos,af,none⟩::rest) e s K=(dstOk N d∧stepC P bars fs i ⟨d,.indexAddr t x i',ty,pos,af,none⟩ e s (contC P N full bars fs (i + 1) rest e d K)):=(rfl)
theorem lexW_index {P:Program} {N:Nat} {full:List Oper} {bars:List Nat} {fs:Foots} {i:Nat} {rest:List Oper} {d:Option Nat} {t:TypeId} {x i':Operand} {ty:TypeId} {pos:String} {af:Array Edge} {e:Env} {s:List Obj} {K:Env→List Obj→Prop} :
  lexC P N full bars fs i (⟨d,.index t x i',ty,pos,af,none⟩::rest) e s K=(dstOk N d∧stepC P bars fs i ⟨d,.index t x i',ty,pos,af,none⟩ e s (contC P N full bars fs (i + 1) rest e d K)):=(rfl)
theorem lexW_extract {P:Program} {N:Nat} {full:List Oper} {bars:List Nat} {fs:Foots} {i:Nat} {rest:List Oper} {d:Option Nat} {x:Operand} {i':Nat} {ty:TypeId} {pos:String} {af:Array Edge} {e:Env} {s:List Obj} {K:Env→List Obj→Prop} :
  lexC P N full bars fs i (⟨d,.extract x i',ty,pos,af,none⟩::rest) e s K=(dstOk N d∧stepC P bars fs i ⟨d,.extract x i',ty,pos,af,none⟩ e s (contC P N full bars fs (i + 1) rest e d K)):=(rfl)
theorem lexW_call {P:Program} {N:Nat} {full:List Oper} {bars:List Nat} {fs:Foots} {i:Nat} {rest:List Oper} {d:Option Nat} {c:Call} {ty:TypeId} {pos:String} {af:Array Edge} {e:Env} {s:List Obj} {K:Env→List Obj→Prop} :
  lexC P N full bars fs i (⟨d,.call c,ty,pos,af,none⟩::rest) e s K=(dstOk N d∧stepC P bars fs i ⟨d,.call c,ty,pos,af,none⟩ e s (contC P N full bars fs (i + 1) rest e d K)):=(rfl)
theorem lexW_pick {P:Program} {N:Nat} {full:List Oper} {bars:List Nat} {fs:Foots} {i:Nat} {rest:List Oper} {d:Option Nat} {c a b:Operand} {ty:TypeId} {pos:String} {af:Array Edge} {e:Env} {s:List Obj} {K:Env→List Obj→Prop} :
  lexC P N full bars fs i (⟨d,.pick c a b,ty,pos,af,none⟩::rest) e s K=(dstOk N d∧bars.contains i=false∧footOf fs i=none∧condK (ev e c) (contC P N full bars fs (i + 1) rest e d K (ev e a)) (contC P N full bars fs (i + 1) rest e d K (ev e b)) s):=(rfl)
theorem lexW_some {P:Program} {N:Nat} {full:List Oper} {bars:List Nat} {fs:Foots} {i:Nat} {rest:List Oper} {d:Option Nat} {op:Op} {ty:TypeId} {pos:String} {af:Array Edge} {g:Nat} {want:Bool} {e:Env} {s:List Obj} {K:Env→List Obj→Prop} :
  lexC P N full bars fs i (⟨d,op,ty,pos,af,some (g,want)⟩::rest) e s K=(dstOk N d∧guardS (gslot full g) want (hA P N full bars fs i rest d ⟨d,op,ty,pos,af,some (g,want)⟩ s K) (hB P N full bars fs i rest d s K) e):=(rfl)
def callV (P:Program) (e0 x:V) (args:List V) (s:List Obj) (K:V→List Obj→Prop):Prop :=
 match asCl e0 x with
 | .cl (.func g) first caps=>callWp P g (first++args++caps) s K
 | _=>False
theorem callV_cl {P:Program} {e0:V} {g:FuncId} {first caps args:List V} {s:List Obj} {K:V→List Obj→Prop}:callV P e0 (.cl (.func g) first caps) args s K=callWp P g (first++args++caps) s K:=(rfl)
theorem callV_d {P:Program} {e0:V} {g:FuncId} {first caps:List D} {args:List V} {s:List Obj} {K:V→List Obj→Prop}:callV P e0 (.d (.cl (.func g) first caps)) args s K=callWp P g (liftV.go e0 first++args++liftV.go e0 caps) s K:=by
 unfold callV asCl
 simp only[liftV]
theorem asCl_cl {e0:V} {fn:Fn} {first caps:List V}:asCl e0 (.cl fn first caps)=.cl fn first caps:=(rfl)
theorem asCl_d {e0:V} {fn:Fn} {first caps:List D}:asCl e0 (.d (.cl fn first caps))=.cl fn (liftV.go e0 first) (liftV.go e0 caps):=by
 unfold asCl
 simp only[liftV]
theorem asCl_f {e0:V} {fn:Fn}:asCl e0 (.d (.sc (.func fn ⟨[]⟩ ⟨[]⟩)))=.cl fn [] []:=(rfl)
theorem rawPp_pp {id g i off b a:Nat}:rawPp (.pp id g i off b a) b a=.pp id g i off b a:=by simp [rawPp]
theorem liftV_raw {e0:V} {b a:Nat}:liftV e0 (.sc (.pointer (some ⟨b,a,none⟩)))=rawPp e0 b a:=by simp only[liftV]
theorem liftV_int {e0:V} {k:IntKind} {n:Int}:liftV e0 (.sc (.int k n))=.d (.sc (.int k n)):=by simp only[liftV]
theorem liftV_bool {e0:V} {b:Bool}:liftV e0 (.sc (.bool b))=.d (.sc (.bool b)):=by simp only[liftV]
theorem liftV_nil {e0:V}:liftV e0 (.sc (.pointer none))=.d (.sc (.pointer none)):=by simp only[liftV]
theorem liftV_sl {e0:V} {els:List (List D)}:liftV e0 (.sl els)=.d (.sl els):=by simp only[liftV]
theorem liftV_el1 {e0:V} {x:D}:liftV e0 (.el [x])=.bx (liftV e0 x):=by simp only[liftV]
theorem liftV_el2 {e0:V} {x y:D} {l:List D}:liftV e0 (.el (x::y::l))=.d (.el (x::y::l)):=by simp only[liftV]
theorem liftV_cl {e0:V} {fn:Fn} {first caps:List D}:liftV e0 (.cl fn first caps)=.cl fn (liftV.go e0 first) (liftV.go e0 caps):=by simp only[liftV]
theorem liftG_nil {e0:V}:liftV.go e0 []=[]:=(rfl)
theorem liftG_cons {e0:V} {x:D} {l:List D}:liftV.go e0 (x::l)=liftV e0 x::liftV.go e0 l:=(rfl)
theorem callV_f {P:Program} {e0:V} {g:FuncId} {args:List V} {s:List Obj} {K:V→List Obj→Prop}:callV P e0 (.d (.sc (.func (.func g) ⟨[]⟩ ⟨[]⟩))) args s K=callWp P g ([]++args++[]) s K:=(rfl)
section
variable {P:Program} {d:Option Nat} {ty:TypeId} {pos:String} {af:Array Edge} {g:Option (Nat × Bool)} {e:Nat→V} {s:List Obj} {K:V→List Obj→Prop}
theorem opW_move {x:Operand}:opWp P ⟨d,.move x,ty,pos,af,g⟩ e s K=(K (ev e x) s):=(rfl)
theorem opW_assign {x:Operand}:opWp P ⟨d,.assign x,ty,pos,af,g⟩ e s K=(K (ev e x) s):=(rfl)
theorem opW_pick {c a b:Operand}:opWp P ⟨d,.pick c a b,ty,pos,af,g⟩ e s K=(condK (ev e c) (K (ev e a)) (K (ev e b)) s):=(rfl)
theorem opW_alloc {t:TypeId}:opWp P ⟨d,.alloc t,ty,pos,af,g⟩ e s K=(allocWp P t s K):=(rfl)
theorem opW_box {t:TypeId} {x:Operand}:opWp P ⟨d,.box t x,ty,pos,af,g⟩ e s K=(boxWp s (ev e x) K):=(rfl)
theorem opW_build {t:TypeId} {parts:Array (Nat × Operand)}:opWp P ⟨d,.build t parts,ty,pos,af,g⟩ e s K=(buildWp P t (parts.toList.map fun p=>(p.1,ev e p.2)) (atS K s)):=(rfl)
theorem opW_buildSlice {t:TypeId} {n:Nat} {parts:Array (Nat × Operand)}:opWp P ⟨d,.buildSlice t n parts,ty,pos,af,g⟩ e s K=(buildSliceWp P t n (parts.toList.map fun p=>(p.1,ev e p.2)) s K):=(rfl)
theorem rawAt_el {e0:V} {cs:List D}:rawAt e0 (.d (.el cs))=.d (.el cs):=(rfl)
theorem rawAt_rf {e0:V} {id g i off:Nat}:rawAt e0 (.rf id g i off)=.rf id g i off:=(rfl)
theorem rawAt_pp {e0:V} {id g i off b a:Nat}:rawAt e0 (.pp id g i off b a)=.pp id g i off b a:=(rfl)
theorem rawAt_raw {e0:V} {b a:Nat}:rawAt e0 (.d (.sc (.pointer (some ⟨b,a,none⟩))))=rawIn e0 b a:=(rfl)
theorem rawIn_0 {id g i off b a:Nat}:rawIn (.pp id g i off b a) b a=.rf id g i off:=by simp [rawIn]
theorem rawIn_add {id g i off b a k:Nat}:rawIn (.pp id g i off b a) b (a + k)=.rf id g i (off + k):=by simp [rawIn]
theorem opW_load {t:TypeId} {a:Operand}:opWp P ⟨d,.load t a,ty,pos,af,g⟩ e s K=(loadWp P t s (rawAt (e 0) (ev e a)) (atS K s)):=(rfl)
theorem opW_store {t:TypeId} {a x:Operand}:opWp P ⟨d,.store t a x,ty,pos,af,g⟩ e s K=(storeWp P t s (ev e a) (ev e x) (unS K)):=(rfl)
theorem opW_nil {x:Operand}:opWp P ⟨d,.nilCheck x,ty,pos,af,g⟩ e s K=(nilWp s (ev e x) (atS K s)):=(rfl)
theorem opW_binT {op:BinOp} {t t':TypeId} {x:Operand} {y:Nat}:opWp P ⟨d,.binOp op t x (.tmp y) t',ty,pos,af,g⟩ e s K=(binWp P op t s (ev e x) (ev e (.tmp y)) (atS K s)):=(rfl)
theorem opW_binI {op:BinOp} {t t':TypeId} {x:Operand} {k:IntKind} {y:Int}:opWp P ⟨d,.binOp op t x (.const (.int k y)) t',ty,pos,af,g⟩ e s K=(binWp P op t s (ev e x) (ev e (.const (.int k y))) (atS K s)):=(rfl)
theorem opW_binB {op:BinOp} {t t':TypeId} {x:Operand} {y:Bool}:opWp P ⟨d,.binOp op t x (.const (.bool y)) t',ty,pos,af,g⟩ e s K=(binWp P op t s (ev e x) (ev e (.const (.bool y))) (atS K s)):=(rfl)
theorem opW_binP {op:BinOp} {t t':TypeId} {x:Operand} {y:Option Addr}:opWp P ⟨d,.binOp op t x (.const (.pointer y)) t',ty,pos,af,g⟩ e s K=(binWp P op t s (ev e x) (ev e (.const (.pointer y))) (atS K s)):=(rfl)
theorem opW_binN {op:BinOp} {t t':TypeId} {x:Operand}:opWp P ⟨d,.binOp op t x (.const (.slice none 0 0)) t',ty,pos,af,g⟩ e s K=(nilSlWp P op t s (ev e x) (atS K s)):=(rfl)
theorem opW_unop {op:UnOp} {t:TypeId} {x:Operand}:opWp P ⟨d,.unOp op t x,ty,pos,af,g⟩ e s K=(unWp op (ev e x) (atS K s)):=(rfl)
theorem opW_convert {a b:TypeId} {x:Operand}:opWp P ⟨d,.convert a b x,ty,pos,af,g⟩ e s K=(convWp P a b (ev e x) (atS K s)):=(rfl)
theorem opW_makeFunc {fn:Fn} {first caps:Array Operand}:opWp P ⟨d,.makeFunc fn first caps,ty,pos,af,g⟩ e s K=(K (.cl fn (first.toList.map (ev e)) (caps.toList.map (ev e))) s):=(rfl)
theorem opW_makeSlice {t:TypeId} {l c:Operand}:opWp P ⟨d,.makeSlice t l c,ty,pos,af,g⟩ e s K=(makeSliceWp P t (ev e l) (ev e c) s K):=(rfl)
theorem opW_slice {t:TypeId} {x:Operand} {lo hi mx:Option Operand}:opWp P ⟨d,.slice t x lo hi mx,ty,pos,af,g⟩ e s K=(sliceWp P t (ev e x) (lo.map (ev e)) (hi.map (ev e)) (mx.map (ev e)) s (atS K s)):=(rfl)
theorem opW_fieldAddr {t:TypeId} {x:Operand} {f:Nat}:opWp P ⟨d,.fieldAddr t x f,ty,pos,af,g⟩ e s K=(fieldAddrWp P t s (ev e x) f (atS K s)):=(rfl)
theorem opW_field {t:TypeId} {x:Operand} {f:Nat}:opWp P ⟨d,.field t x f,ty,pos,af,g⟩ e s K=(fieldWp P t (ev e x) f (atS K s)):=(rfl)
theorem opW_indexAddr {t:TypeId} {x i:Operand}:opWp P ⟨d,.indexAddr t x i,ty,pos,af,g⟩ e s K=(indexAddrWp P t s (ev e x) (ev e i) (atS K s)):=(rfl)
theorem opW_makeMap {t:TypeId} {r:Option Operand}:opWp P ⟨d,.makeMap t r,ty,pos,af,g⟩ e s K=(makeMapWp P t r s K):=(rfl)
theorem opW_lookup {t:TypeId} {x i:Operand}:opWp P ⟨d,.lookup t x i false,ty,pos,af,g⟩ e s K=(lookupWp P t s (ev e x) (ev e i) (atS K s)):=(rfl)
theorem opW_lookupK {t:TypeId} {x i:Operand}:opWp P ⟨d,.lookup t x i true,ty,pos,af,g⟩ e s K=(lookKWp P t s (ev e x) (ev e i) (atS K s)):=(rfl)
theorem opW_mapUpdate {t:TypeId} {m k x:Operand}:opWp P ⟨d,.mapUpdate t m k x,ty,pos,af,g⟩ e s K=(updWp P t s (ev e m) (ev e k) (ev e x) (unS K)):=(rfl)
theorem opW_insert {t:TypeId} {m k x:Operand}:opWp P ⟨d,.insert t m k x,ty,pos,af,g⟩ e s K=(updWp P t s (ev e m) (ev e k) (ev e x) (unS K)):=(rfl)
theorem opW_index {t:TypeId} {x i:Operand}:opWp P ⟨d,.index t x i,ty,pos,af,g⟩ e s K=(indexWp P t (ev e x) (ev e i) (atS K s)):=(rfl)
theorem opW_extract {x:Operand} {i:Nat}:opWp P ⟨d,.extract x i,ty,pos,af,g⟩ e s K=(tupWp (ev e x) i (atS K s)):=(rfl)
theorem opW_call {f:FuncId} {args:Array Operand} {tys:Array TypeId}:opWp P ⟨d,.call ⟨.value (.func f),args,tys⟩,ty,pos,af,g⟩ e s K=(callWp P f (args.toList.map (ev e)) s K):=(rfl)
theorem opW_callT {f:Nat} {args:Array Operand} {tys:Array TypeId}:opWp P ⟨d,.call ⟨.value (.tmp f),args,tys⟩,ty,pos,af,g⟩ e s K=(callV P (e 0) (e f) (args.toList.map (ev e)) s K):=(rfl)
theorem opW_len {x:Operand} {t:TypeId}:opWp P ⟨d,.call ⟨.builtin .len,#[x],#[t]⟩,ty,pos,af,g⟩ e s K=(lenWp P t (ev e x) s (atS K s)):=(rfl)
theorem opW_append {a x:Operand} {t t':TypeId}:opWp P ⟨d,.call ⟨.builtin .append,#[a,x],#[t,t']⟩,ty,pos,af,g⟩ e s K=(if t=t' then appendWp P t (ev e a) (ev e x) s K else appendZWp P t t' (ev e a) (ev e x) s K):=(rfl)
theorem opW_copy {a x:Operand} {t t':TypeId}:opWp P ⟨d,.call ⟨.builtin .copy,#[a,x],#[t,t']⟩,ty,pos,af,g⟩ e s K=(t=t'∧copyWp P t (ev e a) (ev e x) s K):=(rfl)
theorem opW_clear {x:Operand} {t:TypeId}:opWp P ⟨d,.call ⟨.builtin .clear,#[x],#[t]⟩,ty,pos,af,g⟩ e s K=(clearWp P t (ev e x) s K):=(rfl)
theorem opW_min {x y:Operand} {tys:Array TypeId}:opWp P ⟨d,.call ⟨.builtin .min,#[x,y],tys⟩,ty,pos,af,g⟩ e s K=(minmaxWp true (ev e x) [ev e y] (atS K s)):=(rfl)
theorem opW_max {x y:Operand} {tys:Array TypeId}:opWp P ⟨d,.call ⟨.builtin .max,#[x,y],tys⟩,ty,pos,af,g⟩ e s K=(minmaxWp false (ev e x) [ev e y] (atS K s)):=(rfl)
end
theorem cellsV_ag {cs:List V}:cellsV (.ag cs)=some cs:=(rfl)
theorem cellsV_d {x:D}:cellsV (.d x)=some [.d x]:=(rfl)
theorem cellsV_fu {els:List (List D)}:cellsV (.fu els)=some [.fu els]:=(rfl)
theorem cellsV_so {id g lo n:Nat}:cellsV (.so id g lo n)=some [.so id g lo n]:=(rfl)
theorem cellsV_rf {id g i off:Nat}:cellsV (.rf id g i off)=some [.rf id g i off]:=(rfl)
theorem cellsV_cl {fn:Fn} {a b:List V}:cellsV (.cl fn a b)=some [.cl fn a b]:=(rfl)
theorem call_at {P:Program} {f:FuncId} (k:Nat) {cargs args:List V} {s:List Obj} {o o':Obj} {r r':V} {K:V→List Obj→Prop} (h:callWp P f cargs [o] fun v s'=>v=r∧s'=[o']) (ha:args=cargs.map (renV [k])) (hra:refsV.go 1 cargs=true)
  (hoo:objOk 1 o=true) (ho:s[k]?=some (renO [k] o)) (hr:renV [k] r=r') (hk:K r' (s.set k (renO [k] o'))):callWp P f args s K:=by
 refine call_frame h [k] rfl (by simp) (fun j ob hj=>?_) ha hra (by simp [hoo]) fun v s' hv=>?_
 ·cases j with
  | zero=>simp at hj; subst hj; simpa using ho
  | succ j=>simp at hj
 ·obtain⟨rfl,rfl⟩:=hv
  refine⟨rfl,?_⟩
  rw[hr]
  simpa [putObjs] using hk
def keepE (keep:List Nat) (e:Env):Env:=fun t=>if keep.contains t then e t else .any
theorem keepE_app {keep:List Nat} {e:Env} {t:Nat}:keepE keep e t=if keep.contains t then e t else .any:=(rfl)
theorem Cln.cut {L:Nat} {e:Env} {s s':List Obj} (lim:Nat) (hL:L≤lim) (hs:s.take lim=s') (ho:s'.all (objOk lim)=true) (keep:List Nat) (hk:keep.all (fun t=>refsV lim (e t))=true):Cln L e s (keepE keep e) s':=by
 subst hs
 intro σ0 s0 w0 σ w N a hs0 hE hI hR
 refine⟨σ,hE.take (by omega),hI.take ho,hR.1,hR.2.1,fun t=>?_⟩
 unfold keepE
 split
 ·rename_i ht
  rw[List.all_eq_true] at hk
  exact(hR.2.2 t).take (hk t (by simpa using ht))
 ·exact .any
theorem call_at2 {P:Program} {f:FuncId} (a b:Nat) (hab:a≠b) {cargs args:List V} {s:List Obj} {o1 o1' o2 o2':Obj} {r r':V} {K:V→List Obj→Prop} (h:callWp P f cargs [o1,o2] fun v s'=>v=r∧s'=[o1',o2']) (ha:args=cargs.map (renV [a,b])) (hra:refsV.go 2 cargs=true)
  (hoo:objOk 2 o1=true) (hoo':objOk 2 o2=true) (ho1:s[a]?=some (renO [a,b] o1)) (ho2:s[b]?=some (renO [a,b] o2)) (hr:renV [a,b] r=r') (hk:K r' ((s.set a (renO [a,b] o1')).set b (renO [a,b] o2'))):callWp P f args s K:=by
 refine call_frame h [a,b] rfl (by simp [hab]) (fun j ob hj=>?_) ha hra (by simp [hoo,hoo']) fun v s' hv=>?_
 ·match j with
  | 0=>simp at hj; subst hj; simpa using ho1
  | 1=>simp at hj; subst hj; simpa using ho2
  | j + 2=>simp at hj
 ·obtain⟨rfl,rfl⟩:=hv
  refine⟨rfl,?_⟩
  rw[hr]
  simpa [putObjs] using hk
theorem callF_two {P:Program} {f:FuncId} {args:List V} {o1 o1' o2 o2':Obj} {r:V} {rest:List Obj} {K:V→List Obj→Prop} (h:callWp P f args [o1,o2] fun v s'=>v=r∧s'=[o1',o2']) (ha:args=args.map (renV [0,1])) (hra:refsV.go 2 args=true)
  (hoo:objOk 2 o1=true) (hoo':objOk 2 o2=true) (ho1:o1=renO [0,1] o1) (ho2:o2=renO [0,1] o2) (ho1':renO [0,1] o1'=o1') (ho2':renO [0,1] o2'=o2') (hr:renV [0,1] r=r) (hk:K r (o1'::o2'::rest)):callF P [0,1] [0,1] f args (o1::o2::rest) K:=by
 refine⟨r,[o1',o2'],rfl,fun s' hl hs=>?_,by simpa [putObjs] using hk⟩
 have e0:=hs 0 (by simp)
 have e1:=hs 1 (by simp)
 refine call_at2 0 1 (by decide) h ha hra hoo hoo' (by rw[e0,← ho1]; rfl) (by rw[e1,← ho2]; rfl) hr ⟨rfl,?_⟩
 simp [putObjs,ho1',ho2']
theorem vsA:type_of% (
 And.intro @codeWp_skip <|
 And.intro @codeWp_region <|
 And.intro @codeWp_draw <|
 And.intro @codeWp_seq <|
 And.intro @codeW_cond <|
 And.intro @codeWp_block <|
 And.intro @codeWp_exit <|
 And.intro @codeWp_ret <|
 And.intro @opsWp_nil <|
 And.intro @opsW_none <|
 And.intro @opsW_some <|
 And.intro @gA_app <|
 And.intro @gB_app <|
 And.intro @hA_app <|
 And.intro @hB_app <|
 And.intro @guardS_some <|
 And.intro @guardV_tt <|
 And.intro @guardV_ff <|
 And.intro @guardV_tf <|
 And.intro @guardV_ft <|
 And.intro @guardV_un <|
 And.intro @guardV_dt <|
 And.intro @guardV_df <|
 And.intro @guardV_ndt <|
 And.intro @guardV_ndf <|
 And.intro @condF_true <|
 And.intro @condF_false <|
 And.intro @condF_dec <|
 And.intro @condF_not <|
 And.intro @condK_true <|
 And.intro @condK_false <|
 And.intro @condK_dec <|
 And.intro @condK_not <|
 And.intro @atS_app <|
 And.intro @unS_app <|
 And.intro @callV_cl <|
 And.intro @cont_app <|
 And.intro @Qn_app <|
 And.intro @Qseq_normal <|
 And.intro @Qseq_ret <|
 And.intro @Qseq_exit <|
 And.intro @Qblk_normal <|
 And.intro @Qblk_ret <|
 And.intro @Qblk_exit <|
 And.intro @lexC_nil <|
 And.intro @lexW_move <|
 And.intro @lexW_assign <|
 And.intro @lexW_alloc <|
 And.intro @lexW_box <|
 And.intro @lexW_build <|
 And.intro @lexW_buildSlice <|
 And.intro @lexW_load <|
 And.intro @lexW_makeMap <|
 And.intro @lexW_lookup <|
 And.intro @lexW_mapUpdate <|
 And.intro @lexW_store <|
 And.intro @lexW_nil <|
 And.intro @lexW_bin <|
 And.intro @lexW_unop <|
 And.intro @lexW_convert <|
 And.intro @lexW_makeFunc <|
 And.intro @lexW_makeSlice <|
 And.intro @lexW_slice <|
 And.intro @lexW_fieldAddr <|
 And.intro @lexW_field <|
 And.intro @lexW_indexAddr <|
 And.intro @lexW_index <|
 And.intro @lexW_extract <|
 And.intro @lexW_call <|
 And.intro @lexW_pick <|
 And.intro @lexW_some <|
 And.intro @contC_app <|
 And.intro @sameS_app <|
 And.intro @opW_move <|
 And.intro @opW_assign <|
 And.intro @opW_pick <|
 And.intro @opW_alloc <|
 And.intro @opW_box <|
 And.intro @opW_build <|
 And.intro @opW_buildSlice <|
 And.intro @opW_load <|
 And.intro @opW_makeMap <|
 And.intro @opW_lookup <|
 And.intro @opW_lookupK <|
 And.intro @opW_mapUpdate <|
 And.intro @opW_insert <|
 And.intro @opW_store <|
 And.intro @opW_nil <|
 And.intro @opW_binT <|
 And.intro @opW_binI <|
 And.intro @opW_binB <|
 And.intro @opW_binP <|
 And.intro @opW_binN <|
 And.intro @condF_ub <|
 And.intro @opW_unop <|
 And.intro @opW_convert <|
 And.intro @opW_makeFunc <|
 And.intro @opW_makeSlice <|
 And.intro @opW_slice <|
 And.intro @opW_fieldAddr <|
 And.intro @opW_field <|
 And.intro @opW_indexAddr <|
 And.intro @opW_index <|
 And.intro @opW_extract <|
 And.intro @opW_call <|
 And.intro @opW_callT <|
 And.intro @opW_len <|
 And.intro @opW_append <|
 And.intro @opW_copy <|
 And.intro @opW_clear <|
 And.intro @opW_min <|
 And.intro @opW_max <|
 And.intro @Qfin_app <|
 And.intro @trimE_upd <|
 And.intro @trimE_trim <|
 And.intro @trimE_app <|
 And.intro @cellsV_ag <|
 And.intro @cellsV_d <|
 And.intro @cellsV_fu <|
 And.intro @cellsV_so <|
 And.intro @cellsV_rf <|
 And.intro @cellsV_cl <|
 And.intro @true_and <|
 And.intro @and_true <|
 And.intro @true_or <|
 And.intro @or_true <|
 And.intro @Bool.not_true <|
 And.intro @Bool.not_false <|
 And.intro @false_or <|
 And.intro @or_false <|
 And.intro @decide_eq_true_eq <|
 And.intro @true_imp_iff <|
 And.intro @false_imp_iff <|
 And.intro @not_true_eq_false <|
 And.intro @not_false_eq_true <|
 And.intro @decide_eq_false_iff_not <|
 And.intro @Bool.and_self <|
 And.intro @Bool.or_false <|
 And.intro @Bool.false_or <|
 And.intro @Bool.or_true <|
 And.intro @Bool.true_or <|
 And.intro @Bool.and_true <|
 And.intro @Bool.true_and <|
 And.intro @Int.toNat_natCast <|
 And.intro @Int.ofNat_lt <|
 And.intro @Int.natCast_nonneg <|
 And.intro @decide_true <|
 And.intro @decide_false <|
 And.intro @V.d.injEq <|
 And.intro @D.sc.injEq <|
 And.intro @Go.Value.int.injEq <|
 @Go.Value.bool.injEq) :=
 And.intro @codeWp_skip <|
 And.intro @codeWp_region <|
 And.intro @codeWp_draw <|
 And.intro @codeWp_seq <|
 And.intro @codeW_cond <|
 And.intro @codeWp_block <|
 And.intro @codeWp_exit <|
 And.intro @codeWp_ret <|
 And.intro @opsWp_nil <|
 And.intro @opsW_none <|
 And.intro @opsW_some <|
 And.intro @gA_app <|
 And.intro @gB_app <|
 And.intro @hA_app <|
 And.intro @hB_app <|
 And.intro @guardS_some <|
 And.intro @guardV_tt <|
 And.intro @guardV_ff <|
 And.intro @guardV_tf <|
 And.intro @guardV_ft <|
 And.intro @guardV_un <|
 And.intro @guardV_dt <|
 And.intro @guardV_df <|
 And.intro @guardV_ndt <|
 And.intro @guardV_ndf <|
 And.intro @condF_true <|
 And.intro @condF_false <|
 And.intro @condF_dec <|
 And.intro @condF_not <|
 And.intro @condK_true <|
 And.intro @condK_false <|
 And.intro @condK_dec <|
 And.intro @condK_not <|
 And.intro @atS_app <|
 And.intro @unS_app <|
 And.intro @callV_cl <|
 And.intro @cont_app <|
 And.intro @Qn_app <|
 And.intro @Qseq_normal <|
 And.intro @Qseq_ret <|
 And.intro @Qseq_exit <|
 And.intro @Qblk_normal <|
 And.intro @Qblk_ret <|
 And.intro @Qblk_exit <|
 And.intro @lexC_nil <|
 And.intro @lexW_move <|
 And.intro @lexW_assign <|
 And.intro @lexW_alloc <|
 And.intro @lexW_box <|
 And.intro @lexW_build <|
 And.intro @lexW_buildSlice <|
 And.intro @lexW_load <|
 And.intro @lexW_makeMap <|
 And.intro @lexW_lookup <|
 And.intro @lexW_mapUpdate <|
 And.intro @lexW_store <|
 And.intro @lexW_nil <|
 And.intro @lexW_bin <|
 And.intro @lexW_unop <|
 And.intro @lexW_convert <|
 And.intro @lexW_makeFunc <|
 And.intro @lexW_makeSlice <|
 And.intro @lexW_slice <|
 And.intro @lexW_fieldAddr <|
 And.intro @lexW_field <|
 And.intro @lexW_indexAddr <|
 And.intro @lexW_index <|
 And.intro @lexW_extract <|
 And.intro @lexW_call <|
 And.intro @lexW_pick <|
 And.intro @lexW_some <|
 And.intro @contC_app <|
 And.intro @sameS_app <|
 And.intro @opW_move <|
 And.intro @opW_assign <|
 And.intro @opW_pick <|
 And.intro @opW_alloc <|
 And.intro @opW_box <|
 And.intro @opW_build <|
 And.intro @opW_buildSlice <|
 And.intro @opW_load <|
 And.intro @opW_makeMap <|
 And.intro @opW_lookup <|
 And.intro @opW_lookupK <|
 And.intro @opW_mapUpdate <|
 And.intro @opW_insert <|
 And.intro @opW_store <|
 And.intro @opW_nil <|
 And.intro @opW_binT <|
 And.intro @opW_binI <|
 And.intro @opW_binB <|
 And.intro @opW_binP <|
 And.intro @opW_binN <|
 And.intro @condF_ub <|
 And.intro @opW_unop <|
 And.intro @opW_convert <|
 And.intro @opW_makeFunc <|
 And.intro @opW_makeSlice <|
 And.intro @opW_slice <|
 And.intro @opW_fieldAddr <|
 And.intro @opW_field <|
 And.intro @opW_indexAddr <|
 And.intro @opW_index <|
 And.intro @opW_extract <|
 And.intro @opW_call <|
 And.intro @opW_callT <|
 And.intro @opW_len <|
 And.intro @opW_append <|
 And.intro @opW_copy <|
 And.intro @opW_clear <|
 And.intro @opW_min <|
 And.intro @opW_max <|
 And.intro @Qfin_app <|
 And.intro @trimE_upd <|
 And.intro @trimE_trim <|
 And.intro @trimE_app <|
 And.intro @cellsV_ag <|
 And.intro @cellsV_d <|
 And.intro @cellsV_fu <|
 And.intro @cellsV_so <|
 And.intro @cellsV_rf <|
 And.intro @cellsV_cl <|
 And.intro @true_and <|
 And.intro @and_true <|
 And.intro @true_or <|
 And.intro @or_true <|
 And.intro @Bool.not_true <|
 And.intro @Bool.not_false <|
 And.intro @false_or <|
 And.intro @or_false <|
 And.intro @decide_eq_true_eq <|
 And.intro @true_imp_iff <|
 And.intro @false_imp_iff <|
 And.intro @not_true_eq_false <|
 And.intro @not_false_eq_true <|
 And.intro @decide_eq_false_iff_not <|
 And.intro @Bool.and_self <|
 And.intro @Bool.or_false <|
 And.intro @Bool.false_or <|
 And.intro @Bool.or_true <|
 And.intro @Bool.true_or <|
 And.intro @Bool.and_true <|
 And.intro @Bool.true_and <|
 And.intro @Int.toNat_natCast <|
 And.intro @Int.ofNat_lt <|
 And.intro @Int.natCast_nonneg <|
 And.intro @decide_true <|
 And.intro @decide_false <|
 And.intro @V.d.injEq <|
 And.intro @D.sc.injEq <|
 And.intro @Go.Value.int.injEq <|
 @Go.Value.bool.injEq
theorem condS {α β:Type} {A B:α→β→Prop} {e:α} {s:β} {p:Prop} [Decidable p] (h:p→A e s) (k:¬p→B e s):condF (.d (.sc (.bool (decide p)))) A B e s:=by
 rw[condF_dec]; exact⟨h,k⟩
theorem condSb {α β:Type} {A B:α→β→Prop} {e:α} {s:β} {b:Bool} (h:b=true→A e s) (k:b=false→B e s):condF (.d (.sc (.bool b))) A B e s:=by
 rw[condF_gen]; exact⟨h,k⟩
theorem guardS_t {d:Nat} {A B:Env→Prop} {e:Env} {p:Prop} [Decidable p] (h:p→A (updE e d (.d (.sc (.bool true))))) (k:¬p→B (updE e d (.d (.sc (.bool false))))):guardV (.d (.sc (.bool (decide p)))) d true A B e:=by
 rw[guardV_dt]; exact⟨h,k⟩
theorem guardS_f {d:Nat} {A B:Env→Prop} {e:Env} {p:Prop} [Decidable p] (h:p→B (updE e d (.d (.sc (.bool true))))) (k:¬p→A (updE e d (.d (.sc (.bool false))))):guardV (.d (.sc (.bool (decide p)))) d false A B e:=by
 rw[guardV_df]; exact⟨h,k⟩
theorem guardS_nt {d:Nat} {A B:Env→Prop} {e:Env} {p:Prop} [Decidable p] (h:p→B (updE e d (.d (.sc (.bool false))))) (k:¬p→A (updE e d (.d (.sc (.bool true))))):guardV (.d (.sc (.bool (!decide p)))) d true A B e:=by
 rw[guardV_ndt]; exact⟨h,k⟩
theorem guardS_nf {d:Nat} {A B:Env→Prop} {e:Env} {p:Prop} [Decidable p] (h:p→A (updE e d (.d (.sc (.bool false))))) (k:¬p→B (updE e d (.d (.sc (.bool true))))):guardV (.d (.sc (.bool (!decide p)))) d false A B e:=by
 rw[guardV_ndf]; exact⟨h,k⟩
theorem guardS_b {d:Nat} {w:Bool} {A B:Env→Prop} {e:Env} {b:Bool} (h:b=true→guardV (.d (.sc (.bool true))) d w A B e) (k:b=false→guardV (.d (.sc (.bool false))) d w A B e):guardV (.d (.sc (.bool b))) d w A B e:=by
 cases b
 ·exact k rfl
 ·exact h rfl
theorem opt_some {α:Type} {x:α}:(some x).toArray.toList=[x]:=(rfl)
theorem opt_none {α:Type}:(none:Option α).toArray.toList=[]:=(rfl)
theorem opt_map_none {f:Operand→V}:Option.map f none=none:=(rfl)
theorem obnd_none {d:Int}:obnd none d=some d:=(rfl)
theorem obnd_int {k:IntKind} {n d:Int}:obnd (some (.d (.sc (.int k n)))) d=some n:=(rfl)
theorem vsL:type_of% (
 And.intro @opt_some <|
 And.intro @opt_none <|
 And.intro @obnd_none <|
 And.intro @obnd_int <|
 And.intro @opt_map_none <|
 And.intro @codeWp_skip <|
 And.intro @codeWp_region <|
 And.intro @codeWp_draw <|
 And.intro @codeWp_seq <|
 And.intro @codeW_cond <|
 And.intro @codeWp_block <|
 And.intro @codeWp_exit <|
 And.intro @codeWp_ret <|
 And.intro @opsWp_nil <|
 And.intro @opsW_none <|
 And.intro @opsW_some <|
 And.intro @gA_app <|
 And.intro @gB_app <|
 And.intro @hA_app <|
 And.intro @hB_app <|
 And.intro @guardS_some <|
 And.intro @guardV_tt <|
 And.intro @guardV_ff <|
 And.intro @guardV_tf <|
 And.intro @guardV_ft <|
 And.intro @guardV_un <|
 And.intro @condF_true <|
 And.intro @condF_false <|
 And.intro @condF_not <|
 And.intro @condK_true <|
 And.intro @condK_false <|
 And.intro @condK_not <|
 And.intro @atS_app <|
 And.intro @unS_app <|
 And.intro @callV_cl <|
 And.intro @cont_app <|
 And.intro @Qn_app <|
 And.intro @Qseq_normal <|
 And.intro @Qseq_ret <|
 And.intro @Qseq_exit <|
 And.intro @Qblk_normal <|
 And.intro @Qblk_ret <|
 And.intro @Qblk_exit <|
 And.intro @lexC_nil <|
 And.intro @lexW_move <|
 And.intro @lexW_assign <|
 And.intro @lexW_alloc <|
 And.intro @lexW_box <|
 And.intro @lexW_build <|
 And.intro @lexW_buildSlice <|
 And.intro @lexW_load <|
 And.intro @lexW_makeMap <|
 And.intro @lexW_lookup <|
 And.intro @lexW_mapUpdate <|
 And.intro @lexW_store <|
 And.intro @lexW_nil <|
 And.intro @lexW_bin <|
 And.intro @lexW_unop <|
 And.intro @lexW_convert <|
 And.intro @lexW_makeFunc <|
 And.intro @lexW_makeSlice <|
 And.intro @lexW_slice <|
 And.intro @lexW_fieldAddr <|
 And.intro @lexW_field <|
 And.intro @lexW_indexAddr <|
 And.intro @lexW_index <|
 And.intro @lexW_extract <|
 And.intro @lexW_call <|
 And.intro @lexW_pick <|
 And.intro @lexW_some <|
 And.intro @contC_app <|
 And.intro @sameS_app <|
 And.intro @opW_move <|
 And.intro @opW_assign <|
 And.intro @opW_pick <|
 And.intro @opW_alloc <|
 And.intro @opW_box <|
 And.intro @opW_build <|
 And.intro @opW_buildSlice <|
 And.intro @opW_load <|
 And.intro @opW_makeMap <|
 And.intro @opW_lookup <|
 And.intro @opW_lookupK <|
 And.intro @opW_mapUpdate <|
 And.intro @opW_insert <|
 And.intro @opW_store <|
 And.intro @opW_nil <|
 And.intro @opW_binT <|
 And.intro @opW_binI <|
 And.intro @opW_binB <|
 And.intro @opW_binP <|
 And.intro @opW_binN <|
 And.intro @condF_ub <|
 And.intro @opW_unop <|
 And.intro @opW_convert <|
 And.intro @opW_makeFunc <|
 And.intro @opW_makeSlice <|
 And.intro @opW_slice <|
 And.intro @opW_fieldAddr <|
 And.intro @opW_field <|
 And.intro @opW_indexAddr <|
 And.intro @opW_index <|
 And.intro @opW_extract <|
 And.intro @opW_call <|
 And.intro @opW_callT <|
 And.intro @opW_len <|
 And.intro @opW_append <|
 And.intro @opW_copy <|
 And.intro @opW_clear <|
 And.intro @opW_min <|
 And.intro @opW_max <|
 And.intro @Qfin_app <|
 And.intro @trimE_upd <|
 And.intro @trimE_trim <|
 And.intro @trimE_app <|
 And.intro @cellsV_ag <|
 And.intro @cellsV_d <|
 And.intro @cellsV_fu <|
 And.intro @cellsV_so <|
 And.intro @cellsV_rf <|
 And.intro @cellsV_cl <|
 And.intro @true_and <|
 And.intro @and_true <|
 And.intro @true_or <|
 And.intro @or_true <|
 And.intro @Bool.not_true <|
 And.intro @Bool.not_false <|
 And.intro @false_or <|
 And.intro @or_false <|
 And.intro @decide_eq_true_eq <|
 And.intro @true_imp_iff <|
 And.intro @false_imp_iff <|
 And.intro @not_true_eq_false <|
 And.intro @not_false_eq_true <|
 And.intro @decide_eq_false_iff_not <|
 And.intro @Bool.and_self <|
 And.intro @Bool.or_false <|
 And.intro @Bool.false_or <|
 And.intro @Bool.or_true <|
 And.intro @Bool.true_or <|
 And.intro @Bool.and_true <|
 And.intro @Bool.true_and <|
 And.intro @Int.toNat_natCast <|
 And.intro @Int.ofNat_lt <|
 And.intro @Int.natCast_nonneg <|
 And.intro @decide_true <|
 And.intro @decide_false <|
 And.intro @V.d.injEq <|
 And.intro @D.sc.injEq <|
 And.intro @Go.Value.int.injEq <|
 @Go.Value.bool.injEq) :=
 And.intro @opt_some <|
 And.intro @opt_none <|
 And.intro @obnd_none <|
 And.intro @obnd_int <|
 And.intro @opt_map_none <|
 And.intro @codeWp_skip <|
 And.intro @codeWp_region <|
 And.intro @codeWp_draw <|
 And.intro @codeWp_seq <|
 And.intro @codeW_cond <|
 And.intro @codeWp_block <|
 And.intro @codeWp_exit <|
 And.intro @codeWp_ret <|
 And.intro @opsWp_nil <|
 And.intro @opsW_none <|
 And.intro @opsW_some <|
 And.intro @gA_app <|
 And.intro @gB_app <|
 And.intro @hA_app <|
 And.intro @hB_app <|
 And.intro @guardS_some <|
 And.intro @guardV_tt <|
 And.intro @guardV_ff <|
 And.intro @guardV_tf <|
 And.intro @guardV_ft <|
 And.intro @guardV_un <|
 And.intro @condF_true <|
 And.intro @condF_false <|
 And.intro @condF_not <|
 And.intro @condK_true <|
 And.intro @condK_false <|
 And.intro @condK_not <|
 And.intro @atS_app <|
 And.intro @unS_app <|
 And.intro @callV_cl <|
 And.intro @cont_app <|
 And.intro @Qn_app <|
 And.intro @Qseq_normal <|
 And.intro @Qseq_ret <|
 And.intro @Qseq_exit <|
 And.intro @Qblk_normal <|
 And.intro @Qblk_ret <|
 And.intro @Qblk_exit <|
 And.intro @lexC_nil <|
 And.intro @lexW_move <|
 And.intro @lexW_assign <|
 And.intro @lexW_alloc <|
 And.intro @lexW_box <|
 And.intro @lexW_build <|
 And.intro @lexW_buildSlice <|
 And.intro @lexW_load <|
 And.intro @lexW_makeMap <|
 And.intro @lexW_lookup <|
 And.intro @lexW_mapUpdate <|
 And.intro @lexW_store <|
 And.intro @lexW_nil <|
 And.intro @lexW_bin <|
 And.intro @lexW_unop <|
 And.intro @lexW_convert <|
 And.intro @lexW_makeFunc <|
 And.intro @lexW_makeSlice <|
 And.intro @lexW_slice <|
 And.intro @lexW_fieldAddr <|
 And.intro @lexW_field <|
 And.intro @lexW_indexAddr <|
 And.intro @lexW_index <|
 And.intro @lexW_extract <|
 And.intro @lexW_call <|
 And.intro @lexW_pick <|
 And.intro @lexW_some <|
 And.intro @contC_app <|
 And.intro @sameS_app <|
 And.intro @opW_move <|
 And.intro @opW_assign <|
 And.intro @opW_pick <|
 And.intro @opW_alloc <|
 And.intro @opW_box <|
 And.intro @opW_build <|
 And.intro @opW_buildSlice <|
 And.intro @opW_load <|
 And.intro @opW_makeMap <|
 And.intro @opW_lookup <|
 And.intro @opW_lookupK <|
 And.intro @opW_mapUpdate <|
 And.intro @opW_insert <|
 And.intro @opW_store <|
 And.intro @opW_nil <|
 And.intro @opW_binT <|
 And.intro @opW_binI <|
 And.intro @opW_binB <|
 And.intro @opW_binP <|
 And.intro @opW_binN <|
 And.intro @condF_ub <|
 And.intro @opW_unop <|
 And.intro @opW_convert <|
 And.intro @opW_makeFunc <|
 And.intro @opW_makeSlice <|
 And.intro @opW_slice <|
 And.intro @opW_fieldAddr <|
 And.intro @opW_field <|
 And.intro @opW_indexAddr <|
 And.intro @opW_index <|
 And.intro @opW_extract <|
 And.intro @opW_call <|
 And.intro @opW_callT <|
 And.intro @opW_len <|
 And.intro @opW_append <|
 And.intro @opW_copy <|
 And.intro @opW_clear <|
 And.intro @opW_min <|
 And.intro @opW_max <|
 And.intro @Qfin_app <|
 And.intro @trimE_upd <|
 And.intro @trimE_trim <|
 And.intro @trimE_app <|
 And.intro @cellsV_ag <|
 And.intro @cellsV_d <|
 And.intro @cellsV_fu <|
 And.intro @cellsV_so <|
 And.intro @cellsV_rf <|
 And.intro @cellsV_cl <|
 And.intro @true_and <|
 And.intro @and_true <|
 And.intro @true_or <|
 And.intro @or_true <|
 And.intro @Bool.not_true <|
 And.intro @Bool.not_false <|
 And.intro @false_or <|
 And.intro @or_false <|
 And.intro @decide_eq_true_eq <|
 And.intro @true_imp_iff <|
 And.intro @false_imp_iff <|
 And.intro @not_true_eq_false <|
 And.intro @not_false_eq_true <|
 And.intro @decide_eq_false_iff_not <|
 And.intro @Bool.and_self <|
 And.intro @Bool.or_false <|
 And.intro @Bool.false_or <|
 And.intro @Bool.or_true <|
 And.intro @Bool.true_or <|
 And.intro @Bool.and_true <|
 And.intro @Bool.true_and <|
 And.intro @Int.toNat_natCast <|
 And.intro @Int.ofNat_lt <|
 And.intro @Int.natCast_nonneg <|
 And.intro @decide_true <|
 And.intro @decide_false <|
 And.intro @V.d.injEq <|
 And.intro @D.sc.injEq <|
 And.intro @Go.Value.int.injEq <|
 @Go.Value.bool.injEq
end Go.VL
namespace Go.VL
theorem updE_app {e:Env} {d t:Nat} {v:V}:updE e d v t=if t=d then v else e t:=(rfl)
theorem vsC:type_of% (
 And.intro @eq_self.{1} <|
 And.intro @hole.eq_1 <|
 And.intro @stepC.eq_1 <|
 And.intro @callK.eq_1 <|
 And.intro @footOf.eq_1 <|
 And.intro @footOf.eq_2 <|
 And.intro @allW.eq_1 <|
 And.intro @allW.eq_2 <|
 And.intro @roFree.eq_1 <|
 And.intro @roIn.eq_1 <|
 And.intro @roOp.eq_1 <|
 And.intro @opReads.eq_1 <|
 And.intro @opAt.eq_1 <|
 And.intro @opIn.eq_1 <|
 And.intro @opGr.eq_1 <|
 And.intro @mpIds.eq_1 <|
 And.intro @mpIds.eq_2 <|
 And.intro @vIds.eq_1 <|
 And.intro @vIds.eq_2 <|
 And.intro @vIds.eq_3 <|
 And.intro @vIds.eq_4 <|
 And.intro @vIds.eq_5 <|
 And.intro @Go.Op.operands.eq_1 <|
 And.intro @Go.Op.operands.eq_2 <|
 And.intro @Go.Op.operands.eq_3 <|
 And.intro @Go.Op.operands.eq_4 <|
 And.intro @Go.Op.operands.eq_5 <|
 And.intro @Go.Op.operands.eq_6 <|
 And.intro @Go.Op.operands.eq_7 <|
 And.intro @Go.Op.operands.eq_8 <|
 And.intro @Go.Op.operands.eq_9 <|
 And.intro @Go.Op.operands.eq_10 <|
 And.intro @Go.Op.operands.eq_11 <|
 And.intro @Go.Op.operands.eq_12 <|
 And.intro @Go.Op.operands.eq_13 <|
 And.intro @Go.Op.operands.eq_14 <|
 And.intro @Go.Op.operands.eq_15 <|
 And.intro @Go.Op.operands.eq_16 <|
 And.intro @Go.Op.operands.eq_17 <|
 And.intro @Go.Op.operands.eq_18 <|
 And.intro @Go.Op.operands.eq_19 <|
 And.intro @Go.Op.operands.eq_20 <|
 And.intro @Go.Op.operands.eq_21 <|
 And.intro @Go.Op.operands.eq_22 <|
 And.intro @Go.Op.operands.eq_23 <|
 And.intro @Go.Op.operands.eq_24 <|
 And.intro @Go.Op.operands.eq_25 <|
 And.intro @Go.Op.operands.eq_26 <|
 And.intro @Go.Op.operands.eq_27 <|
 And.intro @Go.Op.operands.eq_28 <|
 And.intro @Go.Op.operands.eq_29 <|
 And.intro @Go.Op.operands.eq_30 <|
 And.intro @Go.Op.operands.eq_31 <|
 And.intro @Go.Op.operands.eq_32 <|
 And.intro @Go.Op.operands.eq_33 <|
 And.intro @Go.Op.operands.eq_34 <|
 And.intro @Go.Op.operands.eq_35 <|
 And.intro @Go.Op.operands.eq_36 <|
 And.intro @Go.Op.operands.eq_37 <|
 And.intro @Go.Op.operands.eq_38 <|
 And.intro @Go.Op.operands.eq_39 <|
 And.intro @Go.Op.operands.eq_40 <|
 And.intro @Go.Op.operands.eq_41 <|
 And.intro @Go.Op.operands.eq_42 <|
 And.intro @Go.Op.operands.eq_43 <|
 And.intro @Go.Call.operands.eq_1 <|
 And.intro @Array.toList_append.{0} <|
 And.intro @nilSlWp.eq_1 <|
 And.intro @nilSlWp.eq_2 <|
 And.intro @nilSlWp.eq_3 <|
 And.intro @nilSlWp.eq_4 <|
 And.intro @nilSlWp.eq_5 <|
 And.intro @nilSlWp.eq_6 <|
 And.intro @nilSlWp.eq_7 <|
 And.intro @Qend.eq_1 <|
 And.intro @Qend.eq_2 <|
 And.intro @Qend.eq_3 <|
 And.intro @gslot.eq_1 <|
 And.intro @dstOk.eq_1 <|
 And.intro @dstOk.eq_2 <|
 And.intro @updO.eq_1 <|
 And.intro @updO.eq_2 <|
 And.intro @updE_app <|
 And.intro @ev.eq_1 <|
 And.intro @ev.eq_2 <|
 And.intro @ev.eq_3 <|
 And.intro @ev.eq_4 <|
 And.intro @cvA.eq_1 <|
 And.intro @cvA.eq_2 <|
 And.intro @cv.eq_1 <|
 And.intro @cv.eq_2 <|
 And.intro @cv.eq_3 <|
 And.intro @cv.eq_4 <|
 And.intro @binWp.eq_1 <|
 And.intro @isShift.eq_1 <|
 And.intro @isShift.eq_2 <|
 And.intro @isShift.eq_3 <|
 And.intro @shiftWp.eq_1 <|
 And.intro @shiftWp.eq_2 <|
 And.intro @binWp0.eq_1 <|
 And.intro @binWp0.eq_2 <|
 And.intro @binWp0.eq_3 <|
 And.intro @binWp0.eq_4 <|
 And.intro @binWp0.eq_5 <|
 And.intro @binWp0.eq_6 <|
 And.intro @binWp0.eq_7 <|
 And.intro @binWp0.eq_8 <|
 And.intro @binWp0.eq_9 <|
 And.intro @binWp0.eq_10 <|
 And.intro @binWp0.eq_11 <|
 And.intro @binWp0.eq_12 <|
 And.intro @intWp.eq_1 <|
 And.intro @intWp.eq_2 <|
 And.intro @intWp.eq_3 <|
 And.intro @intWp.eq_4 <|
 And.intro @intWp.eq_5 <|
 And.intro @intWp.eq_6 <|
 And.intro @intWp.eq_7 <|
 And.intro @intWp.eq_8 <|
 And.intro @intWp.eq_9 <|
 And.intro @intWp.eq_10 <|
 And.intro @intWp.eq_11 <|
 And.intro @intWp.eq_12 <|
 And.intro @intWp.eq_13 <|
 And.intro @intWp.eq_14 <|
 And.intro @intWp.eq_15 <|
 And.intro @unWp.eq_1 <|
 And.intro @unWp.eq_2 <|
 And.intro @unWp.eq_3 <|
 And.intro @nilWp.eq_1 <|
 And.intro @nilWp.eq_2 <|
 And.intro @nilWp.eq_3 <|
 And.intro @nilWp.eq_4 <|
 And.intro @nilWp.eq_5 <|
 And.intro @nilWp.eq_6 <|
 And.intro @resWp.eq_1 <|
 And.intro @resL.eq_1 <|
 And.intro @resL.eq_2 <|
 And.intro @resV.eq_1 <|
 And.intro @resV.eq_2 <|
 And.intro @finWp.eq_1 <|
 And.intro @frzV.eq_1 <|
 And.intro @frzV.eq_2 <|
 And.intro @frzV.eq_3 <|
 And.intro @frzV.eq_4 <|
 And.intro @frzV.eq_5 <|
 And.intro @frzV.eq_6 <|
 And.intro @frzV.eq_7 <|
 And.intro @frzV.eq_8 <|
 And.intro @frzV.eq_9 <|
 And.intro @frzV.eq_10 <|
 And.intro @frzV.eq_11 <|
 And.intro @frzV.eq_12 <|
 And.intro @frzV.go.eq_1 <|
 And.intro @frzV.go.eq_2 <|
 And.intro @frzD.eq_1 <|
 And.intro @frzD.eq_2 <|
 And.intro @frzD.eq_3 <|
 And.intro @frzD.eq_4 <|
 And.intro @frzD.eq_5 <|
 And.intro @frzD.eq_6 <|
 And.intro @frzD.eq_7 <|
 And.intro @frzD.eq_8 <|
 And.intro @envOf.eq_1 <|
 And.intro @envOf.eq_2 <|
 And.intro @envOf.eq_3 <|
 And.intro @loadWp.eq_1 <|
 And.intro @mkVWp.eq_1 <|
 And.intro @mkVWp.eq_2 <|
 And.intro @mkVWp.eq_3 <|
 And.intro @storeWp.eq_1 <|
 And.intro @boxWp.eq_1 <|
 And.intro @allocWp.eq_1 <|
 And.intro @lenWp.eq_1 <|
 And.intro @lenWp.eq_2 <|
 And.intro @lenWp.eq_3 <|
 And.intro @lenWp.eq_4 <|
 And.intro @lenWp.eq_5 <|
 And.intro @indexAddrWp.eq_1 <|
 And.intro @indexAddrWp.eq_2 <|
 And.intro @fieldAddrWp.eq_1 <|
 And.intro @fieldWp.eq_1 <|
 And.intro @fieldWp.eq_2 <|
 And.intro @indexWp.eq_1 <|
 And.intro @indexWp.eq_2 <|
 And.intro @indexWp.eq_3 <|
 And.intro @partWp.eq_1 <|
 And.intro @elP.eq_1 <|
 And.intro @atG.eq_1 <|
 And.intro @tupWp.eq_1 <|
 And.intro @tupWp.eq_2 <|
 And.intro @isPtr.eq_1 <|
 And.intro @isPtr.eq_2 <|
 And.intro @isPtr.eq_3 <|
 And.intro @isPtr.eq_4 <|
 And.intro @List.map_cons.{0,0} <|
 And.intro @List.map_nil.{0,0} <|
 And.intro @List.toList_toArray.{0} <|
 And.intro @List.getElem?_cons_zero.{0} <|
 And.intro @List.getElem?_cons_succ.{0} <|
 And.intro @List.take_zero.{0} <|
 And.intro @List.all_nil.{0} <|
 And.intro @List.length_cons.{0} <|
 And.intro @List.length_nil.{0} <|
 And.intro @List.drop_zero.{0} <|
 And.intro @List.drop_succ_cons.{0} <|
 And.intro @if_true.{1} <|
 And.intro @if_false.{1} <|
 And.intro @List.nil_append.{0} <|
 And.intro @List.cons_append.{0} <|
 And.intro @ne_eq.{1} <|
 And.intro @buildWp.eq_1 <|
 And.intro @buildSliceWp.eq_1 <|
 And.intro @fillV.eq_1 <|
 And.intro @fillV.eq_2 <|
 And.intro @fillE.eq_1 <|
 And.intro @fillE.eq_2 <|
 And.intro @allD.eq_1 <|
 And.intro @toD.eq_1 <|
 And.intro @toD.eq_2 <|
 And.intro @toD.eq_3 <|
 And.intro @makeSliceWp.eq_1 <|
 And.intro @elsV.eq_1 <|
 And.intro @elsV.eq_2 <|
 And.intro @elsV.eq_3 <|
 And.intro @elsV.eq_4 <|
 And.intro @objOk.eq_1 <|
 And.intro @refsV.eq_1 <|
 And.intro @refsV.eq_2 <|
 And.intro @refsV.eq_3 <|
 And.intro @refsV.eq_4 <|
 And.intro @refsV.eq_5 <|
 And.intro @refsV.eq_6 <|
 And.intro @refsV.eq_7 <|
 And.intro @refsV.eq_8 <|
 And.intro @refsV.eq_9 <|
 And.intro @refsV.eq_10 <|
 And.intro @refsV.eq_11 <|
 And.intro @refsV.eq_12 <|
 And.intro @refsV.go.eq_1 <|
 And.intro @refsV.go.eq_2 <|
 And.intro @sliceWp.eq_1 <|
 And.intro @obnd.eq_1 <|
 And.intro @obnd.eq_2 <|
 And.intro @intV.eq_1 <|
 And.intro @intV.eq_2 <|
 And.intro @convWp.eq_1 <|
 And.intro @convWp.eq_2 <|
 And.intro @minmaxWp.eq_1 <|
 And.intro @minmaxWp.eq_2 <|
 And.intro @minmaxWp.eq_3 <|
 And.intro @List.replicate.eq_1.{0} <|
 And.intro @List.replicate.eq_2.{0} <|
 And.intro @List.mapM_cons.{0,0,0} <|
 And.intro @List.mapM_nil.{0,0,0} <|
 And.intro @Option.pure_def.{0} <|
 And.intro @Option.bind_eq_bind.{0} <|
 And.intro @Option.bind_some.{0,0} <|
 And.intro @putCells.eq_1 <|
 And.intro @List.set_cons_zero.{0} <|
 And.intro @List.set_cons_succ.{0} <|
 And.intro @List.take_succ_cons.{0} <|
 And.intro @List.contains_nil.{0} <|
 And.intro @List.contains_cons.{0} <|
 And.intro @List.flatMap_cons.{0,0} <|
 And.intro @List.flatMap_nil.{0,0} <|
 And.intro @List.all_cons.{0} <|
 And.intro @List.append_nil.{0} <|
 And.intro @List.length_map.{0,0} <|
 And.intro @List.getElem?_map.{0,0} <|
 And.intro @Option.map_some.{0,0} <|
 And.intro @lookupWp.eq_1 <|
 And.intro @updWp.eq_1 <|
 And.intro @makeMapWp.eq_1 <|
 And.intro @arrEqWp.eq_1 <|
 And.intro @arrEqWp.eq_2 <|
 And.intro @arrEqWp.eq_3 <|
 And.intro @arrEqWp.eq_4 <|
 And.intro @Go.VL.rawAt_el <|
 And.intro @Go.VL.rawAt_rf <|
 And.intro @Go.VL.rawAt_pp <|
 And.intro @Go.VL.rawAt_raw <|
 And.intro @Go.VL.rawIn_0 <|
 And.intro @Go.VL.rawIn_add <|
 And.intro @Go.VL.callV_d <|
 And.intro @Go.VL.callV_f <|
 And.intro @Go.VL.asCl_cl <|
 And.intro @Go.VL.asCl_d <|
 And.intro @Go.VL.asCl_f <|
 And.intro @Go.VL.rawPp_pp <|
 And.intro @Go.VL.liftV_raw <|
 And.intro @Go.VL.liftV_int <|
 And.intro @Go.VL.liftV_bool <|
 And.intro @Go.VL.liftV_nil <|
 And.intro @Go.VL.liftV_sl <|
 And.intro @Go.VL.liftV_el1 <|
 And.intro @Go.VL.liftV_el2 <|
 And.intro @Go.VL.liftV_cl <|
 And.intro @Go.VL.liftG_nil <|
 And.intro @Go.VL.liftG_cons <|
 @arSliceWp.eq_1) :=
 And.intro @eq_self.{1} <|
 And.intro @hole.eq_1 <|
 And.intro @stepC.eq_1 <|
 And.intro @callK.eq_1 <|
 And.intro @footOf.eq_1 <|
 And.intro @footOf.eq_2 <|
 And.intro @allW.eq_1 <|
 And.intro @allW.eq_2 <|
 And.intro @roFree.eq_1 <|
 And.intro @roIn.eq_1 <|
 And.intro @roOp.eq_1 <|
 And.intro @opReads.eq_1 <|
 And.intro @opAt.eq_1 <|
 And.intro @opIn.eq_1 <|
 And.intro @opGr.eq_1 <|
 And.intro @mpIds.eq_1 <|
 And.intro @mpIds.eq_2 <|
 And.intro @vIds.eq_1 <|
 And.intro @vIds.eq_2 <|
 And.intro @vIds.eq_3 <|
 And.intro @vIds.eq_4 <|
 And.intro @vIds.eq_5 <|
 And.intro @Go.Op.operands.eq_1 <|
 And.intro @Go.Op.operands.eq_2 <|
 And.intro @Go.Op.operands.eq_3 <|
 And.intro @Go.Op.operands.eq_4 <|
 And.intro @Go.Op.operands.eq_5 <|
 And.intro @Go.Op.operands.eq_6 <|
 And.intro @Go.Op.operands.eq_7 <|
 And.intro @Go.Op.operands.eq_8 <|
 And.intro @Go.Op.operands.eq_9 <|
 And.intro @Go.Op.operands.eq_10 <|
 And.intro @Go.Op.operands.eq_11 <|
 And.intro @Go.Op.operands.eq_12 <|
 And.intro @Go.Op.operands.eq_13 <|
 And.intro @Go.Op.operands.eq_14 <|
 And.intro @Go.Op.operands.eq_15 <|
 And.intro @Go.Op.operands.eq_16 <|
 And.intro @Go.Op.operands.eq_17 <|
 And.intro @Go.Op.operands.eq_18 <|
 And.intro @Go.Op.operands.eq_19 <|
 And.intro @Go.Op.operands.eq_20 <|
 And.intro @Go.Op.operands.eq_21 <|
 And.intro @Go.Op.operands.eq_22 <|
 And.intro @Go.Op.operands.eq_23 <|
 And.intro @Go.Op.operands.eq_24 <|
 And.intro @Go.Op.operands.eq_25 <|
 And.intro @Go.Op.operands.eq_26 <|
 And.intro @Go.Op.operands.eq_27 <|
 And.intro @Go.Op.operands.eq_28 <|
 And.intro @Go.Op.operands.eq_29 <|
 And.intro @Go.Op.operands.eq_30 <|
 And.intro @Go.Op.operands.eq_31 <|
 And.intro @Go.Op.operands.eq_32 <|
 And.intro @Go.Op.operands.eq_33 <|
 And.intro @Go.Op.operands.eq_34 <|
 And.intro @Go.Op.operands.eq_35 <|
 And.intro @Go.Op.operands.eq_36 <|
 And.intro @Go.Op.operands.eq_37 <|
 And.intro @Go.Op.operands.eq_38 <|
 And.intro @Go.Op.operands.eq_39 <|
 And.intro @Go.Op.operands.eq_40 <|
 And.intro @Go.Op.operands.eq_41 <|
 And.intro @Go.Op.operands.eq_42 <|
 And.intro @Go.Op.operands.eq_43 <|
 And.intro @Go.Call.operands.eq_1 <|
 And.intro @Array.toList_append.{0} <|
 And.intro @nilSlWp.eq_1 <|
 And.intro @nilSlWp.eq_2 <|
 And.intro @nilSlWp.eq_3 <|
 And.intro @nilSlWp.eq_4 <|
 And.intro @nilSlWp.eq_5 <|
 And.intro @nilSlWp.eq_6 <|
 And.intro @nilSlWp.eq_7 <|
 And.intro @Qend.eq_1 <|
 And.intro @Qend.eq_2 <|
 And.intro @Qend.eq_3 <|
 And.intro @gslot.eq_1 <|
 And.intro @dstOk.eq_1 <|
 And.intro @dstOk.eq_2 <|
 And.intro @updO.eq_1 <|
 And.intro @updO.eq_2 <|
 And.intro @updE_app <|
 And.intro @ev.eq_1 <|
 And.intro @ev.eq_2 <|
 And.intro @ev.eq_3 <|
 And.intro @ev.eq_4 <|
 And.intro @cvA.eq_1 <|
 And.intro @cvA.eq_2 <|
 And.intro @cv.eq_1 <|
 And.intro @cv.eq_2 <|
 And.intro @cv.eq_3 <|
 And.intro @cv.eq_4 <|
 And.intro @binWp.eq_1 <|
 And.intro @isShift.eq_1 <|
 And.intro @isShift.eq_2 <|
 And.intro @isShift.eq_3 <|
 And.intro @shiftWp.eq_1 <|
 And.intro @shiftWp.eq_2 <|
 And.intro @binWp0.eq_1 <|
 And.intro @binWp0.eq_2 <|
 And.intro @binWp0.eq_3 <|
 And.intro @binWp0.eq_4 <|
 And.intro @binWp0.eq_5 <|
 And.intro @binWp0.eq_6 <|
 And.intro @binWp0.eq_7 <|
 And.intro @binWp0.eq_8 <|
 And.intro @binWp0.eq_9 <|
 And.intro @binWp0.eq_10 <|
 And.intro @binWp0.eq_11 <|
 And.intro @binWp0.eq_12 <|
 And.intro @intWp.eq_1 <|
 And.intro @intWp.eq_2 <|
 And.intro @intWp.eq_3 <|
 And.intro @intWp.eq_4 <|
 And.intro @intWp.eq_5 <|
 And.intro @intWp.eq_6 <|
 And.intro @intWp.eq_7 <|
 And.intro @intWp.eq_8 <|
 And.intro @intWp.eq_9 <|
 And.intro @intWp.eq_10 <|
 And.intro @intWp.eq_11 <|
 And.intro @intWp.eq_12 <|
 And.intro @intWp.eq_13 <|
 And.intro @intWp.eq_14 <|
 And.intro @intWp.eq_15 <|
 And.intro @unWp.eq_1 <|
 And.intro @unWp.eq_2 <|
 And.intro @unWp.eq_3 <|
 And.intro @nilWp.eq_1 <|
 And.intro @nilWp.eq_2 <|
 And.intro @nilWp.eq_3 <|
 And.intro @nilWp.eq_4 <|
 And.intro @nilWp.eq_5 <|
 And.intro @nilWp.eq_6 <|
 And.intro @resWp.eq_1 <|
 And.intro @resL.eq_1 <|
 And.intro @resL.eq_2 <|
 And.intro @resV.eq_1 <|
 And.intro @resV.eq_2 <|
 And.intro @finWp.eq_1 <|
 And.intro @frzV.eq_1 <|
 And.intro @frzV.eq_2 <|
 And.intro @frzV.eq_3 <|
 And.intro @frzV.eq_4 <|
 And.intro @frzV.eq_5 <|
 And.intro @frzV.eq_6 <|
 And.intro @frzV.eq_7 <|
 And.intro @frzV.eq_8 <|
 And.intro @frzV.eq_9 <|
 And.intro @frzV.eq_10 <|
 And.intro @frzV.eq_11 <|
 And.intro @frzV.eq_12 <|
 And.intro @frzV.go.eq_1 <|
 And.intro @frzV.go.eq_2 <|
 And.intro @frzD.eq_1 <|
 And.intro @frzD.eq_2 <|
 And.intro @frzD.eq_3 <|
 And.intro @frzD.eq_4 <|
 And.intro @frzD.eq_5 <|
 And.intro @frzD.eq_6 <|
 And.intro @frzD.eq_7 <|
 And.intro @frzD.eq_8 <|
 And.intro @envOf.eq_1 <|
 And.intro @envOf.eq_2 <|
 And.intro @envOf.eq_3 <|
 And.intro @loadWp.eq_1 <|
 And.intro @mkVWp.eq_1 <|
 And.intro @mkVWp.eq_2 <|
 And.intro @mkVWp.eq_3 <|
 And.intro @storeWp.eq_1 <|
 And.intro @boxWp.eq_1 <|
 And.intro @allocWp.eq_1 <|
 And.intro @lenWp.eq_1 <|
 And.intro @lenWp.eq_2 <|
 And.intro @lenWp.eq_3 <|
 And.intro @lenWp.eq_4 <|
 And.intro @lenWp.eq_5 <|
 And.intro @indexAddrWp.eq_1 <|
 And.intro @indexAddrWp.eq_2 <|
 And.intro @fieldAddrWp.eq_1 <|
 And.intro @fieldWp.eq_1 <|
 And.intro @fieldWp.eq_2 <|
 And.intro @indexWp.eq_1 <|
 And.intro @indexWp.eq_2 <|
 And.intro @indexWp.eq_3 <|
 And.intro @partWp.eq_1 <|
 And.intro @elP.eq_1 <|
 And.intro @atG.eq_1 <|
 And.intro @tupWp.eq_1 <|
 And.intro @tupWp.eq_2 <|
 And.intro @isPtr.eq_1 <|
 And.intro @isPtr.eq_2 <|
 And.intro @isPtr.eq_3 <|
 And.intro @isPtr.eq_4 <|
 And.intro @List.map_cons.{0,0} <|
 And.intro @List.map_nil.{0,0} <|
 And.intro @List.toList_toArray.{0} <|
 And.intro @List.getElem?_cons_zero.{0} <|
 And.intro @List.getElem?_cons_succ.{0} <|
 And.intro @List.take_zero.{0} <|
 And.intro @List.all_nil.{0} <|
 And.intro @List.length_cons.{0} <|
 And.intro @List.length_nil.{0} <|
 And.intro @List.drop_zero.{0} <|
 And.intro @List.drop_succ_cons.{0} <|
 And.intro @if_true.{1} <|
 And.intro @if_false.{1} <|
 And.intro @List.nil_append.{0} <|
 And.intro @List.cons_append.{0} <|
 And.intro @ne_eq.{1} <|
 And.intro @buildWp.eq_1 <|
 And.intro @buildSliceWp.eq_1 <|
 And.intro @fillV.eq_1 <|
 And.intro @fillV.eq_2 <|
 And.intro @fillE.eq_1 <|
 And.intro @fillE.eq_2 <|
 And.intro @allD.eq_1 <|
 And.intro @toD.eq_1 <|
 And.intro @toD.eq_2 <|
 And.intro @toD.eq_3 <|
 And.intro @makeSliceWp.eq_1 <|
 And.intro @elsV.eq_1 <|
 And.intro @elsV.eq_2 <|
 And.intro @elsV.eq_3 <|
 And.intro @elsV.eq_4 <|
 And.intro @objOk.eq_1 <|
 And.intro @refsV.eq_1 <|
 And.intro @refsV.eq_2 <|
 And.intro @refsV.eq_3 <|
 And.intro @refsV.eq_4 <|
 And.intro @refsV.eq_5 <|
 And.intro @refsV.eq_6 <|
 And.intro @refsV.eq_7 <|
 And.intro @refsV.eq_8 <|
 And.intro @refsV.eq_9 <|
 And.intro @refsV.eq_10 <|
 And.intro @refsV.eq_11 <|
 And.intro @refsV.eq_12 <|
 And.intro @refsV.go.eq_1 <|
 And.intro @refsV.go.eq_2 <|
 And.intro @sliceWp.eq_1 <|
 And.intro @obnd.eq_1 <|
 And.intro @obnd.eq_2 <|
 And.intro @intV.eq_1 <|
 And.intro @intV.eq_2 <|
 And.intro @convWp.eq_1 <|
 And.intro @convWp.eq_2 <|
 And.intro @minmaxWp.eq_1 <|
 And.intro @minmaxWp.eq_2 <|
 And.intro @minmaxWp.eq_3 <|
 And.intro @List.replicate.eq_1.{0} <|
 And.intro @List.replicate.eq_2.{0} <|
 And.intro @List.mapM_cons.{0,0,0} <|
 And.intro @List.mapM_nil.{0,0,0} <|
 And.intro @Option.pure_def.{0} <|
 And.intro @Option.bind_eq_bind.{0} <|
 And.intro @Option.bind_some.{0,0} <|
 And.intro @putCells.eq_1 <|
 And.intro @List.set_cons_zero.{0} <|
 And.intro @List.set_cons_succ.{0} <|
 And.intro @List.take_succ_cons.{0} <|
 And.intro @List.contains_nil.{0} <|
 And.intro @List.contains_cons.{0} <|
 And.intro @List.flatMap_cons.{0,0} <|
 And.intro @List.flatMap_nil.{0,0} <|
 And.intro @List.all_cons.{0} <|
 And.intro @List.append_nil.{0} <|
 And.intro @List.length_map.{0,0} <|
 And.intro @List.getElem?_map.{0,0} <|
 And.intro @Option.map_some.{0,0} <|
 And.intro @lookupWp.eq_1 <|
 And.intro @updWp.eq_1 <|
 And.intro @makeMapWp.eq_1 <|
 And.intro @arrEqWp.eq_1 <|
 And.intro @arrEqWp.eq_2 <|
 And.intro @arrEqWp.eq_3 <|
 And.intro @arrEqWp.eq_4 <|
 And.intro @Go.VL.rawAt_el <|
 And.intro @Go.VL.rawAt_rf <|
 And.intro @Go.VL.rawAt_pp <|
 And.intro @Go.VL.rawAt_raw <|
 And.intro @Go.VL.rawIn_0 <|
 And.intro @Go.VL.rawIn_add <|
 And.intro @Go.VL.callV_d <|
 And.intro @Go.VL.callV_f <|
 And.intro @Go.VL.asCl_cl <|
 And.intro @Go.VL.asCl_d <|
 And.intro @Go.VL.asCl_f <|
 And.intro @Go.VL.rawPp_pp <|
 And.intro @Go.VL.liftV_raw <|
 And.intro @Go.VL.liftV_int <|
 And.intro @Go.VL.liftV_bool <|
 And.intro @Go.VL.liftV_nil <|
 And.intro @Go.VL.liftV_sl <|
 And.intro @Go.VL.liftV_el1 <|
 And.intro @Go.VL.liftV_el2 <|
 And.intro @Go.VL.liftV_cl <|
 And.intro @Go.VL.liftG_nil <|
 And.intro @Go.VL.liftG_cons <|
 @arSliceWp.eq_1
theorem call_map {P:Program} {f:FuncId} (ρ:List Nat) {cargs args:List V} {s exts exts':List Obj} {r r':V} {K:V→List Obj→Prop} (h:callWp P f cargs exts fun v s'=>v=r∧s'=exts') (hnd:ρ.Nodup) (hl:exts'.length=exts.length)
  (hs:ρ.map (fun i=>s[i]?)=exts.map (fun o=>some (renO ρ o))) (ha:args=cargs.map (renV ρ)) (hra:refsV.go exts.length cargs=true) (hre:exts.all (objOk exts.length)=true) (hr:renV ρ r=r') (hk:K r' (putObjs s ρ (exts'.map (renO ρ)))):callWp P f args s K:=by
 have hρ:ρ.length=exts.length:=by simpa using congrArg List.length hs
 refine call_frame h ρ hρ hnd (fun k o ho=>?_) ha hra hre fun v s' hv=>?_
 ·have h1:=congrArg (fun l=>l[k]?) hs
  simp only[List.getElem?_map,ho,Option.map_some] at h1
  have hk:k < ρ.length:=by rw[hρ]; exact(List.getElem?_eq_some_iff.1 ho).1
  rw[List.getElem?_eq_getElem hk] at h1
  simp only[Option.map_some,Option.some.injEq] at h1
  simpa [List.getD,List.getElem?_eq_getElem hk] using h1
 ·obtain⟨rfl,rfl⟩:=hv
  exact⟨hl,by rw[hr]; exact hk⟩
theorem callF_whole {P:Program} {f:FuncId} {args:List V} {s s1:List Obj} {r:V} {rd wr:List Nat} {K:V→List Obj→Prop} (h:callWp P f args s fun v s'=>v=r∧s'=s1) (hrd:∀i,i < s.length→i∈rd) (hwl:s1.length=wr.length)
  (hwr:putObjs s wr s1=s1) (hk:K r s1):callF P rd wr f args s K:=by
 refine⟨r,s1,hwl,fun s' hl hs=>?_,by rw[hwr]; exact hk⟩
 have e:s'=s:=by
  apply List.ext_getElem?
  intro i
  rcases Nat.lt_or_ge i s.length with hi | hi
  ·exact hs i (hrd i hi)
  ·rw[List.getElem?_eq_none (by omega),List.getElem?_eq_none hi]
 subst e
 rw[hwr]
 exact h
theorem RepD.el_take {O:Nat→Prop} {w:World} {cs ex:List D} {u:Value} (h:RepD O w (.el (cs++ex)) u):RepD O w (.el cs) u:=by
 generalize hd:D.el (cs++ex)=x at h
 cases h with
 | el cs' a f h1 h2 h3 =>
  cases hd
  exact .el cs a f h1 (fun j x hx=>h2 j x (by rw[List.getElem?_append_left (List.getElem?_eq_some_iff.1 hx).1]; exact hx)) (fun j x hx=>h3 j x (by rw[List.getElem?_append_left (List.getElem?_eq_some_iff.1 hx).1]; exact hx))
 | _=>cases hd
theorem call_weak {P:Program} {f:FuncId} {cs ex:List D} {args:List V} {s:List Obj} {K:V→List Obj→Prop} (h:callWp P f (.d (.el cs)::args) s K):callWp P f (.d (.el (cs++ex))::args) s K:=by
 refine⟨h.1,fun σ w vals hI hl hv=>h.2 σ w vals hI (by simpa using hl) fun i x hx=>?_⟩
 cases i with
 | zero =>
  simp at hx; subst hx
  have:=hv 0 _ rfl
  generalize vals.getD 0 undef=u at this ⊢
  cases this with | d hd=>exact .d hd.el_take
 | succ i=>exact hv (i + 1) x (by simpa using hx)
theorem recell {σ:Gh} {s:List Obj} {w:World} (hI:Inv σ s w) {k:Nat} {o:Obj} {els':List (List V)} (ho:s[k]?=some o) (hlen:∀e∈els',e.length=o.sz) (hll:els'.length=o.els.length) (hnm:∀es,o.els≠mapEls es)
  (h:∀(i j:Nat) (x':V),(els'[i]?.bind (·[j]?))=some x'→∃x,(o.els[i]?.bind (·[j]?))=some x∧∀u,RepV σ s w x u→RepV σ s w x' u) :
  Evolve σ s w σ (s.set k { o with els:=els' }) w∧Inv σ (s.set k { o with els:=els' }) w:=by
 have hk:=(List.getElem?_eq_some_iff.1 ho).1
 have get:∀(id:Nat) (o':Obj),(s.set k { o with els:=els' })[id]?=some o'→∃o1,s[id]?=some o1∧o1.live=o'.live∧o1.g=o'.g∧o1.sz=o'.sz:=by
  intro id o' h'
  rw[List.getElem?_set] at h'
  split at h'
  ·rename_i he
   subst he
   try rw[if_pos hk] at h'
   simp only[Option.some.injEq] at h'
   subst h'
   exact⟨o,ho,rfl,rfl,rfl⟩
  ·exact⟨o',h',rfl,rfl,rfl⟩
 have put:∀(id:Nat) (o1:Obj),s[id]?=some o1→∃o',(s.set k { o with els:=els' })[id]?=some o'∧o'.g=o1.g∧o'.sz=o1.sz∧o'.live=o1.live:=by
  intro id o1 h'
  rw[List.getElem?_set]
  split
  ·rename_i he
   subst he
   rw[ho] at h'
   simp only[Option.some.injEq] at h'
   subst h'
   first | exact⟨_,rfl,rfl,rfl,rfl⟩ | exact⟨_,by rw[if_pos hk],rfl,rfl,rfl⟩
  ·exact⟨o1,h',rfl,rfl,rfl⟩
 have hE:Evolve σ s w σ (s.set k { o with els:=els' }) w:=by
  refine⟨rfl,rfl,rfl,Nat.le_refl _,fun _ _ _=>rfl,fun _ arr _ _ h=>⟨arr,h,rfl⟩,fun _ _ h=>h,?_,?_,rfl,fun _ _ _=>rfl⟩
  ·rintro b (hb | ⟨id,o',base,h1,h2,h3⟩)
   ·exact .inl (.inl hb)
   ·obtain⟨o1,k1,k2,_⟩:=get id o' h1
    exact .inl (.inr ⟨id,o1,base,k1,by rw[k2]; exact h2,h3⟩)
  ·intro id o1 h1
   obtain⟨o',k1,k2,k3,_⟩:=put id o1 h1
   exact⟨o',k1,by omega,fun _=>⟨k3,rfl⟩⟩
 refine⟨hE,⟨?_,?_,hI.low,?_⟩⟩
 ·intro id o' h1
  by_cases he:id=k
  ·subst he
   rw[List.getElem?_set_self hk] at h1
   simp only[Option.some.injEq] at h1
   subst h1
   rcases hI.content id o ho with (⟨c1,c2⟩ | ⟨b,es,c,c1,c2,c3⟩) | ⟨b,base,arr,E,c1,c2,c3,c4,c5⟩
   ·left; exact .inl ⟨c1,List.eq_nil_of_length_eq_zero (by show els'.length=0; rw[hll,c2]; rfl)⟩
   ·exact(hnm es c3).elim
   ·right
    refine⟨b,base,arr,E,c1,c2,hlen,by show base + els'.length * o.sz≤arr.size; rw[hll]; exact c4,fun i j x' hx=>?_⟩
    obtain⟨x,y1,y2⟩:=h i j x' hx
    obtain⟨u,z1,z2,z3⟩:=c5 i j x y1
    exact⟨u,z1,z2,(y2 u z3).evolve hE⟩
  ·rw[List.getElem?_set_ne (Ne.symm he)] at h1
   rcases hI.content id o' h1 with c | ⟨b,base,arr,E,c1,c2,c3,c4,c5⟩
   ·exact .inl c
   ·right
    refine⟨b,base,arr,E,c1,c2,c3,c4,fun i j x hx=>?_⟩
    obtain⟨u,z1,z2,z3⟩:=c5 i j x hx
    exact⟨u,z1,z2,z3.evolve hE⟩
 ·intro id id' o1 o2 b base base' h1 h2 h3 h4 h5
  obtain⟨p1,q1,q2,_⟩:=get id o1 h1
  obtain⟨p2,r1,_⟩:=get id' o2 h2
  exact hI.inj id id' p1 p2 b base base' q1 r1 (by rw[q2]; exact h3) h4 h5
 ·intro id o1 b base h1 h2
  obtain⟨p1,q1,_⟩:=get id o1 h1
  exact hI.apart id p1 b base q1 h2
end Go.VL
namespace Go.VL
theorem Cln.of0 {L:Nat} {e e':Env} {s s':List Obj} (h:Cln0 e s e' s'):Cln L e s e' s':=fun σ0 s0 w0 σ w N a _ hE hI hR=>h σ0 s0 w0 σ w N a hE hI hR
theorem Cln.freeze {L:Nat} {e:Env} {s:List Obj} (ids slots:List Nat):Cln L e s (freezeE (killO s ids) slots e) (killO s ids):=.of0 (.freeze ids slots)
def downV (keep:List Nat):V→V
 | .so id g lo n=>match keep.idxOf? id with | some k=>.so k g lo n | none=>.any
 | .rf id g i off=>match keep.idxOf? id with | some k=>.rf k g i off | none=>.any
 | .pp id g i off b a=>match keep.idxOf? id with | some k=>.pp k g i off b a | none=>.any
 | .mp id g=>match keep.idxOf? id with | some k=>.mp k g | none=>.any
 | .ag cs=>.ag (go cs)
 | .tu cs=>.tu (go cs)
 | .bx v=>.bx (downV keep v)
 | .cap lo hi v=>.cap lo hi (downV keep v)
 | .cl fn first caps=>.cl fn (go first) (go caps)
 | .d x=>.d x
 | .fu els=>.fu els
 | .un=>.un
 | .any=>.any
where go:List V→List V
 | []=>[]
 | v::vs=>downV keep v::go vs
theorem downV_go (keep:List Nat):∀(l:List V),downV.go keep l=l.map (downV keep)
 | []=>rfl
 | v::vs=>by simp [downV.go,downV_go keep vs]
def downO (keep:List Nat) (o:Obj):Obj:={ o with els:=o.els.map (downV.go keep) }
def selS (keep:List Nat) (s:List Obj):List Obj:=keep.map fun id=>downO keep (s.getD id hole)
def selG (keep:List Nat) (σ:Gh):Gh:=⟨fun k=>match keep[k]? with | some id=>σ id | none=>none,σ.base⟩
section sel
variable {σ:Gh} {s:List Obj} {w:World} {keep:List Nat}
theorem selS_get {k:Nat} {o:Obj} (h:(selS keep s)[k]?=some o):∃id,keep[k]?=some id∧o=downO keep (s.getD id hole):=by
 unfold selS at h
 rw[List.getElem?_map] at h
 obtain⟨id,h1,h2⟩:=Option.map_eq_some_iff.1 h
 exact⟨id,h1,h2.symm⟩
theorem selS_at {k id:Nat} {o:Obj} (h:keep[k]?=some id) (ho:s[id]?=some o):(selS keep s)[k]?=some (downO keep o):=by
 unfold selS
 rw[List.getElem?_map,h]
 simp [List.getD,ho]
theorem selG_at {k id:Nat} (h:keep[k]?=some id):selG keep σ k=σ id:=by
 show (match keep[k]? with | some id=>σ id | none=>none)=σ id
 rw[h]
theorem own_sel (hlt:∀id∈keep,id < s.length) {b:Nat} (h:Own (selG keep σ) (selS keep s) b):Own σ s b:=by
 rcases h with h | ⟨k,o,base,h1,h2,h3⟩
 ·exact .inl h
 ·obtain⟨id,k1,rfl⟩:=selS_get h1
  have hi:=hlt id (List.mem_of_getElem? k1)
  rw[selG_at k1] at h3
  have hg:s.getD id hole=s[id]:=by simp [List.getD,List.getElem?_eq_getElem hi]
  rw[hg] at h2
  exact .inr ⟨id,s[id],base,by simp [hi],h2,h3⟩
theorem idxOf_get {id k:Nat} (h:keep.idxOf? id=some k):keep[k]?=some id:=by
 rw[List.idxOf?_eq_some_iff] at h
 obtain⟨h1,h2,_⟩:=h
 rw[List.getElem?_eq_getElem h1]
 simpa using h2
theorem RepV.sel (hlt:∀id∈keep,id < s.length) {x:V} {u:Value} (hr:RepV σ s w x u):RepV (selG keep σ) (selS keep s) w (downV keep x) u:=by
 have g:∀(cs:List V) (i:Nat) (y:V),(cs.map (downV keep))[i]?=some y→∃x,cs[i]?=some x∧downV keep x=y:=fun cs i y hy=>by
  rw[List.getElem?_map] at hy
  exact Option.map_eq_some_iff.1 hy
 induction hr with
 | d hx=>exact .d (hx.own fun b hb=>own_sel hlt hb)
 | fu hx=>exact .fu (hx.own fun b hb=>own_sel hlt hb)
 | un=>exact .un
 | any=>exact .any
 | ag h1 h2 _ ih =>
  simp only[downV,downV_go]
  refine .ag (by simpa using h1) (fun i y hy=>?_) (fun i y hy=>?_)
  ·obtain⟨x,hx,rfl⟩:=g _ i y hy; exact h2 i x hx
  ·obtain⟨x,hx,rfl⟩:=g _ i y hy; exact ih i x hx
 | tu h1 _ ih =>
  simp only[downV,downV_go]
  refine .tu (by simpa using h1) (fun i y hy=>?_)
  obtain⟨x,hx,rfl⟩:=g _ i y hy; exact ih i x hx
 | bx h1 h2 h3 hu _ ih=>simp only[downV]; exact .bx h1 h2 (fun h'=>h3 (own_sel hlt h')) hu ih
 | cap h1 _ ih=>simp only[downV]; exact .cap h1 ih
 | cl h1 _ h3 _ ih1 ih2 =>
  simp only[downV,downV_go]
  refine .cl (by simpa using h1) (fun i y hy=>?_) (by simpa using h3) (fun i y hy=>?_)
  ·obtain⟨x,hx,rfl⟩:=g _ i y hy; exact ih1 i x hx
  ·obtain⟨x,hx,rfl⟩:=g _ i y hy; exact ih2 i x hx
 | so o ho hg hu hk =>
  simp only[downV]
  split
  ·rename_i k hkk
   have hkk:=idxOf_get hkk
   refine .so (downO keep o) (selS_at hkk ho) hg hu fun hgg=>?_
   have:=hk hgg
   unfold SoOK at this ⊢
   rw[selG_at hkk]
   exact this
  ·exact .any
 | rf o ho hg hu hk =>
  simp only[downV]
  split
  ·rename_i k hkk
   have hkk:=idxOf_get hkk
   refine .rf (downO keep o) (selS_at hkk ho) hg hu fun hgg=>?_
   rw[selG_at hkk]
   exact hk hgg
  ·exact .any
 | pp o ho hg hk =>
  simp only[downV]
  split
  ·rename_i k hkk
   have hkk:=idxOf_get hkk
   refine .pp (downO keep o) (selS_at hkk ho) hg fun hgg=>?_
   rw[selG_at hkk]
   exact hk hgg
  ·exact .any
 | mp o ho hg hu hk =>
  simp only[downV]
  split
  ·rename_i k hkk
   have hkk:=idxOf_get hkk
   refine .mp (downO keep o) (selS_at hkk ho) hg hu fun hgg=>?_
   rw[selG_at hkk]
   exact hk hgg
  ·exact .any
theorem Inv.sel (hI:Inv σ s w) (hlt:∀id∈keep,id < s.length) (hnd:keep.Nodup):Inv (selG keep σ) (selS keep s) w:=by
 have get:∀(k:Nat) (o:Obj),(selS keep s)[k]?=some o→∃id o',keep[k]?=some id∧s[id]?=some o'∧o=downO keep o':=by
  intro k o h
  obtain⟨id,k1,rfl⟩:=selS_get h
  have hi:=hlt id (List.mem_of_getElem? k1)
  exact⟨id,s[id],k1,by simp [hi],by simp [List.getD,List.getElem?_eq_getElem hi]⟩
 refine⟨fun k o ho=>?_,fun k k' o o' b base base' h1 h2 h3 h4 h5=>?_,hI.low,fun k o b base h1 h2=>?_⟩
 ·obtain⟨id,o',k1,k2,rfl⟩:=get k o ho
  rw[selG_at k1]
  rcases hI.content id o' k2 with (⟨h1,h2⟩ | ⟨b,es,c,h1,h2,h3⟩) | ⟨b,base,arr,E,h1,h2,h3,h4,h5⟩
  ·exact .inl (.inl ⟨h1,by simp [downO,h2]⟩)
  ·refine .inl (.inr ⟨b,es,c,h1,h2,?_⟩)
   simp only[downO,h3,mapEls,List.map_map]
   apply List.map_congr_left
   intro e _
   rfl
  ·refine .inr ⟨b,base,arr,E,h1,h2,fun c hc=>?_,by simpa [downO] using h4,fun i j x hx=>?_⟩
   ·obtain⟨c',hc',rfl⟩:=List.mem_map.1 hc
    rw[downV_go]
    simpa [downO] using h3 c' hc'
   ·simp only[downO,List.getElem?_map] at hx
    cases hi:o'.els[i]? with
    | none=>simp [hi] at hx
    | some c =>
     simp only[hi,Option.map_some,Option.bind_some,downV_go,List.getElem?_map] at hx
     obtain⟨y,hy,rfl⟩:=Option.map_eq_some_iff.1 hx
     obtain⟨u,g1,g2,g3⟩:=h5 i j y (by simp [hi,hy])
     exact⟨u,g1,g2,g3.sel hlt⟩
 ·obtain⟨id,p,k1,k2,rfl⟩:=get k o h1
  obtain⟨id',p',l1,l2,rfl⟩:=get k' o' h2
  rw[selG_at k1] at h4
  rw[selG_at l1] at h5
  have e:=hI.inj id id' p p' b base base' k2 l2 h3 h4 h5
  subst e
  obtain⟨a1,a2⟩:=List.getElem?_eq_some_iff.1 k1
  obtain⟨b1,b2⟩:=List.getElem?_eq_some_iff.1 l1
  exact(List.getElem_inj hnd).1 (a2.trans b2.symm)
 ·obtain⟨id,p,k1,k2,rfl⟩:=get k o h1
  rw[selG_at k1] at h2
  exact hI.apart id p b base k2 h2
theorem Evolve.sel {σ0:Gh} {s0:List Obj} {w0:World} (hE:Evolve σ0 s0 w0 σ s w) (hlt:∀id∈keep,id < s.length) (hpre:∀id,id < s0.length→keep[id]?=some id):Evolve σ0 s0 w0 (selG keep σ) (selS keep s) w:=by
 refine⟨hE.os,hE.tape,hE.output,hE.size,hE.keep,hE.shape,hE.shapeM,fun b hb=>hE.own b (own_sel hlt hb),fun id o ho=>?_,hE.base,hE.foreign⟩
 obtain⟨o',h1,h2,h3⟩:=hE.objs id o ho
 have hk:=hpre id (List.getElem?_eq_some_iff.1 ho).1
 exact⟨downO keep o',selS_at hk h1,h2,fun he=>⟨(h3 he).1,by rw[selG_at hk]; exact(h3 he).2⟩⟩
end sel
def keepOk (L:Nat) (keep:List Nat) (n:Nat):Bool:=keep.Nodup&&keep.all (fun id=>decide (id < n))&&((List.range L).all fun id=>keep[id]? == some id)
theorem keepOk_spec {L n:Nat} {keep:List Nat} (h:keepOk L keep n=true):keep.Nodup∧(∀id∈keep,id < n)∧∀id,id < L→keep[id]?=some id:=by
 unfold keepOk at h
 simp only[Bool.and_eq_true,decide_eq_true_eq,List.all_eq_true,beq_iff_eq,List.mem_range] at h
 exact⟨h.1.1,h.1.2,h.2⟩
def selE (keep slots:List Nat) (e:Env):Env:=fun t=>if slots.contains t then downV keep (e t) else .any
theorem Cln.sel {L:Nat} {e:Env} {s:List Obj} (keep slots:List Nat) (h:keepOk L keep s.length=true):Cln L e s (selE keep slots e) (selS keep s):=by
 intro σ0 s0 w0 σ w N a hs0 hE hI hR
 obtain⟨h1,h2,h3⟩:=keepOk_spec h
 refine⟨_,hE.sel h2 (fun id hid=>h3 id (by omega)),hI.sel h2 h1,hR.1,hR.2.1,fun t=>?_⟩
 unfold selE
 split
 ·exact(hR.2.2 t).sel h2
 ·exact .any
def ownWp (L:Nat) (s:List Obj) (r:V) (K:V→List Obj→Prop):Prop:=∃keep,keepOk L keep s.length=true∧K (downV keep r) (selS keep s)
def Qown (P:Program) (rs:List ResultVar) (L:Nat) (K:V→List Obj→Prop) (ex:Exit) (e:Env) (s:List Obj):Prop:=Qend ex∧resWp P rs e s fun r=>ownWp L s r K
theorem fn_own {P : Program} {f : FuncId} {fn : Func} {c : Code} {args : List V} {exts : List Obj} {K : V → List Obj → Prop} (hf : P.funcs[f]? = some fn) (hb : fn.body = some c) {N : Nat} (hN : fn.ntmps = N) {rs : Array ResultVar} (hrs : fn.results = rs) (hn : (fn.name != "runtime.NumGoroutine") = true)
  (lim M:Nat) (hl:exts.length≤lim) (ha:args.length≤N)
  (h:codeWp P N lim M c (Qown P rs.toList lim K) (envOf args) exts):callWp P f args exts K:=by
 subst hN; subst hrs
 refine⟨by simp only[okFn,hf,hn,hb,Option.isSome_some,Bool.and_self],fun σ w vals hI hvl hv=>?_⟩
 refine calls_of_wp hf hb ?_
 have hR:RepE σ exts w fn.ntmps (envOf args) { tmps:=vals++Array.replicate (fn.ntmps - vals.size) undef,defers:=[] }:=by
  refine⟨rfl,by simp; omega,fun t=>?_⟩
  rw[envOf_get]
  by_cases ht:t < args.length
  ·have h1:=hv t args[t] (by simp [ht])
   have:(vals++Array.replicate (fn.ntmps - vals.size) undef).getD t undef=vals.getD t undef:=by
    rw[Array.getD_eq_getD_getElem?,Array.getElem?_append_left (by omega),Array.getD_eq_getD_getElem?]
   rw[this]
   simpa [ht] using h1
  ·have:(vals++Array.replicate (fn.ntmps - vals.size) undef).getD t undef=undef:=by
    rw[Array.getD_eq_getD_getElem?,Array.getElem?_append_right (by omega),Array.getElem?_replicate]
    split <;> rfl
   rw[this]
   simp [ht]
   exact .un
 refine wp_mono (codeWp_sound hl c _ (envOf args) exts σ w _ (Evolve.refl _ _ _) hI hR h) fun ex a' w' ⟨e',σ',s',hE,hI',hR',hex,hq⟩=>?_
 obtain⟨v,u,k1,k2,k3⟩:=resWp_sound hI' hR' hq
 obtain⟨keep,h0,hK⟩:=k3
 obtain⟨h1,h2,h3⟩:=keepOk_spec h0
 have fin:a'.defers=[]∧∃v,(results fn a'.tmps).run P w'=.ok v w'∧∃u v_1 σ'_1 s'_1,Ending.returned v=.returned u∧Evolve σ exts w σ'_1 s'_1 w'∧Inv σ'_1 s'_1 w'∧RepV σ'_1 s'_1 w' v_1 u∧K v_1 s'_1:=by
  refine⟨hR'.1,u,k1,?_⟩
  exact⟨u,_,_,_,rfl,hE.sel h2 (fun id hid=>h3 id (by omega)),hI'.sel h2 h1,k2.sel h2,hK⟩
 rcases Qend_spec hex with rfl | rfl
 ·exact fin
 ·exact fin
def rhoN (ρ:List Nat) (s exts s':List Obj):List Nat:=ρ++List.range' s.length (s'.length - exts.length)
theorem putObjs_append:∀(ρ ρ':List Nat) (A B:List Obj) (s:List Obj),A.length=ρ.length→putObjs s (ρ++ρ') (A++B)=putObjs (putObjs s ρ A) ρ' B
 | [],ρ',[],B,s,_=>by simp [putObjs]
 | [],_,_::_,_,_,h=>by simp at h
 | _::_,_,[],_,_,h=>by simp at h
 | r::ρ,ρ',a::A,B,s,h=>by
  simp only[List.cons_append,putObjs]
  exact putObjs_append ρ ρ' A B _ (by simpa using h)
theorem putObjs_left:∀(ρ:List Nat) (A:List Obj) (s t:List Obj),(∀id∈ρ,id < s.length)→putObjs (s++t) ρ A=putObjs s ρ A++t
 | [],_,s,t,_=>by simp [putObjs]
 | r::ρ,[],s,t,_=>by simp [putObjs]
 | r::ρ,a::A,s,t,h=>by
  simp only[putObjs]
  rw[List.set_append_left _ _ (h r (by simp))]
  exact putObjs_left ρ A _ t (fun id hid=>by simpa using h id (by simp [hid]))
theorem putObjs_new:∀(m:Nat) (B s:List Obj),B.length=m→putObjs (s++List.replicate m hole) (List.range' s.length m) B=s++B
 | 0,B,s,h=>by
  have:B=[]:=List.eq_nil_of_length_eq_zero h
  subst this
  simp [putObjs]
 | m + 1,[],s,h=>by simp at h
 | m + 1,b::B,s,h=>by
  rw[List.range'_succ,List.replicate_succ]
  simp only[putObjs]
  rw[List.set_append_right _ _ (Nat.le_refl _),Nat.sub_self,List.set_cons_zero]
  have:=putObjs_new m B (s++[b]) (by simpa using h)
  simpa using this
theorem call_frame_new {P:Program} {f:FuncId} {cargs args:List V} {exts s:List Obj} {Kc K:V→List Obj→Prop} (h:callWp P f cargs exts Kc) (ρ:List Nat) (hρ:ρ.length=exts.length) (hnd:ρ.Nodup)
  (hs:∀(k:Nat) (o:Obj),exts[k]?=some o→s[ρ.getD k 0]?=some (renO ρ o)) (hargs:args=cargs.map (renV ρ)) (hra:refsV.go exts.length cargs=true) (hre:exts.all (objOk exts.length)=true)
  (hk:∀v s',Kc v s'→exts.length≤s'.length→K (renV (rhoN ρ s exts s') v) (putObjs s ρ ((s'.take exts.length).map (renO (rhoN ρ s exts s')))++(s'.drop exts.length).map (renO (rhoN ρ s exts s')))):callWp P f args s K:=by
 refine⟨h.1,fun σ w vals hI hl hv=>?_⟩
 have hρk:∀k,k < exts.length→ρ[k]?=some (ρ.getD k 0):=fun k hk=>by simp [List.getD,show k < ρ.length by omega]
 have hρi:∀k k',k < exts.length→k' < exts.length→ρ.getD k 0=ρ.getD k' 0→k=k':=by
  intro k k' h1 h2 he
  have e1:=hρk k h1
  have e2:=hρk k' h2
  rw[he] at e1
  obtain⟨l1,g1⟩:=List.getElem?_eq_some_iff.1 e1
  obtain⟨l2,g2⟩:=List.getElem?_eq_some_iff.1 e2
  exact(List.getElem_inj hnd).1 (g1.trans g2.symm)
 have hsk:∀k,(hk:k < exts.length)→s[ρ.getD k 0]?=some (renO ρ exts[k]):=fun k hk=>hs k exts[k] (by simp [hk])
 let isExt:Nat→Prop:=fun b=>∃k base,k < exts.length∧σ (ρ.getD k 0)=some (b,base)
 let σc:Gh:=⟨fun k=>if k < exts.length then σ (ρ.getD k 0) else none,fun b=>Own σ s b∧¬isExt b⟩
 have hσc:∀k,k < exts.length→σc k=σ (ρ.getD k 0):=fun k hk=>if_pos hk
 have own1:∀b,Own σc exts b→Own σ s b:=by
  rintro b (hb | ⟨k,o,base,h1,h2,h3⟩)
  ·exact hb.1
  ·have hlt:=(List.getElem?_eq_some_iff.1 h1).1
   rw[hσc k hlt] at h3
   exact .inr ⟨ρ.getD k 0,renO ρ o,base,hs k o h1,h2,h3⟩
 have own2:∀b,Own σ s b→Own σc exts b:=by
  intro b hb
  by_cases he:isExt b
  ·obtain⟨k,base,hlt,h3⟩:=he
   refine .inr ⟨k,exts[k],base,by simp [hlt],?_,by rw[hσc k hlt]; exact h3⟩
   rcases hb with hb | ⟨id,o,base',g1,g2,g3⟩
   ·exact absurd hb (hI.apart _ _ b base (hsk k hlt) h3)
   ·have:=hI.inj id _ o _ b base' base g1 (hsk k hlt) g2 g3 h3
    subst this
    rw[hsk k hlt] at g1
    cases g1
    exact g2
  ·exact .inl ⟨hb,he⟩
 have hIc:Inv σc exts w:=by
  refine⟨fun k o ho=>?_,fun k k' o o' b base base' h1 h2 h3 h4 h5=>?_,fun b hb=>own_lt hI hb.1,fun k o b base h1 h2 hb=>?_⟩
  ·have hlt:=(List.getElem?_eq_some_iff.1 ho).1
   rw[hσc k hlt]
   rcases hI.content _ _ (hs k o ho) with g1 | ⟨b,base,arr,E,g1,g2,g3,g4,g5⟩
   ·exact .inl g1.down
   ·refine .inr ⟨b,base,arr,E,g1,g2,fun e he=>?_,by simpa [renO] using g4,fun i j x hx=>?_⟩
    ·have:=g3 (renV.go ρ e) (List.mem_map.2 ⟨e,he,rfl⟩)
     rw[renV_go] at this
     simpa [renO] using this
    ·obtain⟨u,k1,k2,k3⟩:=g5 i j _ (renO_get' hx)
     refine⟨u,k1,k2,ren_down own1 hs hσc k3 rfl ?_⟩
     have hobj:=List.all_eq_true.1 hre o (List.mem_of_getElem? ho)
     cases hei:o.els[i]? with
     | none=>rw[hei] at hx; cases hx
     | some e =>
      rw[hei] at hx
      exact List.all_eq_true.1 (List.all_eq_true.1 hobj e (List.mem_of_getElem? hei)) x (List.mem_of_getElem? hx)
  ·have l1:=(List.getElem?_eq_some_iff.1 h1).1
   have l2:=(List.getElem?_eq_some_iff.1 h2).1
   rw[hσc k l1] at h4
   rw[hσc k' l2] at h5
   exact hρi k k' l1 l2 (hI.inj _ _ _ _ b base base' (hs k o h1) (hs k' o' h2) h3 h4 h5)
  ·have l1:=(List.getElem?_eq_some_iff.1 h1).1
   rw[hσc k l1] at h2
   exact hb.2 ⟨k,base,l1,h2⟩
 refine(h.2 σc w vals hIc (by rw[hl,hargs]; simp) (fun i x hx=>ren_down own1 hs hσc (hv i _ (by rw[hargs,List.getElem?_map,hx]; rfl)) rfl (refsV_go hra i x hx))).mono fun e w' ⟨u,v,σ',s',he,hE,hI',hR,hK⟩=>?_
 have hle:exts.length≤s'.length:=by
  rcases Nat.eq_zero_or_pos exts.length with h0 | h0
  ·omega
  ·obtain⟨o',g1,_⟩:=hE.objs (exts.length - 1) exts[exts.length - 1] (List.getElem?_eq_getElem (by omega))
   have:=(List.getElem?_eq_some_iff.1 g1).1
   omega
 have hK:=hk v s' hK hle
 have hρlt:∀id∈ρ,id < s.length:=by
  intro id hid
  obtain⟨k,hk⟩:=List.mem_iff_getElem?.1 hid
  have hlt:k < exts.length:=by have:=(List.getElem?_eq_some_iff.1 hk).1; omega
  have h1:=(List.getElem?_eq_some_iff.1 (hsk k hlt)).1
  have:ρ.getD k 0=id:=by simp [List.getD,hk]
  omega
 obtain⟨R,hRd⟩:∃R,R=rhoN ρ s exts s':=⟨_,rfl⟩
 rw[← hRd] at hK
 have hRl:R.length=s'.length:=by rw[hRd]; simp [rhoN]; omega
 have hRn:R.Nodup:=by
  rw[hRd]; unfold rhoN
  rw[List.nodup_append]
  refine⟨hnd,List.nodup_range',fun a ha b hb he=>?_⟩
  subst he
  have h1:=hρlt a ha
  have h2:=List.mem_range'.1 hb
  omega
 have hRlow:∀k,k < exts.length→R.getD k 0=ρ.getD k 0:=fun k hk=>by
  rw[hRd]; unfold rhoN
  simp only[List.getD]
  rw[List.getElem?_append_left (by omega)]
 have hRhi:∀k,exts.length≤k→k < s'.length→R.getD k 0=s.length + (k - exts.length):=fun k h1 h2=>by
  rw[hRd]; unfold rhoN
  simp only[List.getD]
  rw[List.getElem?_append_right (by omega),List.getElem?_range' (by omega)]
  simp; omega
 have hRk:∀k,k < s'.length→R[k]?=some (R.getD k 0):=fun k hk=>by simp [List.getD,show k < R.length by omega]
 have hRlt:∀k,k < s'.length→R.getD k 0 < s.length + (s'.length - exts.length):=fun k hk=>by
  rcases Nat.lt_or_ge k exts.length with h1 | h1
  ·rw[hRlow k h1]
   have:=(List.getElem?_eq_some_iff.1 (hsk k h1)).1
   omega
  ·rw[hRhi k h1 hk]; omega
 have hsnEq:putObjs s ρ ((s'.take exts.length).map (renO R))++(s'.drop exts.length).map (renO R)=putObjs (s++List.replicate (s'.length - exts.length) hole) R (s'.map (renO R)):=by
  have hsp:s'.map (renO R)=(s'.take exts.length).map (renO R)++(s'.drop exts.length).map (renO R):=by rw[← List.map_append,List.take_append_drop]
  rw[hsp,hRd]
  unfold rhoN
  generalize renO (ρ++List.range' s.length (s'.length - exts.length))=F
  rw[putObjs_append _ _ _ _ _ (by simp; omega),putObjs_left _ _ _ _ hρlt]
  have hl2:(putObjs s ρ ((s'.take exts.length).map F)).length=s.length:=putObjs_length _ _ _
  generalize putObjs s ρ ((s'.take exts.length).map F)=T at *
  rw[← hl2,putObjs_new (s'.length - exts.length) _ T (by simp)]
 rw[hsnEq] at hK
 clear hsnEq
 -- back
 let σn:Gh:=⟨fun id=>match R.idxOf? id with | some k=>σ' k | none=>σ id,σ.base⟩
 have hidx:∀k,k < s'.length→R.idxOf? (R.getD k 0)=some k:=by
  intro k hk
  have e1:=hRk k hk
  obtain⟨l1,g1⟩:=List.getElem?_eq_some_iff.1 e1
  rw[List.idxOf?_eq_some_iff]
  refine⟨l1,by simp [g1],fun j hj=>?_⟩
  have hj':j < R.length:=by omega
  intro hb
  have hb':R[j]=R.getD k 0:=by simpa using hb
  have:=(List.getElem_inj hRn).1 (hb'.trans g1.symm)
  omega
 have hσn:∀k,k < s'.length→σn (R.getD k 0)=σ' k:=fun k hk=>by
  show (match R.idxOf? (R.getD k 0) with | some k=>σ' k | none=>σ (R.getD k 0))=σ' k
  rw[hidx k hk]
 have hσo:∀id,id ∉ R→σn id=σ id:=fun id hid=>by
  show (match R.idxOf? id with | some k=>σ' k | none=>σ id)=σ id
  rw[List.idxOf?_eq_none_iff.2 hid]
 have hmem:∀id,id∈R→∃k,k < s'.length∧id=R.getD k 0:=by
  intro id hid
  obtain⟨k,hk⟩:=List.mem_iff_getElem?.1 hid
  have hlt:=(List.getElem?_eq_some_iff.1 hk).1
  exact⟨k,by omega,by simp [List.getD,hk]⟩
 have hsl:(s++List.replicate (s'.length - exts.length) hole).length=s.length + (s'.length - exts.length):=by simp
 have hsn1:∀(k:Nat) (o:Obj),s'[k]?=some o→(putObjs (s++List.replicate (s'.length - exts.length) hole) R (s'.map (renO R)))[R.getD k 0]?=some (renO R o):=by
  intro k o ho
  have hlt:k < s'.length:=(List.getElem?_eq_some_iff.1 ho).1
  exact putObjs_at R _ _ k _ _ hRn (hRk k hlt) (by rw[List.getElem?_map,ho]; rfl) (by rw[hsl]; exact hRlt k hlt)
 have hsn2:∀id,id ∉ R→(putObjs (s++List.replicate (s'.length - exts.length) hole) R (s'.map (renO R)))[id]?=s[id]?:=fun id hid=>by
  rw[putObjs_other R _ _ id hid]
  rcases Nat.lt_or_ge id s.length with h1 | h1
  ·rw[List.getElem?_append_left h1]
  ·rw[List.getElem?_eq_none h1]
   refine List.getElem?_eq_none ?_
   rw[hsl]
   rcases Nat.lt_or_ge id (s.length + (s'.length - exts.length)) with h2 | h2
   ·exfalso
    apply hid
    have e1:=hRhi (exts.length + (id - s.length)) (by omega) (by omega)
    have e2:=hRk (exts.length + (id - s.length)) (by omega)
    rw[e1] at e2
    have e3:s.length + (exts.length + (id - s.length) - exts.length)=id:=by omega
    rw[e3] at e2
    exact List.mem_of_getElem? e2
   ·exact h2
 have hlow:∀id o,id∈R→s[id]?=some o→∃k,k < exts.length∧id=R.getD k 0∧id=ρ.getD k 0:=by
  intro id o hid ho
  obtain⟨k,hk,rfl⟩:=hmem id hid
  rcases Nat.lt_or_ge k exts.length with h1 | h1
  ·exact⟨k,h1,rfl,hRlow k h1⟩
  ·rw[hRhi k h1 hk] at ho
   have:=(List.getElem?_eq_some_iff.1 ho).1
   omega
 have hsn3:∀(k:Nat) (o:Obj),k < s'.length→(putObjs (s++List.replicate (s'.length - exts.length) hole) R (s'.map (renO R)))[R.getD k 0]?=some o→∃o',s'[k]?=some o'∧o=renO R o':=by
  intro k o hlt ho
  have hlt':k < s'.length:=by omega
  have:=hsn1 k s'[k] (by simp [hlt'])
  rw[ho] at this
  exact⟨s'[k],by simp [hlt'],by simpa using this⟩
 have foreign:∀b,b < w.heap.size→Own σ s b→¬isExt b→w'.heap[b]?=w.heap[b]?:=fun b hb h1 h2=>hE.foreign b hb ⟨h1,h2⟩
 have baseE:∀b,σ.base b→¬isExt b:=by
  rintro b hb ⟨k,base,hlt,h3⟩
  exact hI.apart _ _ b base (hsk k hlt) h3 hb
 have otherB:∀id o b base,id ∉ R→s[id]?=some o→σ id=some (b,base)→o.live=true→¬isExt b:=by
  rintro id o b base hid ho h1 hl' ⟨k,base',hlt,h3⟩
  have:=hI.inj id _ o _ b base base' ho (hsk k hlt) hl' h1 h3
  exact hid (by rw[this,← hRlow k hlt]; exact List.mem_of_getElem? (hRk k (by omega)))
 have own3:∀b,Own σn (putObjs (s++List.replicate (s'.length - exts.length) hole) R (s'.map (renO R))) b→Own σ' s' b:=by
  rintro b (hb | ⟨id,o,base,h1,h2,h3⟩)
  ·left; rw[hE.base]; exact⟨.inl hb,baseE b hb⟩
  ·by_cases hid:id∈R
   ·obtain⟨k,hlt,rfl⟩:=hmem id hid
    obtain⟨o',g1,rfl⟩:=hsn3 k o hlt h1
    rw[hσn k hlt] at h3
    exact .inr ⟨k,o',base,g1,h2,h3⟩
   ·rw[hsn2 id hid] at h1
    rw[hσo id hid] at h3
    left; rw[hE.base]
    exact⟨.inr ⟨id,o,base,h1,h2,h3⟩,otherB id o b base hid h1 h3 h2⟩
 have hEn:Evolve σ s w σn (putObjs (s++List.replicate (s'.length - exts.length) hole) R (s'.map (renO R))) w':=by
  refine⟨hE.os,hE.tape,hE.output,hE.size,fun b hb ho=>hE.keep b hb fun h'=>ho (own1 b h'),fun b arr E ho hh=>hE.shape b arr E (own2 b ho) hh,fun b ho hm=>hE.shapeM b (own2 b ho) hm,fun b hb=>?_,fun id o ho=>?_,rfl,
   fun b hb hf=>foreign b hb (.inl hf) (baseE b hf)⟩
  ·rcases hE.own b (own3 b hb) with h' | h'
   ·exact .inl (own1 b h')
   ·exact .inr h'
  ·by_cases hid:id∈R
   ·obtain⟨k,hlt,hk1,hk2⟩:=hlow id o hid ho
    rw[hk2,hsk k hlt] at ho
    simp only[Option.some.injEq] at ho
    subst ho
    obtain⟨o',g1,g2,g3⟩:=hE.objs k exts[k] (by simp [hlt])
    refine⟨renO R o',by rw[hk1]; exact hsn1 k o' g1,g2,fun he=>?_⟩
    obtain⟨e1,e2⟩:=g3 he
    refine⟨e1,?_⟩
    have e3:σn id=σ' k:=by rw[hk1]; exact hσn k (by omega)
    rw[e3,e2,hσc k hlt,hk2]
   ·exact⟨o,by rw[hsn2 id hid]; exact ho,Nat.le_refl _,fun _=>⟨rfl,hσo id hid⟩⟩
 have up:∀{x:V} {u:Value},RepV σ' s' w' x u→RepV σn (putObjs (s++List.replicate (s'.length - exts.length) hole) R (s'.map (renO R))) w' (renV R x) u:=fun hr =>
  ren_up own3 hsn1 (fun k hk=>hσn k (by omega)) hr
 have hIn:Inv σn (putObjs (s++List.replicate (s'.length - exts.length) hole) R (s'.map (renO R))) w':=by
  refine⟨fun id o ho=>?_,fun id id' o o' b base base' h1 h2 h3 h4 h5=>?_,fun b hb=>Nat.lt_of_lt_of_le (hI.low b hb) hE.size,fun id o b base h1 h2 hb=>?_⟩
  ·by_cases hid:id∈R
   ·obtain⟨k,hlt,rfl⟩:=hmem id hid
    obtain⟨o',g1,rfl⟩:=hsn3 k o hlt ho
    rw[hσn k hlt]
    rcases hI'.content k o' g1 with c1 | ⟨b,base,arr,E,c1,c2,c3,c4,c5⟩
    ·exact .inl c1.up
    ·refine .inr ⟨b,base,arr,E,c1,c2,fun e he=>?_,by simpa [renO] using c4,fun i j y hy=>?_⟩
     ·obtain⟨e',he',rfl⟩:=List.mem_map.1 he
      rw[renV_go]
      simpa [renO] using c3 e' he'
     ·obtain⟨x,hx,rfl⟩:=renO_get hy
      obtain⟨u,k1,k2,k3⟩:=c5 i j x hx
      exact⟨u,k1,k2,up k3⟩
   ·rw[hsn2 id hid] at ho
    rw[hσo id hid]
    refine Holds.evolve (p:=σ id) hEn (fun b base hb=>?_) (hI.content id o ho)
    have hlt:=hI.lt ho hb
    by_cases hO:Own σ s b
    ·by_cases hl':o.live=true
     ·exact foreign b hlt hO (otherB id o b base hid ho hb hl')
     ·exfalso
      rcases hO with hO | ⟨id',o',base',g1,g2,g3⟩
      ·exact hI.apart id o b base ho hb hO
      ·have:=hI.inj id' id o' o b base' base g1 ho g2 g3 hb
       subst this
       rw[ho] at g1; cases g1
       exact hl' g2
    ·exact hE.keep b hlt fun h'=>hO (own1 b h')
  ·by_cases hid:id∈R <;> by_cases hid':id'∈R
   ·obtain⟨k,hlt,rfl⟩:=hmem id hid
    obtain⟨k',hlt',rfl⟩:=hmem id' hid'
    obtain⟨p,g1,rfl⟩:=hsn3 k o hlt h1
    obtain⟨p',g1',rfl⟩:=hsn3 k' o' hlt' h2
    rw[hσn k hlt] at h4
    rw[hσn k' hlt'] at h5
    rw[hI'.inj k k' p p' b base base' g1 g1' h3 h4 h5]
   ·exfalso
    obtain⟨k,hlt,rfl⟩:=hmem id hid
    obtain⟨p,g1,rfl⟩:=hsn3 k o hlt h1
    rw[hσn k hlt] at h4
    rw[hsn2 id' hid'] at h2
    rw[hσo id' hid'] at h5
    have hltb:=hI.lt h2 h5
    have hO:Own σ s b:=by
     rcases hE.own b (.inr ⟨k,p,base,g1,h3,h4⟩) with h' | h'
     ·exact own1 b h'
     ·omega
    by_cases hl':o'.live=true
    ·exact hI'.apart k p b base g1 h4 (by rw[hE.base]; exact⟨hO,otherB id' o' b base' hid' h2 h5 hl'⟩)
    ·rcases hO with hO | ⟨id2,o2,base2,q1,q2,q3⟩
     ·exact hI.apart id' o' b base' h2 h5 hO
     ·have:=hI.inj id2 id' o2 o' b base2 base' q1 h2 q2 q3 h5
      subst this
      rw[h2] at q1; cases q1
      exact hl' q2
   ·exfalso
    obtain⟨k',hlt',rfl⟩:=hmem id' hid'
    obtain⟨p',g1',rfl⟩:=hsn3 k' o' hlt' h2
    rw[hσn k' hlt'] at h5
    rw[hsn2 id hid] at h1
    rw[hσo id hid] at h4
    exact hI'.apart k' p' b base' g1' h5 (by rw[hE.base]; exact⟨.inr ⟨id,o,base,h1,h3,h4⟩,otherB id o b base hid h1 h4 h3⟩)
   ·rw[hsn2 id hid] at h1
    rw[hsn2 id' hid'] at h2
    rw[hσo id hid] at h4
    rw[hσo id' hid'] at h5
    exact hI.inj id id' o o' b base base' h1 h2 h3 h4 h5
  ·by_cases hid:id∈R
   ·obtain⟨k,hlt,rfl⟩:=hmem id hid
    obtain⟨p,g1,rfl⟩:=hsn3 k o hlt h1
    rw[hσn k hlt] at h2
    exact hI'.apart k p b base g1 h2 (by rw[hE.base]; exact⟨.inl hb,baseE b hb⟩)
   ·rw[hsn2 id hid] at h1
    rw[hσo id hid] at h2
    exact hI.apart id o b base h1 h2 hb
 exact⟨u,renV R v,σn,_,he,hEn,hIn,up hR,hK⟩
end Go.VL
namespace Go.VL
open Go.ChangeShapes Go.WideShapes Go.ChangeAt Go.RowKit
def gh0:Gh:=⟨fun _=>none,fun _=>False⟩
theorem own0 (b:Nat):¬Own gh0 [] b:=by
 rintro (h | ⟨id,o,base,h1,_⟩)
 ·exact h
 ·simp at h1
theorem inv0 (w:World):Inv gh0 [] w :=
 ⟨fun id o h=>by simp at h,fun id id' o o' b base base' h=>by simp at h,fun b h=>h.elim,fun id o b base h=>by simp at h⟩
theorem run_pure {P:Program} {f:FuncId} {args:List V} {r:Bool} {vals:Array Value} {W:World} (h:PureOK P f args (.d (.sc (.bool r)))) (hv:vals.size=args.length) (hrep:∀(i:Nat) (x:V),args[i]?=some x→RepV gh0 [] W x (vals.getD i undef)) :
  Calls P f vals W fun e w'=>e=.returned (.bool r)∧Below W.heap.size W w':=by
 refine(h.2 gh0 W vals (inv0 W) hv hrep).mono fun e w' ⟨u,v,σ',s',h1,h2,h3,h4,h5,h6⟩=>?_
 subst h5
 cases h4 with | d h4=>?_
 cases h4 with | sc _ _=>?_
 exact⟨h1,h2.os,h2.tape,h2.output,h2.size,fun b hb=>h2.keep b hb (own0 b)⟩
theorem rep_int {W:World} (k:IntKind) (n:Int):RepV gh0 [] W (.d (.sc (.int k n))) (.int k n):=.d (.sc _ rfl)
open Go.ChangeShapes Go.WideShapes Go.ChangeAt Go.RowKit
section
variable {H:Type} {enc:TypeId × Value→H} {P:Program} {w:World} {base:Nat} {spare:Nat→Bool} {held:Bool}
end
end Go.VL
