/- A part of the proof (Vn). -/
import Derived.Test.YtfmdmlfhigocaaaOF7
set_option linter.unusedSimpArgs false
set_option linter.unusedVariables false
set_option maxRecDepth 100000
set_option maxHeartbeats 80000000
namespace Go.VL
def JY (acc:List Nat) (es:List Edge):Nat :=
 es.foldl (fun m e=>if Region.binds .any e then m ||| 2 ^ e.on ||| acc.getD e.on 0 else m) 0
def Bj:List Oper->List Nat->List Nat
 |[],acc=>acc
 |o::rest,acc=>Bj rest (acc++[JY acc o.after.toList])
def Pg (ms:List Nat) (i j:Nat):Bool:=(ms.getD j 0).testBit i
def jx (full:List Oper) (L:Nat->Prop):Prop:=∀j o,full[j]?=some o->L j->∀e∈o.after.toList,Region.binds .any e=true->L e.on
theorem sm {L:Nat->Prop}{acc:List Nat} (mj:∀j i,(acc.getD j 0).testBit i=true->L j->L i):∀(es:List Edge) (m:Nat),(∀e∈es,Region.binds .any e=true->L e.on)->(∀i,m.testBit i=true->L i) ->
  ∀i,(es.foldl (fun m e=>if Region.binds .any e then m ||| 2 ^ e.on ||| acc.getD e.on 0 else m) m).testBit i=true->L i
 |[],m,_,hm,i,h=>hm i h
 |e::es,m,he,hm,i,h=>by
  simp only[List.foldl_cons]at h
  refine sm mj es _ (fun e' h'=>he e' (List.mem_cons_of_mem _ h')) (fun i' h'=>?_) i h
  split at h'
  ·rename_i hb
   have WW:=he e (List.mem_cons_self ..) hb
   rw[Nat.testBit_or,Nat.testBit_or,Nat.testBit_two_pow]at h'
   simp only[Bool.or_eq_true,decide_eq_true_eq]at h'
   rcases h' with (h'|h')|h'
   ·exact hm i' h'
   ·rw[<- h'];exact WW
   ·exact mj _ _ h' WW
  ·exact hm i' h'
theorem x7 {full:List Oper}{L:Nat->Prop} (hL:jx full L):∀(l:List Oper) (acc:List Nat),(∀j,l[j]?=full[acc.length+j]?)->(∀j i,(acc.getD j 0).testBit i=true->L j->L i) ->
  ∀j i,Pg (Bj l acc) i j=true->L j->L i
 |[],acc,_,mj,j,i,h,hj=>mj j i h hj
 |o::rest,acc,hl,mj,j,i,h,hj=>by
  simp only[Bj]at h
  refine x7 hL rest _ (fun k=>by have:=hl (k+1);simpa [Nat.add_assoc,Nat.add_comm 1 k]using this) (fun k i' hk TO=>?_) j i h hj
  by_cases az:k<acc.length
  ·rw[List.getD_eq_getElem?_getD,List.getElem?_append_left az,<- List.getD_eq_getElem?_getD]at hk
   exact mj k i' hk TO
  ·by_cases heq:k=acc.length
   ·subst heq
    rw[List.getD_eq_getElem?_getD,List.getElem?_append_right (Nat.le_refl _)]at hk
    simp only[Nat.sub_self,List.getElem?_cons_zero,Option.getD_some]at hk
    have ho:full[acc.length]?=some o:=by have:=hl 0;simpa using this.symm
    exact sm mj _ 0 (fun e he hb=>hL _ o ho TO e he hb) (by simp) i' hk
   ·rw[List.getD_eq_getElem?_getD,List.getElem?_eq_none (by simp;omega)]at hk
    simp at hk
abbrev cd:=List (Nat×List Nat×List Nat)
def fC:cd->Nat->Option (List Nat×List Nat)
 |[],_=>none
 |(k,f)::l,i=>if k=i then some f else fC l i
def lu (fs:cd) (i:Nat):List Nat :=
 match fC fs i with
 |some (_,w)=>w
 |none=>[]
def Cl:cd->List Nat
 |[]=>[]
 |(_,_,w)::l=>w++Cl l
theorem EP:∀{fs:cd}{i id:Nat},id∈lu fs i->id∈Cl fs
 |[],i,id,h=>by simp [lu,fC]at h
 |(k,r,w)::l,i,id,h=>by
  unfold lu at h
  simp only[fC]at h
  simp only[Cl,List.mem_append]
  by_cases hk:k=i
  ·rw[if_pos hk]at h;exact .inl h
  ·rw[if_neg hk]at h;exact .inr (EP h)
def Kn (fs:cd) (i id:Nat):Prop :=
 match fC fs i with
 |some (r,_)=>id∈r
 |none=>id ∉ Cl fs
def qn (fs:cd) (i j:Nat):Bool :=
 match fC fs i,fC fs j with
 |some (r,w),some (r',w')=>w.all (fun id=>!r'.contains id&&!w'.contains id)&&w'.all fun id=>!r.contains id
 |_,_=>true
def yg (full:List Oper) (ms:List Nat) (bars:List Nat) (fs:cd) (i j:Nat) (oi oj:Oper):Bool :=
 Pg ms i j||(oi.apart full.toArray oj&&oj.apart full.toArray oi&&!bars.contains i&&!bars.contains j&&qn fs i j)
def OQ (o:Oper):Bool:=(match o.op with|.select ..=>false|_=>true)&&!(o.dst == some 0)
def iR (full:List Oper) (bars:List Nat) (fs:cd):Bool :=
 let ms:=Bj full []
 full.zipIdx.all (fun (oi,i)=>OQ oi&&oi.after.toList.all (fun e=>!Region.binds .any e||decide (e.on<i))&&full.zipIdx.all fun (oj,j)=>!decide (i<j)||yg full ms bars fs i j oi oj)
theorem pY {fs:cd}{i j:Nat} (h:qn fs i j=true) {id:Nat} (hw:id∈lu fs i):¬Kn fs j id/\id ∉ lu fs j:=by
 have ha:=EP hw
 unfold qn at h
 unfold lu at hw ⊢
 unfold Kn
 cases hi:fC fs i with
 |none=>rw[hi]at hw;cases hw
 |some x =>
  obtain⟨r,w⟩:=x
  rw[hi]at hw h
  simp only at hw
  cases hj:fC fs j with
  |none=>exact⟨fun h=>h ha,by simp⟩
  |some y =>
   obtain⟨r',w'⟩:=y
   rw[hj]at h
   simp only[Bool.and_eq_true,List.all_eq_true]at h
   have:=h.1 id hw
   simp only[Bool.and_eq_true,Bool.not_eq_true',List.contains_eq_mem,decide_eq_false_iff_not]at this
   exact this
theorem wY {fs:cd}{i j:Nat} (h:qn fs i j=true):qn fs j i=true:=by
 unfold qn at *
 cases hi:fC fs i with
 |none=>cases fC fs j <;> rfl
 |some x =>
  cases hj:fC fs j with
  |none=>rfl
  |some y =>
   obtain⟨r,w⟩:=x
   obtain⟨r',w'⟩:=y
   rw[hi,hj]at h
   simp only[Bool.and_eq_true,List.all_eq_true,Bool.not_eq_true',List.contains_eq_mem,decide_eq_false_iff_not]at h ⊢
   exact⟨fun id cL=>⟨h.2 id cL,fun hw=>(h.1 id hw).2 cL⟩,fun id cL=>(h.1 id cL).1⟩
theorem yL {P:Program}{c:Call}{e e':Nat->V}{s:List Obj}{K:V->List Obj->Prop} (h0:e 0=e' 0) (h:∀x∈c.operands,ev e x=ev e' x):fw P c e s K=fw P c e' s K:=by
 have iE:∀x∈c.args.toList,ev e x=ev e' x:=fun x hx=>h x (by simp [Call.operands];exact .inr (by simpa using hx))
 have hm:c.args.toList.map (ev e)=c.args.toList.map (ev e'):=List.map_congr_left iE
 unfold fw
 rw[hm]
 cases hc:c.callee with
 |value f =>
  have hf:ev e f=ev e' f:=h f (by simp [Call.operands,hc])
  cases f <;> simp only[hf,h0]
 |invoke r m=>rfl
 |builtin b =>
  cases b
  case len=>rcases hl:c.args.toList with _|⟨x,_|⟨y,l⟩⟩ <;> rcases ht:c.argTypes.toList with _|⟨t,_|⟨t',l'⟩⟩ <;> simp_all
  case cap=>rcases hl:c.args.toList with _|⟨x,_|⟨y,l⟩⟩ <;> rcases ht:c.argTypes.toList with _|⟨t,_|⟨t',l'⟩⟩ <;> simp_all
  case append=>rcases hl:c.args.toList with _|⟨x,_|⟨y,_|⟨z,l⟩⟩⟩ <;> rcases ht:c.argTypes.toList with _|⟨t,_|⟨t',_|⟨Xw,l'⟩⟩⟩ <;> simp_all
  case copy=>rcases hl:c.args.toList with _|⟨x,_|⟨y,_|⟨z,l⟩⟩⟩ <;> rcases ht:c.argTypes.toList with _|⟨t,_|⟨t',_|⟨Xw,l'⟩⟩⟩ <;> simp_all
  case clear=>rcases hl:c.args.toList with _|⟨x,_|⟨y,l⟩⟩ <;> rcases ht:c.argTypes.toList with _|⟨t,_|⟨t',l'⟩⟩ <;> simp_all
  case min=>rcases hl:c.args.toList with _|⟨x,l⟩ <;> rw[hl]at iE <;> simp only[List.map_congr_left fun y hy=>iE y (List.mem_cons_of_mem _ hy),iE _ (List.mem_cons_self ..)]
  case max=>rcases hl:c.args.toList with _|⟨x,l⟩ <;> rw[hl]at iE <;> simp only[List.map_congr_left fun y hy=>iE y (List.mem_cons_of_mem _ hy),iE _ (List.mem_cons_self ..)]
  all_goals rfl
theorem Ge {P:Program}{o:Oper}{e e':Nat->V}{s:List Obj}{K:V->List Obj->Prop} (h0:e 0=e' 0) (h:∀x∈o.op.operands,ev e x=ev e' x):cz P o e s K=cz P o e' s K:=by
 obtain⟨dst,op,ty,pos,after,guard⟩:=o
 have Oo:∀ps:Array (Nat×Operand),(∀x∈ps.map (·.2),ev e x=ev e' x)->(ps.toList.map fun p=>(p.1,ev e p.2))=(ps.toList.map fun p=>(p.1,ev e' p.2)):=fun ps hp =>
  List.map_congr_left fun p hm=>by
   obtain⟨i,x⟩:=p
   simp only[hp x (Array.mem_map.2 ⟨(i,x),by simpa using hm,rfl⟩)]
 cases op <;> simp only[Op.operands]at h <;> simp only[cz]
 case build t ps=>rw[Oo ps fun x hx=>h x (by simpa using hx)]
 case buildSlice t n ps=>rw[Oo ps fun x hx=>h x (by simpa using hx)]
 case makeFunc fn first captured =>
  rw[List.map_congr_left (l:=first.toList) fun x hx=>h x (by simp;exact .inl (by simpa using hx)),List.map_congr_left (l:=captured.toList) fun x hx=>h x (by simp;exact .inr (by simpa using hx))]
 case call c=>exact yL h0 h
 case slice t x lo hi mx=>cases lo <;> cases hi <;> cases mx <;> simp_all
 all_goals (first|rfl|(simp_all;done))
def l7 (full:List Oper) (o:Oper) (e:Env):Env:=fun t=>if t∈o.looksAt full.toArray\/t=0 then e t else .any
theorem dt.mask {σ s w N e a} (h:dt σ s w N e a) (full:List Oper) (o:Oper):dt σ s w N (l7 full o e) a :=
 ⟨h.1,h.2.1,fun t=>by unfold l7;split;exact h.2.2 t;exact .any⟩
theorem Ej {full:List Oper}{o:Oper}{e e':Env} (h0:e 0=e' 0) (h:∀t∈o.looksAt full.toArray,e t=e' t):l7 full o e=l7 full o e':=by
 funext t
 unfold l7
 split
 ·rename_i ht
  rcases ht with ht|rfl
  ·exact h t ht
  ·exact h0
 ·rfl
def Ha (P:Program) (full:List Oper) (o:Oper) (e:Env) (s:List Obj) (v:V) (s1:List Obj):Prop :=
 ∀(σ:Gh) (w:World) (N:Nat) (a:Act),Inv σ s w->dt σ s w N (l7 full o e) a->sd P o σ s w a fun v' s'=>v'=v/\s'=s1
def jD (P:Program) (o:Oper) (e:Env) (s:List Obj) (v:V) (s1:List Obj):Prop:=cz P o e s fun v' s'=>v'=v/\s'=s1
theorem g9 {P:Program}{full:List Oper}{o:Oper}{e:Env}{s:List Obj}{v:V}{s1:List Obj} (h:jD P o e s v s1):Ha P full o e s v s1:=by
 intro σ w N a hI hR
 refine zb hI hR ?_
 have:cz P o e s (fun v' s'=>v'=v/\s'=s1)=cz P o (l7 full o e) s (fun v' s'=>v'=v/\s'=s1):=Ge (by simp [l7]) fun x hx=>by
  cases x with
  |tmp t =>
   have ht:t∈o.looksAt full.toArray:=List.mem_append_left _ (List.mem_filterMap.2 ⟨.tmp t,by simpa using hx,rfl⟩)
   simp [ev,l7,ht]
  |_=>rfl
 rw[<- this];exact h
structure Cm where
 val:Option V
 tf:List Obj->List Obj
def lV (x:Cm):V:=x.val.getD .un
def G9 (fs:cd) (k:Nat) (f:List Obj->List Obj):Prop :=
 ∀s,(f s).length=s.length/\(∀id,id ∉ lu fs k->(f s)[id]?=s[id]?)/\∀s',s'.length=s.length->∀id,id∈lu fs k->s'[id]?=s[id]?->(f s)[id]?=(f s')[id]?
def Hp (P:Program) (full:List Oper) (bars:List Nat) (fs:cd) (i:Nat) (o:Oper) (x:Cm) (e:Env) (s:List Obj):Prop :=
 (bars.contains i=false->G9 fs i x.tf) /\
 match x.val with
 |none=>(∀s,x.tf s=s)/\∃g want d,o.guard=some (g,want)/\jV full g=some d/\(e d=.d (.sc (.bool (!want)))\/e d=.un)
 |some v=>(∀g want,o.guard=some (g,want)->∃d,jV full g=some d/\e d=.d (.sc (.bool want))) /\
   ∀s',s'.length=s.length->(bars.contains i=true->s'=s)->(∀id,Kn fs i id->s'[id]?=s[id]?)->Ha P full o e s' v (x.tf s')
def Trace (P:Program) (N:Nat) (full:List Oper) (bars:List Nat) (fs:cd):Nat->List Oper->List Cm->Env->List Obj->Env->List Obj->Prop
 |_,[],[],e,s,e',s'=>e'=e/\s'=s
 |i,o::rest,x::tr,e,s,e',s'=>dz N o.dst/\Hp P full bars fs i o x e s/\Trace P N full bars fs (i+1) rest tr (gp e o.dst (lV x)) (x.tf s) e' s'
 |_,_,_,_,_,_,_=>False
def dB:List Oper->List Cm->(Nat->Bool)->Nat->Env->Env
 |o::l,x::tr,L,k,e=>dB l tr L (k+1) (if L k then gp e o.dst (lV x) else e)
 |_,_,_,_,e=>e
theorem AM {e:Env}{d:Nat}{v:V} (h:e d=v):bB e d v=e:=by
 funext t
 unfold bB
 split
 ·rename_i ht;subst ht;exact h.symm
 ·rfl
theorem me:∀(l:List Oper) (tr:List Cm) (L:Nat->Bool) (k:Nat) (e:Env),(∀j,k<=j->L j=false)->dB l tr L k e=e
 |[],_,_,_,_,_=>by simp [dB]
 |_::_,[],_,_,_,_=>by simp [dB]
 |o::l,x::tr,L,k,e,h=>by
  simp only[dB,h k (Nat.le_refl _)]
  exact me l tr L (k+1) e fun j hj=>h j (by omega)
theorem DD:∀(m:Nat) (l:List Oper) (tr:List Cm) (k:Nat) (e:Env) (o:Oper) (x:Cm),l[m]?=some o->tr[m]?=some x ->
  dB l tr (fun j=>decide (j<k+m+1)) k e=gp (dB l tr (fun j=>decide (j<k+m)) k e) o.dst (lV x)
 |_,[],_,_,_,_,_,h,_=>by simp at h
 |_,_::_,[],_,_,_,_,_,h=>by simp at h
 |0,o'::l,x'::tr,k,e,o,x,h1,h2=>by
  simp only[List.getElem?_cons_zero,Option.some.injEq]at h1 h2
  subst h1;subst h2
  simp only[dB,Nat.add_zero,Nat.lt_irrefl,decide_false,Bool.false_eq_true,if_false,show k<k+1 by omega,decide_true,if_true]
  rw[me _ _ _ _ _ (fun j hj=>by simp;omega),me _ _ _ _ _ (fun j hj=>by simp;omega)]
 |m+1,o'::l,x'::tr,k,e,o,x,h1,h2=>by
  have h3:decide (k<k+(m+1)+1)=true:=by simp;omega
  have h4:decide (k<k+(m+1))=true:=by simp
  simp only[dB,h3,h4,if_true]
  have:=DD m l tr (k+1) (gp e o'.dst (lV x')) o x (by simpa using h1) (by simpa using h2)
  rw[show k+(m+1)+1=k+1+m+1 by omega,show k+(m+1)=k+1+m by omega]
  exact this
theorem nu (e:Env) (d:Option Nat) (v:V) (t:Nat):gp e d v t=if d=some t then v else e t:=by
 cases d with
 |none=>simp [gp]
 |some d =>
  simp only[gp,bB,Option.some.injEq]
  by_cases h:t=d
  ·rw[if_pos h,if_pos h.symm]
  ·rw[if_neg h,if_neg (Ne.symm h)]
theorem iS (t:Nat):∀(l:List Oper) (tr:List Cm) (L L':Nat->Bool) (k:Nat) (e e':Env),e t=e' t->(∀m o,l[m]?=some o->o.dst=some t->L (k+m)=L' (k+m)) ->
  dB l tr L k e t=dB l tr L' k e' t
 |[],_,_,_,_,_,_,he,_=>by simpa [dB]using he
 |_::_,[],_,_,_,_,_,he,_=>by simpa [dB]using he
 |o::l,x::tr,L,L',k,e,e',he,h=>by
  simp only[dB]
  refine iS t l tr L L' (k+1) _ _ ?_ fun m o' gE hd=>by have:=h (m+1) o' (by simpa using gE) hd;simpa [Nat.add_assoc,Nat.add_comm 1 m]using this
  by_cases hd:o.dst=some t
  ·have:=h 0 o rfl hd
   simp only[Nat.add_zero]at this
   rw[this]
   split
   ·rw[nu,nu,if_pos hd,if_pos hd]
   ·exact he
  ·have h1:∀(b:Bool) (f:Env),(if b=true then gp f o.dst (lV x) else f) t=f t:=fun b f=>by cases b <;> simp [nu,hd]
   rw[h1,h1]
   exact he
def fh:List Cm->(Nat->Bool)->Nat->List Obj->List Obj
 |x::tr,L,k,s=>fh tr L (k+1) (if L k then x.tf s else s)
 |[],_,_,s=>s
theorem nC:∀(tr:List Cm) (L:Nat->Bool) (k:Nat) (s:List Obj),(∀j,k<=j->L j=false)->fh tr L k s=s
 |[],_,_,_,_=>rfl
 |x::tr,L,k,s,h=>by
  simp only[fh]
  rw[nC tr L (k+1) _ fun j hj=>h j (by omega)]
  simp [h k (Nat.le_refl _)]
theorem ow:∀(tr:List Cm) (L L':Nat->Bool) (k:Nat) (s:List Obj),(∀m,m<tr.length->L (k+m)=L' (k+m))->fh tr L k s=fh tr L' k s
 |[],_,_,_,_,_=>rfl
 |x::tr,L,L',k,s,h=>by
  simp only[fh]
  have h0:L k=L' k:=by have:=h 0 (by simp);simpa using this
  rw[h0]
  exact ow tr L L' (k+1) _ fun m hm=>by
   have:=h (m+1) (by simpa using hm)
   rw[show k+(m+1)=k+1+m by omega]at this
   exact this
theorem HT:∀(m:Nat) (tr:List Cm) (k:Nat) (s:List Obj) (x:Cm),tr[m]?=some x ->
  fh tr (fun j=>decide (j<k+m+1)) k s=x.tf (fh tr (fun j=>decide (j<k+m)) k s)
 |_,[],_,_,_,h=>by simp at h
 |0,x'::tr,k,s,x,h=>by
  simp only[List.getElem?_cons_zero,Option.some.injEq]at h
  subst h
  simp only[fh,Nat.add_zero,Nat.lt_irrefl,decide_false,Bool.false_eq_true,if_false,show k<k+1 by omega,decide_true,if_true]
  rw[nC _ _ _ _ (fun j hj=>by simp;omega),nC _ _ _ _ (fun j hj=>by simp;omega)]
 |m+1,x'::tr,k,s,x,h=>by
  have h3:decide (k<k+(m+1)+1)=true:=by simp;omega
  have h4:decide (k<k+(m+1))=true:=by simp
  simp only[fh,h3,h4,if_true]
  have:=HT m tr (k+1) (x'.tf s) x (by simpa using h)
  rw[show k+(m+1)+1=k+1+m+1 by omega,show k+(m+1)=k+1+m by omega]
  exact this
theorem nV {bars:List Nat}{fs:cd}{R:Nat->Prop}:∀(tr:List Cm) (L L':Nat->Bool) (k:Nat) (s s':List Obj),
  (∀m x,tr[m]?=some x->bars.contains (k+m)=false->G9 fs (k+m) x.tf) ->
  (∀m,m<tr.length->L (k+m)=L' (k+m)/\(bars.contains (k+m)=true->L (k+m)=true->s=s'/\∀m',m'<m->L (k+m')=L' (k+m'))\/(bars.contains (k+m)=false/\∀id,R id->id ∉ lu fs (k+m))) ->
  s.length=s'.length->(∀id,R id->s[id]?=s'[id]?) ->
  (fh tr L k s).length=(fh tr L' k s').length/\∀id,R id->(fh tr L k s)[id]?=(fh tr L' k s')[id]?
 |[],_,_,_,s,s',_,_,hl,h=>⟨hl,h⟩
 |x::tr,L,L',k,s,s',Hu,hd,hl,h=>by
  simp only[fh]
  have U3:∀m y,tr[m]?=some y->bars.contains (k+1+m)=false->G9 fs (k+1+m) y.tf:=fun m y hy hb=>by
   have:=Hu (m+1) y (by simpa using hy) (by rw[show k+(m+1)=k+1+m by omega];exact hb)
   rwa [show k+(m+1)=k+1+m by omega]at this
  have next:∀t t':List Obj,t.length=t'.length->(∀id,R id->t[id]?=t'[id]?)->(s=s'->L k=L' k->t=t') ->
    (fh tr L (k+1) t).length=(fh tr L' (k+1) t').length/\∀id,R id->(fh tr L (k+1) t)[id]?=(fh tr L' (k+1) t')[id]?:=by
   intro t t' h1 h2 h3
   refine nV tr L L' (k+1) t t' U3 (fun m hm=>?_) h1 h2
   have:=hd (m+1) (by simpa using hm)
   rw[show k+(m+1)=k+1+m by omega]at this
   rcases this with ⟨g1,g2⟩|g
   ·refine .inl ⟨g1,fun hb Mr=>?_⟩
    obtain⟨g3,g4⟩:=g2 hb Mr
    have g0:=g4 0 (by omega)
    rw[Nat.add_zero]at g0
    exact⟨h3 g3 g0,fun m' ud=>by
     have:=g4 (m'+1) (by omega)
     rwa [show k+(m'+1)=k+1+m' by omega]at this⟩
   ·exact .inr g
  have d0:=hd 0 (by simp)
  rw[Nat.add_zero]at d0
  have RU:=Hu 0 x rfl
  rw[Nat.add_zero]at RU
  cases hL:L k with
  |false =>
   cases P7:L' k with
   |false =>
    simp only[Bool.false_eq_true,if_false]
    exact next s s' hl h fun h _=>h
   |true =>
    simp only[Bool.false_eq_true,if_false,if_true]
    rcases d0 with ⟨d0,_⟩|⟨d1,d2⟩
    ·rw[hL,P7]at d0;cases d0
    ·obtain⟨f1,f2,_⟩:=RU d1 s'
     exact next s (x.tf s') (by rw[f1];exact hl) (fun id cL=>by rw[f2 id (d2 id cL)];exact h id cL) fun _ h'=>by rw[hL,P7]at h';cases h'
  |true =>
   cases P7:L' k with
   |false =>
    simp only[Bool.false_eq_true,if_false,if_true]
    rcases d0 with ⟨d0,_⟩|⟨d1,d2⟩
    ·rw[hL,P7]at d0;cases d0
    ·obtain⟨f1,f2,_⟩:=RU d1 s
     exact next (x.tf s) s' (by rw[f1];exact hl) (fun id cL=>by rw[f2 id (d2 id cL)];exact h id cL) fun _ h'=>by rw[hL,P7]at h';cases h'
   |true =>
    simp only[if_true]
    cases hb:bars.contains k with
    |true =>
     rcases d0 with ⟨_,d0⟩|⟨d1,_⟩
     ·obtain⟨rfl,_⟩:=d0 hb hL
      exact next _ _ rfl (fun _ _=>rfl) fun _ _=>rfl
     ·rw[hb]at d1;cases d1
    |false =>
     obtain⟨f1,f2,f3⟩:=RU hb s
     obtain⟨X7,YX,_⟩:=RU hb s'
     refine next _ _ (by rw[f1,X7];exact hl) (fun id cL=>?_) fun h _=>by rw[h]
     by_cases hw:id∈lu fs k
     ·exact f3 s' hl.symm id hw (h id cL).symm
     ·rw[f2 id hw,YX id hw];exact h id cL
theorem DV {P:Program}{N:Nat}{full:List Oper}{bars:List Nat}{fs:cd}:∀(l:List Oper) (tr:List Cm) (i:Nat) (e:Env) (s:List Obj) (e':Env) (s':List Obj),Trace P N full bars fs i l tr e s e' s' ->
  tr.length=l.length/\e'=dB l tr (fun _=>true) i e/\s'=fh tr (fun _=>true) i s /\
  ∀(m:Nat) (o:Oper) (x:Cm),l[m]?=some o->tr[m]?=some x->dz N o.dst/\Hp P full bars fs (i+m) o x (dB l tr (fun j=>decide (j<i+m)) i e) (fh tr (fun j=>decide (j<i+m)) i s)
 |[],[],i,e,s,e',s',h=>by
  obtain⟨rfl,rfl⟩:=h
  exact⟨rfl,by simp [dB],rfl,fun m o x h=>by simp at h⟩
 |[],_::_,_,_,_,_,_,h=>h.elim
 |_::_,[],_,_,_,_,_,h=>h.elim
 |o::l,x::tr,i,e,s,e',s',h=>by
  obtain⟨hd,hx,ht⟩:=h
  obtain⟨h0,h1,h2,h3⟩:=DV l tr (i+1) _ _ e' s' ht
  refine⟨by simp [h0],by simp only[dB,if_true];exact h1,by simp only[fh,if_true];exact h2,fun m o1 x1 ho Li=>?_⟩
  cases m with
  |zero =>
   simp only[List.getElem?_cons_zero,Option.some.injEq]at ho Li
   subst ho;subst Li
   have e1:dB (o::l) (x::tr) (fun j=>decide (j<i+0)) i e=e:=me _ _ _ _ _ fun j hj=>by simp;omega
   have e2:fh (x::tr) (fun j=>decide (j<i+0)) i s=s:=nC _ _ _ _ fun j hj=>by simp;omega
   rw[e1,e2]
   exact⟨hd,hx⟩
  |succ m =>
   have:=h3 m o1 x1 (by simpa using ho) (by simpa using Li)
   rw[show i+(m+1)=i+1+m by omega]
   have az:decide (i<i+1+m)=true:=by simp;omega
   have e1:dB (o::l) (x::tr) (fun j=>decide (j<i+1+m)) i e=dB l tr (fun j=>decide (j<i+1+m)) (i+1) (gp e o.dst (lV x)):=by
    simp only[dB,az,if_true]
   have e2:fh (x::tr) (fun j=>decide (j<i+1+m)) i s=fh tr (fun j=>decide (j<i+1+m)) (i+1) (x.tf s):=by
    simp only[fh,az,if_true]
   rw[e1,e2]
   exact this
def rP (bc:Array Bool) (j:Nat):Bool:=bc.getD j false
def Py (bc:Array Bool):Nat:=(bc.toList.filter (!·)).length
theorem Nr {bc:Array Bool}{i:Nat} (h:bc.getD i true=false):Py (bc.setIfInBounds i true)<Py bc:=by
 have hi:i<bc.size:=by
  rcases Nat.lt_or_ge i bc.size with h'|h'
  ·exact h'
  ·simp [Array.getElem?_eq_none h']at h
 have hv:bc.toList[i]?=some false:=by
  rw[Array.getD_eq_getD_getElem?]at h
  rw[Array.getElem?_toList]
  rw[Array.getElem?_eq_getElem hi]at h ⊢
  simpa using h
 unfold Py
 rw[Array.toList_setIfInBounds]
 generalize bc.toList=l at hv
 clear h hi
 induction l generalizing i with
 |nil=>simp at hv
 |cons b l ih =>
  cases i with
  |zero =>
   simp only[List.getElem?_cons_zero,Option.some.injEq]at hv
   subst hv
   simp
  |succ i =>
   have:=ih (i:=i) (by simpa using hv)
   simp only[List.set_cons_succ,List.filter_cons]
   cases b
   ·simp only[Bool.not_false,if_true,List.length_cons];omega
   ·simpa using this
theorem Lq {bc:Array Bool} (h:Py bc=0) {i:Nat} (hi:i<bc.size):bc.getD i false=true:=by
 unfold Py at h
 rw[List.length_eq_zero_iff,List.filter_eq_nil_iff]at h
 have:=h bc[i] (by simp)
 simpa [Array.getD,hi]using this
section
variable {P:Program}{N:Nat}{full:List Oper}{bars:List Nat}{fs:cd}{tr:List Cm}{e0:Env}{s0:List Obj}
theorem ml (hd:iR full bars fs=true) {i j:Nat}{oi oj:Oper} (hi:full[i]?=some oi) (hj:full[j]?=some oj) (QJ:i<j):yg full (Bj full []) bars fs i j oi oj=true:=by
 simp only[iR,List.all_eq_true]at hd
 have h1:=hd (oi,i) (by rw[List.mem_zipIdx_iff_getElem?];exact hi)
 simp only[Bool.and_eq_true,List.all_eq_true]at h1
 have h2:=h1.2 (oj,j) (by rw[List.mem_zipIdx_iff_getElem?];exact hj)
 simpa [QJ]using h2
theorem pH (hd:iR full bars fs=true) {i:Nat}{oi:Oper} (hi:full[i]?=some oi) {x:Edge} (hx:x∈oi.after) (hb:Region.binds .any x=true):x.on<i:=by
 simp only[iR,List.all_eq_true]at hd
 have h1:=hd (oi,i) (by rw[List.mem_zipIdx_iff_getElem?];exact hi)
 simp only[Bool.and_eq_true,List.all_eq_true]at h1
 have:=h1.1.2 x (by simpa using hx)
 simpa [hb]using this
theorem nq {L:Nat->Prop} (hL:jx full L) {i j:Nat} (h:Pg (Bj full []) i j=true) (hj:L j):L i :=
 x7 hL full [] (by simp) (by simp) j i h hj
theorem zk (hd:iR full bars fs=true) {L:Nat->Bool} (hL:jx full fun j=>L j=true) {i:Nat}{oi:Oper} (hi:full[i]?=some oi) (xI:L i=false)
  (hready:∀x∈oi.after.toList,Region.binds .any x=true->L x.on=true) {m:Nat}{om:Oper} (hm:full[m]?=some om) (eF:m≠i) :
  L m=decide (m<i)\/((om.apart full.toArray oi=true/\oi.apart full.toArray om=true)/\bars.contains m=false/\bars.contains i=false/\qn fs m i=true):=by
 have P7:jx full fun j=>L j=true\/j=i:=by
  intro j o ho hj x hx hb
  rcases hj with hj|rfl
  ·exact .inl (hL j o ho hj x hx hb)
  ·rw[hi]at ho;cases ho;exact .inl (hready x hx hb)
 rcases Nat.lt_or_gt_of_ne eF with az|S2
 ·have hp:=ml hd hm hi az
  simp only[yg,Bool.or_eq_true]at hp
  rcases hp with hp|hp
  ·rcases nq P7 hp (.inr rfl) with h|h
   ·exact .inl (by rw[h];simp [az])
   ·exact absurd h eF
  ·simp only[Bool.and_eq_true,Bool.not_eq_true']at hp
   obtain⟨⟨⟨⟨a1,a2⟩,a3⟩,a4⟩,a5⟩:=hp
   exact .inr ⟨⟨a1,a2⟩,a3,a4,a5⟩
 ·have hp:=ml hd hi hm S2
  simp only[yg,Bool.or_eq_true]at hp
  rcases hp with hp|hp
  ·cases GV:L m with
   |false=>exact .inl (by simp;omega)
   |true=>have:=nq hL hp GV;rw[xI]at this;cases this
  ·simp only[Bool.and_eq_true,Bool.not_eq_true']at hp
   obtain⟨⟨⟨⟨a1,a2⟩,a3⟩,a4⟩,a5⟩:=hp
   exact .inr ⟨⟨a2,a1⟩,a4,a3,wY a5⟩
theorem sP (hd:iR full bars fs=true) {L:Nat->Bool} (hL:jx full fun j=>L j=true) {k m:Nat} (hk:bars.contains k=true) (TO:L k=true) (Q6:k<full.length) (hm:m<k):L m=true:=by
 have hp:=ml hd (List.getElem?_eq_getElem (by omega:m<full.length)) (List.getElem?_eq_getElem Q6) hm
 simp only[yg,Bool.or_eq_true]at hp
 rcases hp with hp|hp
 ·exact nq hL hp TO
 ·simp only[Bool.and_eq_true,Bool.not_eq_true']at hp
  rw[hk]at hp;exact absurd hp.1.2 (by simp)
theorem jx.add {L:Nat->Bool} (hL:jx full fun j=>L j=true) {i:Nat}{oi:Oper} (hi:full[i]?=some oi) (hready:∀x∈oi.after.toList,Region.binds .any x=true->L x.on=true) {L':Nat->Bool}
  (h':∀j,L' j=(L j||decide (j=i))):jx full fun j=>L' j=true:=by
 intro j o ho hj x hx hb
 have hj:L' j=true:=hj
 show L' x.on=true
 rw[h',Bool.or_eq_true]at hj ⊢
 rcases hj with hj|hj
 ·exact .inl (hL j o ho hj x hx hb)
 ·rw[decide_eq_true_eq]at hj;subst hj
  rw[hi]at ho;cases ho
  exact .inl (hready x hx hb)
theorem vh (hd:iR full bars fs=true) {L:Nat->Bool} (hL:jx full fun j=>L j=true) {i:Nat}{oi:Oper} (hi:full[i]?=some oi) (xI:L i=false)
  (hready:∀x∈oi.after.toList,Region.binds .any x=true->L x.on=true) {t:Nat} (ht:t∈oi.looksAt full.toArray):dB full tr L 0 e0 t=dB full tr (fun j=>decide (j<0+i)) 0 e0 t:=by
 refine iS t full tr _ _ 0 _ _ rfl fun m om hm zJ=>?_
 simp only[Nat.zero_add]
 by_cases eF:m=i
 ·subst eF;simp [xI]
 ·rcases zk hd hL hi xI hready hm eF with h|⟨⟨h,_⟩,_⟩
  ·exact h
  ·exact absurd ht ((Oper.apart_spec h).1 t zJ)
theorem K6 (hd:iR full bars fs=true) (L L':Nat->Bool):dB full tr L 0 e0 0=dB full tr L' 0 e0 0:=by
 refine iS 0 full tr _ _ 0 _ _ rfl fun m om hm zJ=>?_
 unfold iR at hd
 have:=List.all_eq_true.1 hd (om,m) (List.mem_zipIdx_iff_getElem?.2 hm)
 simp [OQ,zJ]at this
theorem NW (hd:iR full bars fs=true) {L:Nat->Bool} (hL:jx full fun j=>L j=true) {i:Nat}{oi:Oper} (hi:full[i]?=some oi) (xI:L i=false)
  (hready:∀x∈oi.after.toList,Region.binds .any x=true->L x.on=true) {x:Cm} (hx:tr[i]?=some x) {L':Nat->Bool} (h':∀j,L' j=(L j||decide (j=i))) :
  dB full tr L' 0 e0=gp (dB full tr L 0 e0) oi.dst (lV x):=by
 funext t
 by_cases Sz:oi.dst=some t
 ·rw[nu,if_pos Sz]
  have h1:dB full tr L' 0 e0 t=dB full tr (fun j=>decide (j<0+i+1)) 0 e0 t:=by
   refine iS t full tr _ _ 0 _ _ rfl fun m om hm zJ=>?_
   simp only[Nat.zero_add]
   rw[h']
   by_cases eF:m=i
   ·subst eF;simp
   ·rcases zk hd hL hi xI hready hm eF with h|⟨⟨h,_⟩,_⟩
    ·rw[h];simp only[eF,decide_false,Bool.or_false];rw[decide_eq_decide];omega
    ·exact absurd Sz ((Oper.apart_spec h).2.1 t zJ)
  rw[h1,DD i full tr 0 e0 oi x hi hx,nu,if_pos Sz]
 ·rw[nu,if_neg Sz]
  refine iS t full tr _ _ 0 _ _ rfl fun m om hm zJ=>?_
  simp only[Nat.zero_add]
  rw[h']
  by_cases eF:m=i
  ·subst eF;rw[hi]at hm;cases hm;exact absurd zJ Sz
  ·simp [eF]
theorem uT (hd:iR full bars fs=true) (hl:tr.length=full.length) (Hu:∀m x,tr[m]?=some x->bars.contains m=false->G9 fs m x.tf) {L:Nat->Bool} (hL:jx full fun j=>L j=true) {i:Nat}{oi:Oper} (hi:full[i]?=some oi) (xI:L i=false)
  (hready:∀x∈oi.after.toList,Region.binds .any x=true->L x.on=true) {R:Nat->Prop} (hR:∀m,bars.contains i=false->qn fs m i=true->∀id,R id->id ∉ lu fs m) :
  (fh tr L 0 s0).length=(fh tr (fun j=>decide (j<0+i)) 0 s0).length/\∀id,R id->(fh tr L 0 s0)[id]?=(fh tr (fun j=>decide (j<0+i)) 0 s0)[id]?:=by
 have W5:i<full.length:=(List.getElem?_eq_some_iff.1 hi).1
 refine nV (bars:=bars) (fs:=fs) tr _ _ 0 s0 s0 (fun m x hx hb=>by rw[Nat.zero_add]at hb ⊢;exact Hu m x hx hb) (fun m hm=>?_) rfl fun _ _=>rfl
 simp only[Nat.zero_add]
 have Qp:bars.contains m=true->L m=true->m<i->∀m',m'<m->L m'=decide (m'<i):=by
  intro hb GV UF m' ud
  rw[sP hd hL hb GV (by omega) ud];simp;omega
 by_cases eF:m=i
 ·subst eF
  exact .inl ⟨by simp [xI],fun _ h=>by rw[xI]at h;cases h⟩
 ·rcases zk hd hL hi xI hready (List.getElem?_eq_getElem (by omega:m<full.length)) eF with h|⟨_,h1,h2,h3⟩
  ·exact .inl ⟨h,fun hb GV=>⟨trivial,Qp hb GV (by rw[GV]at h;simpa using h.symm)⟩⟩
  ·exact .inr ⟨h1,hR m h2 h3⟩
theorem Qd (hd:iR full bars fs=true) (hl:tr.length=full.length) (Hu:∀m x,tr[m]?=some x->bars.contains m=false->G9 fs m x.tf) {L:Nat->Bool} (hL:jx full fun j=>L j=true) {i:Nat}{oi:Oper} (hi:full[i]?=some oi) (xI:L i=false)
  (hready:∀x∈oi.after.toList,Region.binds .any x=true->L x.on=true) {x:Cm} (hx:tr[i]?=some x) {L':Nat->Bool} (h':∀j,L' j=(L j||decide (j=i))) :
  fh tr L' 0 s0=x.tf (fh tr L 0 s0):=by
 have W5:i<full.length:=(List.getElem?_eq_some_iff.1 hi).1
 have az:=HT i tr 0 s0 x hx
 rw[Nat.zero_add]at az
 have Qp:∀m,m<tr.length->bars.contains m=true->L m=true->m<i->∀m',m'<m->L m'=decide (m'<i):=by
  intro m hm hb GV UF m' ud
  rw[sP hd hL hb GV (by omega) ud];simp;omega
 by_cases hb:bars.contains i=true
 ·
  have bM:∀m,m<tr.length->L m=decide (m<i):=by
   intro m hm
   by_cases eF:m=i
   ·subst eF;simp [xI]
   ·rcases zk hd hL hi xI hready (List.getElem?_eq_getElem (by omega:m<full.length)) eF with h|⟨_,_,h2,_⟩
    ·exact h
    ·rw[hb]at h2;cases h2
  rw[ow tr L (fun j=>decide (j<i)) 0 s0 fun m hm=>by rw[Nat.zero_add];exact bM m hm,<- az]
  refine ow tr _ _ 0 s0 fun m hm=>?_
  rw[Nat.zero_add,h',bM m hm]
  by_cases eF:m=i
  ·subst eF;simp
  ·simp only[eF,decide_false,Bool.or_false];rw[decide_eq_decide];omega
 ·have hb:bars.contains i=false:=by simpa using hb
  obtain⟨f1,f2,f3⟩:=Hu i x hx hb (fh tr L 0 s0)
  -- off Uf i writes: nothing is new
  have Vt:=nV (bars:=bars) (fs:=fs) (R:=fun id=>id ∉ lu fs i) tr L' L 0 s0 s0 (fun m y hy hb=>by rw[Nat.zero_add]at hb ⊢;exact Hu m y hy hb) (fun m hm=>by
    simp only[Nat.zero_add]
    by_cases eF:m=i
    ·subst eF;exact .inr ⟨hb,fun id cL=>cL⟩
    ·have e1:L' m=L m:=by rw[h'];simp [eF]
     refine .inl ⟨e1,fun Q1 GV=>⟨trivial,fun m' ud=>?_⟩⟩
     rw[e1]at GV
     have:=sP hd hL Q1 GV (by omega) ud
     rw[h',this];rfl) rfl fun _ _=>rfl
  -- on Uf i writes: as in V0 UU order
  have YO:=nV (bars:=bars) (fs:=fs) (R:=fun id=>id∈lu fs i) tr L' (fun j=>decide (j<i+1)) 0 s0 s0 (fun m y hy hb=>by rw[Nat.zero_add]at hb ⊢;exact Hu m y hy hb) (fun m hm=>by
    simp only[Nat.zero_add]
    by_cases eF:m=i
    ·subst eF
     refine .inl ⟨by rw[h'];simp,fun Q1 _=>by rw[hb]at Q1;cases Q1⟩
    ·have e1:L' m=L m:=by rw[h'];simp [eF]
     rcases zk hd hL hi xI hready (List.getElem?_eq_getElem (by omega:m<full.length)) eF with h|⟨_,h1,_,h3⟩
     ·refine .inl ⟨by rw[e1,h,decide_eq_decide];omega,fun Q1 GV=>⟨trivial,fun m' ud=>?_⟩⟩
      rw[e1]at GV
      have UF:m<i:=by rw[GV]at h;simpa using h.symm
      rw[h',Qp m hm Q1 GV UF m' ud]
      simp only[show m'≠i by omega,decide_false,Bool.or_false];rw[decide_eq_decide];omega
     ·exact .inr ⟨h1,fun id cL=>(pY (wY h3) cL).2⟩) rfl fun _ _=>rfl
  refine List.ext_getElem? fun id=>?_
  by_cases hw:id∈lu fs i
  ·have:=uT (s0:=s0) hd hl Hu hL hi xI hready (R:=fun id=>id∈lu fs i) (fun m _ hc id cL hm=>(pY hc hm).2 cL)
   rw[Nat.zero_add]at this
   rw[YO.2 id hw,az,f3 _ this.1.symm id hw (this.2 id hw).symm]
  ·rw[Vt.2 id hw,f2 id hw]
theorem E7 {σ:Gh}{s:List Obj}{w:World}{e:Env}{a:Act}{o:Oper}{g:Nat}{want:Bool}{d:Nat} (hR:dt σ s w N e a) (ho:o.guard=some (g,want)) (hg:jV full g=some d) :
  (e d=.d (.sc (.bool want))->Region.wanted o (yielded full.toArray a.tmps)=true)/\(e d=.d (.sc (.bool (!want)))\/e d=.un->Region.wanted o (yielded full.toArray a.tmps)=false):=by
 constructor
 ·intro h
  have hw:jA (jV full g) e want (fun _=>True) (fun _=>False):=by
   rw[hg];simp [jA,h]
  obtain⟨_,_,h|h⟩:=sY hR ho hw
  ·exact h.1
  ·exact h.2.elim
 ·intro h
  have hw:jA (jV full g) e want (fun _=>False) (fun _=>True):=by
   rw[hg]
   rcases h with h|h <;> simp [jA,h]
  obtain⟨_,_,h|h⟩:=sY hR ho hw
  ·exact h.2.elim
  ·exact h.1
theorem Jx (hd:iR full bars fs=true) {e1:Env}{s1:List Obj} (ht:Trace P N full bars fs 0 full tr e0 s0 e1 s1)
  {Tf:Gh}{Rn:List Obj}{Q0:World}{Q:Exit->Env->List Obj->Prop}{r:Option Nat}{D:List Deferred}{ws:World} (hQ:Q .normal e1 s1):∀(fuel:Nat) (bc:Array Bool) (σ:Gh) (w:World) (a:Act),bc.size=full.length->Py bc<=fuel ->
  (jx full fun j=>rP bc j=true)->mu ws w->aA Tf Rn Q0 σ (fh tr (rP bc) 0 s0) w->Inv σ (fh tr (rP bc) 0 s0) w->dt σ (fh tr (rP bc) 0 s0) w N (dB full tr (rP bc) 0 e0) a ->
  wpAnyIn (Ar r) 0 P .any full.toArray (QR ws D (QX Tf Rn Q0 N Q)) fuel bc (Act.wD a D) w:=by
 intro fuel
 obtain⟨hl,t1,t2,t3⟩:=DV full tr 0 e0 s0 e1 s1 ht
 have Hu:∀m x,tr[m]?=some x->bars.contains m=false->G9 fs m x.tf:=by
  intro m x hx hb
  have hm:m<full.length:=by have:=(List.getElem?_eq_some_iff.1 hx).1;omega
  have:=(t3 m full[m] x (List.getElem?_eq_getElem hm) hx).2.1
  rw[Nat.zero_add]at this
  exact this hb
 -- when nothing is ready all is bc
 have Cf:∀bc:Array Bool,bc.size=full.length->Region.ready .any full.toArray bc=[]->∀j,j<full.length->rP bc j=true:=by
  intro bc fo hr j
  induction j using Nat.strongRecOn with
  |_ j ih =>
   intro hj
   cases Wg:rP bc j with
   |true=>rfl
   |false =>
    exfalso
    have:j∈Region.ready .any full.toArray bc:=by
     rw[mem_ready]
     refine⟨?_,full[j],by simp [hj],fun x hx hb=>?_⟩
     ·unfold rP at Wg
      have:j<bc.size:=by omega
      simpa [Array.getD,this]using Wg
     ·exact ih x.on (pH hd (List.getElem?_eq_getElem hj) hx hb) (by
       have:=pH hd (List.getElem?_eq_getElem hj) hx hb;omega)
    rw[hr]at this
    cases this
 have fin:∀(bc:Array Bool) (σ:Gh) (w:World) (a:Act),(∀j,j<full.length->rP bc j=true)->mu ws w->aA Tf Rn Q0 σ (fh tr (rP bc) 0 s0) w->Inv σ (fh tr (rP bc) 0 s0) w ->
   dt σ (fh tr (rP bc) 0 s0) w N (dB full tr (rP bc) 0 e0) a->QR ws D (QX Tf Rn Q0 N Q) .normal (Act.wD a D) w:=by
  intro bc σ w a bM hk hE hI hR
  have he:dB full tr (rP bc) 0 e0=e1:=by
   rw[t1]
   funext t
   refine iS t full tr _ _ 0 _ _ rfl fun m om hm _=>?_
   rw[Nat.zero_add]
   exact bM m (List.getElem?_eq_some_iff.1 hm).1
  have hs:fh tr (rP bc) 0 s0=s1:=by
   rw[t2]
   refine ow tr _ _ 0 _ fun m hm=>?_
   rw[Nat.zero_add]
   exact bM m (by omega)
  rw[he,hs]at hR
  rw[hs]at hE hI
  exact Bl hk hR.1 ⟨e1,σ,s1,hE,hI,hR,hQ⟩
 have EI:∀bc:Array Bool,(∀j,j<full.length->rP bc j=true)->Region.ready .any full.toArray bc=[]:=by
  intro bc bM
  rw[List.eq_nil_iff_forall_not_mem]
  intro j hj
  rw[mem_ready]at hj
  obtain⟨h0,o,ho,_⟩:=hj
  have Tb:j<full.length:=by simpa using (Array.getElem?_eq_some_iff.1 ho).1
  have:=bM j Tb
  unfold rP at this
  rw[Array.getD_eq_getD_getElem?]at this h0
  cases hx:bc[j]? with
  |none=>rw[hx]at h0;cases h0
  |some b=>rw[hx]at this h0;simp only[Option.getD_some]at this h0;rw[this]at h0;cases h0
 induction fuel with
 |zero =>
  intro bc σ w a fo hu hL hk hE hI hR
  have bM:∀j,j<full.length->rP bc j=true:=fun j hj=>Lq (by omega) (by omega)
  exact⟨EI bc bM,fin bc σ w a bM hk hE hI hR⟩
 |succ fuel ih =>
  intro bc σ w a fo hu hL hk hE hI hR
  refine⟨fun hr=>fin bc σ w a (Cf bc fo hr) hk hE hI hR,fun i WN=>?_⟩
  rw[mem_ready]at WN
  obtain⟨h0,o,ho,OW⟩:=WN
  have W5:i<full.length:=by simpa using (Array.getElem?_eq_some_iff.1 ho).1
  have Mt:full[i]?=some o:=by simpa using ho
  have xI:rP bc i=false:=by
   unfold rP
   have:i<bc.size:=by omega
   simp only[Array.getD,this,dif_pos]at h0 ⊢
   exact h0
  have hready:∀x∈o.after.toList,Region.binds .any x=true->rP bc x.on=true:=fun x hx hb=>OW x (by simpa using hx) hb
  have hx:∃x,tr[i]?=some x:=⟨tr[i],List.getElem?_eq_getElem (by omega)⟩
  obtain⟨x,hx⟩:=hx
  have h':∀j,rP (bc.setIfInBounds i true) j=(rP bc j||decide (j=i)):=by
   intro j
   unfold rP
   by_cases O5:j=i
   ·subst O5
    have:j<bc.size:=by omega
    simp [this]
   ·rw[getD_set_ne false (Ne.symm O5)];simp [O5]
  have Ob:=ih (bc.setIfInBounds i true)
  have Wa:=NW (tr:=tr) (e0:=e0) hd hL Mt xI hready hx h'
  have SG:=Qd (s0:=s0) hd hl Hu hL Mt xI hready hx h'
  have iJ:=jx.add hL Mt hready h'
  have ZF:=Nr h0
  obtain⟨zJ,_,QP⟩:=t3 i o x Mt hx
  unfold wpOpIn
  rw[ho]
  simp only
  cases hv:x.val with
  |none =>
   rw[hv]at QP
   obtain⟨ct,g,want,d,hg,Qw,Mz⟩:=QP
   have PI:d∈o.looksAt full.toArray:=by
    unfold jV at Qw
    split at Qw
    ·rename_i og P6
     simp [Oper.looksAt,hg,P6,Qw]
    ·cases Qw
   rw[<- vh (tr:=tr) (e0:=e0) hd hL Mt xI hready PI]at Mz
   rw[show Region.wanted o (yielded full.toArray (Act.wD a D).tmps)=false from (E7 hR hg Qw).2 Mz]
   simp only[Bool.false_eq_true,if_false]
   rw[ct]at SG
   rw[vT]
   refine⟨fun _ _=>trivial,?_⟩
   refine Ob σ w _ (by simpa using fo) (by omega) iJ hk (by rw[SG];exact hE) (by rw[SG];exact hI) ?_
   rw[SG,Wa]
   have:lV x=.un:=by simp [lV,hv]
   rw[this]
   exact hR.put zJ .un
  |some v =>
   rw[hv]at QP
   obtain⟨Qw,BM⟩:=QP
   have RC:Region.wanted o (yielded full.toArray a.tmps)=true:=by
    cases hg:o.guard with
    |none=>simp [Region.wanted,hg]
    |some gw =>
     obtain⟨g,want⟩:=gw
     obtain⟨d,Mz,Xc⟩:=Qw g want hg
     have PI:d∈o.looksAt full.toArray:=by
      unfold jV at Mz
      split at Mz
      ·rename_i og P6
       simp [Oper.looksAt,hg,P6,Mz]
      ·cases Mz
     rw[<- vh (tr:=tr) (e0:=e0) hd hL Mt xI hready PI]at Xc
     exact(E7 hR hg Mz).1 Xc
   rw[if_pos (show Region.wanted o (yielded full.toArray (Act.wD a D).tmps)=true from RC)]
   have Rs:Ha P full o (dB full tr (rP bc) 0 e0) (fh tr (rP bc) 0 s0) v (fh tr (rP (bc.setIfInBounds i true)) 0 s0):=by
    have hm:l7 full o (dB full tr (rP bc) 0 e0)=l7 full o (dB full tr (fun j=>decide (j<0+i)) 0 e0):=Ej (K6 hd _ _) fun t ht=>vh hd hL Mt xI hready ht
    unfold Ha
    rw[hm,SG]
    refine BM _ ?_ ?_ ?_
    ·exact(uT (s0:=s0) hd hl Hu hL Mt xI hready (R:=fun _=>False) (fun _ _ _ _ h=>h.elim)).1
    ·intro hb
     rw[Nat.zero_add]at hb
     have:=uT (s0:=s0) hd hl Hu hL Mt xI hready (R:=fun _=>True) (fun _ h=>by rw[hb]at h;cases h)
     exact List.ext_getElem? fun id=>this.2 id trivial
    ·intro id cL
     rw[Nat.zero_add]at cL
     exact(uT (s0:=s0) hd hl Hu hL Mt xI hready (R:=fun id=>Kn fs i id) (fun m _ hc id cL hw=>(pY hc hw).1 cL)).2 id cL
   refine Oper.wpIn_mono (fun a' w' ⟨a0,h1,u,v',σ',s',ha,sR,im,nI,hK⟩=>?_) (H0 (fun a' w' ⟨u,_,_,_,ha,_⟩=>⟨u,ha⟩) (Rs σ w N a hI (hR.mask full o)))
   obtain⟨rfl,rfl⟩:=hK
   subst ha h1
   refine Ob σ' w' _ (by simpa using fo) (by omega) iJ (hk.trans (.of hI sR)) (hE.trans sR) im ?_
   rw[Wa]
   have:lV x=v':=by simp [lV,hv]
   rw[this]
   exact(hR.aO sR).put zJ nI
theorem Ey (hm:P.follows .mixedOrders=true) (hd:iR full bars fs=true) {e:Env}{s:List Obj}{e1:Env}{s1:List Obj} (ht:Trace P N full bars fs 0 full tr e s e1 s1) {K:Env->List Obj->Prop} (hK:K e1 s1):qi P N full e s K:=by
 intro σ0 Rn w0 Q RH σ w a id hE hI hR
 intro r D
 refine wpIn_region_any hm ?_
 have hf:∀j,rP (Array.replicate full.toArray.size false) j=false:=by
  intro j
  unfold rP
  rw[Array.getD_eq_getD_getElem?,Array.getElem?_replicate]
  split <;> rfl
 have hs:fh tr (rP (Array.replicate full.toArray.size false)) 0 s=s:=nC _ _ _ _ fun j _=>hf j
 have he:dB full tr (rP (Array.replicate full.toArray.size false)) 0 e=e:=me _ _ _ _ _ fun j _=>hf j
 refine Jx hd ht (RH e1 s1 hK) _ _ σ _ a (by simp) ?_ (fun j o _ hj=>by have hj:rP _ j=true:=hj;rw[hf j]at hj;cases hj) (fun _ _ h _=>h) ?_ ?_ ?_
 ·unfold Py
  refine Nat.le_trans (List.length_filter_le _ _) (by simp)
 ·rw[hs];exact hE.trans (mc hI).1
 ·rw[hs];exact(mc hI).2
 ·rw[hs,he];exact hR.aO (mc hI).1
end
end Go.VL
