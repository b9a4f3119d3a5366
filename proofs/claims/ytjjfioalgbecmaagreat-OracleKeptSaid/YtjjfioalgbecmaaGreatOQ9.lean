/- A part of the proof (Vn). -/
import Derived.Test.YtjjfioalgbecmaaGreatOQ7
set_option linter.unusedSimpArgs false
set_option linter.unusedVariables false
set_option maxRecDepth 100000
set_option maxHeartbeats 80000000
namespace Go.VL
variable{i:Nat}{e':Nat->V}{e:Env}{s:List Obj}{P:Program}{K:V->List Obj->Prop}{o:Oper}{full:List Oper}{bq:Array Bool}
def Ru (acc:List Nat) (es:List Edge):Nat :=
 es.foldl (λm e=>if Region.binds .any e then m ||| 2 ^ e.on ||| acc.getD e.on 0 else m) 0
def Hk:List Oper->List Nat->List Nat
 |[],acc=>acc
 |o::rest,acc=>Hk rest (acc++[Ru acc o.after.toList])
def Ya (ms:List Nat) (i j:Nat):Bool:=(ms.getD j 0).testBit i
def lB (full:List Oper) (L:Nat->Prop):Prop:=∀j o,full[j]?=some o->L j->∀e∈o.after.toList,Region.binds .any e=true->L e.on
theorem v9 {L:Nat->Prop}{acc:List Nat} (oI:∀j i,(acc.getD j 0).testBit i=true->L j->L i):∀(es:List Edge) (m:Nat),(∀e∈es,Region.binds .any e=true->L e.on)->(∀i,m.testBit i=true->L i) ->
  ∀i,(es.foldl (λm e=>if Region.binds .any e then m ||| 2 ^ e.on ||| acc.getD e.on 0 else m) m).testBit i=true->L i
 |[],m,_,hm,i,h=>hm i h
 |e::es,m,he,hm,i,h=>by
  simp only[akY]at h;refine v9 oI es _ (λe' h'=>he e' (List.mem_cons_of_mem _ h')) (λi' h'=>?_) i h;split at h'
  ·rename_i hb;have hon:=he e (List.mem_cons_self ..) hb;rw[Nat.testBit_or,Nat.testBit_or,Nat.testBit_two_pow]at h';simp only[Bool.or_eq_true,decide_eq_true_eq]at h';rcases h' with (h'|h')|h'
   ·exact hm i' h'
   ·rw[<- h'];exact hon
   ·exact oI _ _ h' hon
  ·exact hm i' h'
theorem Cn {full:List Oper}{L:Nat->Prop} (hL:lB full L):∀(l:List Oper) (acc:List Nat),(∀j,l[j]?=full[acc.length+j]?)->(∀j i,(acc.getD j 0).testBit i=true->L j->L i) ->
  ∀j i,Ya (Hk l acc) i j=true->L j->L i
 |[],acc,_,oI,j,i,h,hj=>oI j i h hj
 |o::rest,acc,hl,oI,j,i,h,hj=>by
  simp only[Hk]at h;refine Cn hL rest _ (λk=>by have:=hl (k+1);simpa [aky,Nat.add_comm 1 k]using this) (λk i' hk hLk=>?_) j i h hj;by_cases az:k<acc.length
  ·rw[List.getD_eq_getElem?_getD,List.getElem?_append_left az,<- List.getD_eq_getElem?_getD]at hk;exact oI k i' hk hLk
  ·by_cases heq:k=acc.length
   ·subst heq;rw[List.getD_eq_getElem?_getD,List.getElem?_append_right (ajZ _)]at hk;simp only[akQ,List.getElem?_cons_zero,ak2]at hk;have ho:full[acc.length]?=some o:=by have:=hl 0;simpa using this.symm
    exact v9 oI _ 0 (λe he hb=>hL _ o ho hLk e he hb) ak i' hk
   ·rw[List.getD_eq_getElem?_getD,List.getElem?_eq_none cC]at hk;simp at hk
abbrev cE:=List (Nat×List Nat×List Nat)
def ic:cE->Nat->Option (List Nat×List Nat)
 |[],_=>none
 |(k,f)::l,i=>if k=i then some f else ic l i
def nC (fs:cE) (i:Nat):List Nat :=
 match ic fs i with
 |some (_,w)=>w
 |none=>[]
def Ip:cE->List Nat
 |[]=>[]
 |(_,_,w)::l=>w++Ip l
theorem Lg:∀{fs:cE}{i id:Nat},id∈nC fs i->id∈Ip fs
 |[],i,id,h=>by simp [nC,ic]at h
 |(k,r,w)::l,i,id,h=>by
  unfold nC at h;simp only[ic]at h;simp only[Ip,akm];by_cases hk:k=i
  ·rw[be hk]at h;exact .inl h
  ·rw[ap hk]at h;exact .inr (Lg h)
def R5 (fs:cE) (i id:Nat):Prop :=
 match ic fs i with
 |some (r,_)=>id∈r
 |none=>id ∉ Ip fs
def tW (fs:cE) (i j:Nat):Bool :=
 match ic fs i,ic fs j with
 |some (r,w),some (r',w')=>w.all (λid=>!r'.contains id&&!w'.contains id)&&w'.all λid=>!r.contains id
 |_,_=>true
def Cw (full:List Oper) (ms:List Nat) (bars:List Nat) (fs:cE) (i j:Nat) (oi oj:Oper):Bool :=
 Ya ms i j||(oi.apart full.toArray oj&&oj.apart full.toArray oi&&!bars.contains i&&!bars.contains j&&tW fs i j)
def XL (o:Oper):Bool:=(match o.op with|.select ..=>false|_=>true)&&!(o.dst == some 0)
def jX (full:List Oper) (bars:List Nat) (fs:cE):Bool :=
 let ms:=Hk full []
 full.zipIdx.all (λ(oi,i)=>XL oi&&oi.after.toList.all (λe=>!Region.binds .any e||decide (e.on<i))&&full.zipIdx.all λ(oj,j)=>!decide (i<j)||Cw full ms bars fs i j oi oj)
theorem tF {fs:cE}{j:Nat} (h:tW fs i j=true) {id:Nat} (hw:id∈nC fs i):¬R5 fs j id/\id ∉ nC fs j:=by
 have ha:=Lg hw;unfold tW at h;unfold nC at hw ⊢;unfold R5;cases hi:ic fs i with
 |none=>rw[hi]at hw;cases hw
 |some x =>
  obtain⟨r,w⟩:=x;rw[hi]at hw h;simp only at hw;cases hj:ic fs j with
  |none=>exact⟨λh=>h ha,ak⟩
  |some y =>
   obtain⟨r',w'⟩:=y;rw[hj]at h;simp only[aj5,aj3]at h;have:=h.1 id hw;simp only[aj5,Bool.not_eq_true',List.contains_eq_mem,decide_eq_false_iff_not]at this;exact this
theorem A7 {fs:cE}{j:Nat} (h:tW fs i j=true):tW fs j i=true:=by
 unfold tW at *;cases hi:ic fs i with
 |none=>cases ic fs j <;> rfl
 |some x =>
  cases hj:ic fs j with
  |none=>rfl
  |some y =>
   obtain⟨r,w⟩:=x;obtain⟨r',w'⟩:=y;rw[hi,hj]at h;simp only[aj5,aj3,Bool.not_eq_true',List.contains_eq_mem,decide_eq_false_iff_not]at h ⊢;exact⟨λid dc=>⟨h.2 id dc,λhw=>(h.1 id hw).2 dc⟩,λid dc=>(h.1 id dc).1⟩
theorem De{c:Call}{e:Nat->V} (h0:e 0=e' 0) (h:∀x∈c.operands,ev e x=ev e' x):gZ P c e s K=gZ P c e' s K:=by
 have kj:∀x∈c.args.toList,ev e x=ev e' x:=λx hx=>h x (by simp [Call.operands];exact .inr (by simpa using hx));have hm:c.args.toList.map (ev e)=c.args.toList.map (ev e'):=akz kj;unfold gZ;rw[hm];cases hc:c.callee with
 |value f =>
  have hf:ev e f=ev e' f:=h f (by simp [Call.operands,hc]);cases f <;> simp only[hf,h0]
 |invoke r m=>rfl
 |builtin b =>
  cases b
  case len=>rcases hl:c.args.toList with _|⟨x,_|⟨y,l⟩⟩ <;> rcases ht:c.argTypes.toList with _|⟨t,_|⟨t',l'⟩⟩ <;> simp_all
  case cap=>rcases hl:c.args.toList with _|⟨x,_|⟨y,l⟩⟩ <;> rcases ht:c.argTypes.toList with _|⟨t,_|⟨t',l'⟩⟩ <;> simp_all
  case append=>rcases hl:c.args.toList with _|⟨x,_|⟨y,_|⟨z,l⟩⟩⟩ <;> rcases ht:c.argTypes.toList with _|⟨t,_|⟨t',_|⟨t'',l'⟩⟩⟩ <;> simp_all
  case copy=>rcases hl:c.args.toList with _|⟨x,_|⟨y,_|⟨z,l⟩⟩⟩ <;> rcases ht:c.argTypes.toList with _|⟨t,_|⟨t',_|⟨t'',l'⟩⟩⟩ <;> simp_all
  case clear=>rcases hl:c.args.toList with _|⟨x,_|⟨y,l⟩⟩ <;> rcases ht:c.argTypes.toList with _|⟨t,_|⟨t',l'⟩⟩ <;> simp_all
  case min=>rcases hl:c.args.toList with _|⟨x,l⟩ <;> rw[hl]at kj <;> simp only[akz λy hy=>kj y (List.mem_cons_of_mem _ hy),kj _ (List.mem_cons_self ..)]
  case max=>rcases hl:c.args.toList with _|⟨x,l⟩ <;> rw[hl]at kj <;> simp only[akz λy hy=>kj y (List.mem_cons_of_mem _ hy),kj _ (List.mem_cons_self ..)]
  all_goals rfl
theorem Mz{e:Nat->V} (h0:e 0=e' 0) (h:∀x∈o.op.operands,ev e x=ev e' x):cz P o e s K=cz P o e' s K:=by
 obtain⟨dst,op,ty,pos,after,guard⟩:=o;have Xl:∀ps:Array (Nat×Operand),(∀x∈ps.map (·.2),ev e x=ev e' x)->(ps.toList.map λp=>(p.1,ev e p.2))=(ps.toList.map λp=>(p.1,ev e' p.2)):=λps hp =>
  akz λp hm=>by obtain⟨i,x⟩:=p;simp only[hp x (Array.mem_map.2 ⟨(i,x),by simpa using hm,rfl⟩)]
 cases op <;> simp only[Op.operands]at h <;> simp only[cz]
 case build t ps=>rw[Xl ps λx hx=>h x (by simpa using hx)]
 case buildSlice t n ps=>rw[Xl ps λx hx=>h x (by simpa using hx)]
 case makeFunc fn first captured =>
  rw[akz (l:=first.toList) λx hx=>h x (by simp;exact .inl (by simpa using hx)),akz (l:=captured.toList) λx hx=>h x (by simp;exact .inr (by simpa using hx))]
 case call c=>exact De h0 h
 case slice t x lo hi mx=>cases lo <;> cases hi <;> cases mx <;> simp_all
 all_goals (first|rfl|(simp_all;done))
def ot (full:List Oper) (o:Oper) (e:Env):Env:=λt=>if t∈o.looksAt full.toArray\/t=0 then e t else .any
theorem dC.mask {σ s w N e a} (h:dC σ s w N e a) (full:List Oper) (o:Oper):dC σ s w N (ot full o e) a :=
 ⟨h.1,h.2.1,λt=>by unfold ot;split;exact h.2.2 t;exact .any⟩
theorem KE{e':Env} (h0:e 0=e' 0) (h:∀t∈o.looksAt full.toArray,e t=e' t):ot full o e=ot full o e':=by
 funext t;unfold ot;split
 ·rename_i ht;rcases ht with ht|rfl
  ·exact h t ht
  ·exact h0
 ·rfl
def NI (P:Program) (full:List Oper) (o:Oper) (e:Env) (s:List Obj) (v:V) (s1:List Obj):Prop :=
 ∀(σ:Gh) (w:World) (N:Nat) (a:Act),Inv σ s w->dC σ s w N (ot full o e) a->tz P o σ s w a λv' s'=>v'=v/\s'=s1
def lF (P:Program) (o:Oper) (e:Env) (s:List Obj) (v:V) (s1:List Obj):Prop:=cz P o e s λv' s'=>v'=v/\s'=s1
theorem jJ{v:V}{s1:List Obj} (h:lF P o e s v s1):NI P full o e s v s1:=by
 intro σ w N a hI hR;refine rU hI hR ?_;have:cz P o e s (λv' s'=>v'=v/\s'=s1)=cz P o (ot full o e) s (λv' s'=>v'=v/\s'=s1):=Mz (by simp [ot]) λx hx=>by
  cases x with
  |tmp t =>
   have ht:t∈o.looksAt full.toArray:=List.mem_append_left _ (List.mem_filterMap.2 ⟨.tmp t,by simpa using hx,rfl⟩);simp [ev,ot,ht]
  |_=>rfl
 rw[<- this];exact h
structure Iq where
 val:Option V
 tf:List Obj->List Obj
def n5 (x:Iq):V:=x.val.getD .un
def NC (fs:cE) (k:Nat) (f:List Obj->List Obj):Prop :=
 ∀s,(f s).length=s.length/\(∀id,id ∉ nC fs k->(f s)[id]?=s[id]?)/\∀s',s'.length=s.length->∀id,id∈nC fs k->s'[id]?=s[id]?->(f s)[id]?=(f s')[id]?
def N9 (P:Program) (full:List Oper) (bars:List Nat) (fs:cE) (i:Nat) (o:Oper) (x:Iq) (e:Env) (s:List Obj):Prop :=
 (bars.contains i=false->NC fs i x.tf) /\
 match x.val with
 |none=>(∀s,x.tf s=s)/\∃g want d,o.guard=some (g,want)/\lR full g=some d/\(e d=.d (.sc (.bool (!want)))\/e d=.un)
 |some v=>(∀g want,o.guard=some (g,want)->∃d,lR full g=some d/\e d=.d (.sc (.bool want))) /\
   ∀s',s'.length=s.length->(bars.contains i=true->s'=s)->(∀id,R5 fs i id->s'[id]?=s[id]?)->NI P full o e s' v (x.tf s')
def Trace (P:Program) (N:Nat) (full:List Oper) (bars:List Nat) (fs:cE):Nat->List Oper->List Iq->Env->List Obj->Env->List Obj->Prop
 |_,[],[],e,s,e',s'=>e'=e/\s'=s
 |i,o::rest,x::tr,e,s,e',s'=>dQ N o.dst/\N9 P full bars fs i o x e s/\Trace P N full bars fs (i+1) rest tr (gP e o.dst (n5 x)) (x.tf s) e' s'
 |_,_,_,_,_,_,_=>False
def eA:List Oper->List Iq->(Nat->Bool)->Nat->Env->Env
 |o::l,x::tr,L,k,e=>eA l tr L (k+1) (if L k then gP e o.dst (n5 x) else e)
 |_,_,_,_,e=>e
theorem Gt{d:Nat}{v:V} (h:e d=v):bK e d v=e:=by
 funext t;unfold bK;split
 ·rename_i ht;subst ht;exact h.symm
 ·rfl
theorem oD:∀(l:List Oper) (tr:List Iq) (L:Nat->Bool) (k:Nat) (e:Env),(∀j,k<=j->L j=false)->eA l tr L k e=e
 |[],_,_,_,_,_=>by simp [eA]
 |_::_,[],_,_,_,_=>by simp [eA]
 |o::l,x::tr,L,k,e,h=>by simp only[eA,h k (ajZ _)];exact oD l tr L (k+1) e λj hj=>h j ae
theorem JL:∀(m:Nat) (l:List Oper) (tr:List Iq) (k:Nat) (e:Env) (o:Oper) (x:Iq),l[m]?=some o->tr[m]?=some x ->
  eA l tr (λj=>decide (j<k+m+1)) k e=gP (eA l tr (λj=>decide (j<k+m)) k e) o.dst (n5 x)
 |_,[],_,_,_,_,_,h,_=>by simp at h
 |_,_::_,[],_,_,_,_,_,h=>by simp at h
 |0,o'::l,x'::tr,k,e,o,x,h1,h2=>by simp only[List.getElem?_cons_zero,ajU]at h1 h2;subst h1;subst h2;simp only[eA,ak0,ak9,decide_false,ajY,if_false,show k<k+1 by omega,decide_true,if_true];rw[oD _ _ _ _ _ (λj hj=>cC),oD _ _ _ _ _ (λj hj=>cC)]
 |m+1,o'::l,x'::tr,k,e,o,x,h1,h2=>by have h3:decide (k<k+(m+1)+1)=true:=cC;have h4:decide (k<k+(m+1))=true:=ak;simp only[eA,h3,h4,if_true];have:=JL m l tr (k+1) (gP e o'.dst (n5 x')) o x (by simpa using h1) (by simpa using h2);rw[show k+(m+1)+1=k+1+m+1 by omega,show k+(m+1)=k+1+m by omega];exact this
theorem qk (e:Env) (d:Option Nat) (v:V) (t:Nat):gP e d v t=if d=some t then v else e t:=by
 cases d with
 |none=>simp [gP]
 |some d =>
  simp only[gP,bK,ajU];by_cases h:t=d
  ·rw[be h,be h.symm]
  ·rw[ap h,ap (Ne.symm h)]
theorem kF (t:Nat):∀(l:List Oper) (tr:List Iq) (L L':Nat->Bool) (k:Nat) (e e':Env),e t=e' t->(∀m o,l[m]?=some o->o.dst=some t->L (k+m)=L' (k+m)) ->
  eA l tr L k e t=eA l tr L' k e' t
 |[],_,_,_,_,_,_,he,_=>by simpa [eA]using he
 |_::_,[],_,_,_,_,_,he,_=>by simpa [eA]using he
 |o::l,x::tr,L,L',k,e,e',he,h=>by
  simp only[eA];refine kF t l tr L L' (k+1) _ _ ?_ λm o' g7 hd=>by have:=h (m+1) o' (by simpa using g7) hd;simpa [aky,Nat.add_comm 1 m]using this
  by_cases hd:o.dst=some t
  ·have:=h 0 o rfl hd;simp only[ak0]at this;rw[this];split
   ·rw[qk,qk,be hd,be hd]
   ·exact he
  ·have h1:∀(b:Bool) (f:Env),(if b=true then gP f o.dst (n5 x) else f) t=f t:=λb f=>by cases b <;> simp [qk,hd]
   rw[h1,h1];exact he
def gz:List Iq->(Nat->Bool)->Nat->List Obj->List Obj
 |x::tr,L,k,s=>gz tr L (k+1) (if L k then x.tf s else s)
 |[],_,_,s=>s
theorem qp:∀(tr:List Iq) (L:Nat->Bool) (k:Nat) (s:List Obj),(∀j,k<=j->L j=false)->gz tr L k s=s
 |[],_,_,_,_=>rfl
 |x::tr,L,k,s,h=>by simp only[gz];rw[qp tr L (k+1) _ λj hj=>h j ae];simp [h k (ajZ _)]
theorem rC:∀(tr:List Iq) (L L':Nat->Bool) (k:Nat) (s:List Obj),(∀m,m<tr.length->L (k+m)=L' (k+m))->gz tr L k s=gz tr L' k s
 |[],_,_,_,_,_=>rfl
 |x::tr,L,L',k,s,h=>by
  simp only[gz];have h0:L k=L' k:=by have:=h 0 ak;simpa using this
  rw[h0];exact rC tr L L' (k+1) _ λm hm=>by have:=h (m+1) (by simpa using hm);rw[show k+(m+1)=k+1+m by omega]at this;exact this
theorem OJ:∀(m:Nat) (tr:List Iq) (k:Nat) (s:List Obj) (x:Iq),tr[m]?=some x ->
  gz tr (λj=>decide (j<k+m+1)) k s=x.tf (gz tr (λj=>decide (j<k+m)) k s)
 |_,[],_,_,_,h=>by simp at h
 |0,x'::tr,k,s,x,h=>by simp only[List.getElem?_cons_zero,ajU]at h;subst h;simp only[gz,ak0,ak9,decide_false,ajY,if_false,show k<k+1 by omega,decide_true,if_true];rw[qp _ _ _ _ (λj hj=>cC),qp _ _ _ _ (λj hj=>cC)]
 |m+1,x'::tr,k,s,x,h=>by have h3:decide (k<k+(m+1)+1)=true:=cC;have h4:decide (k<k+(m+1))=true:=ak;simp only[gz,h3,h4,if_true];have:=OJ m tr (k+1) (x'.tf s) x (by simpa using h);rw[show k+(m+1)+1=k+1+m+1 by omega,show k+(m+1)=k+1+m by omega];exact this
theorem qQ {bars:List Nat}{fs:cE}{R:Nat->Prop}:∀(tr:List Iq) (L L':Nat->Bool) (k:Nat) (s s':List Obj),
  (∀m x,tr[m]?=some x->bars.contains (k+m)=false->NC fs (k+m) x.tf) ->
  (∀m,m<tr.length->L (k+m)=L' (k+m)/\(bars.contains (k+m)=true->L (k+m)=true->s=s'/\∀m',m'<m->L (k+m')=L' (k+m'))\/(bars.contains (k+m)=false/\∀id,R id->id ∉ nC fs (k+m))) ->
  s.length=s'.length->(∀id,R id->s[id]?=s'[id]?) ->
  (gz tr L k s).length=(gz tr L' k s').length/\∀id,R id->(gz tr L k s)[id]?=(gz tr L' k s')[id]?
 |[],_,_,_,s,s',_,_,hl,h=>⟨hl,h⟩
 |x::tr,L,L',k,s,s',Oe,hd,hl,h=>by
  simp only[gz];have aer:∀m y,tr[m]?=some y->bars.contains (k+1+m)=false->NC fs (k+1+m) y.tf:=λm y hy hb=>by have:=Oe (m+1) y (by simpa using hy) (by rw[show k+(m+1)=k+1+m by omega];exact hb);rwa [show k+(m+1)=k+1+m by omega]at this
  have next:∀t t':List Obj,t.length=t'.length->(∀id,R id->t[id]?=t'[id]?)->(s=s'->L k=L' k->t=t') ->
    (gz tr L (k+1) t).length=(gz tr L' (k+1) t').length/\∀id,R id->(gz tr L (k+1) t)[id]?=(gz tr L' (k+1) t')[id]?:=by
   intro t t' h1 h2 h3;refine qQ tr L L' (k+1) t t' aer (λm hm=>?_) h1 h2;have:=hd (m+1) (by simpa using hm);rw[show k+(m+1)=k+1+m by omega]at this;rcases this with ⟨g1,g2⟩|g
   ·refine .inl ⟨g1,λhb Rd=>?_⟩;obtain⟨g3,g4⟩:=g2 hb Rd;have g0:=g4 0 ae;rw[ak0]at g0;exact⟨h3 g3 g0,λm' vT=>by
     have:=g4 (m'+1) ae;rwa [show k+(m'+1)=k+1+m' by omega]at this⟩
   ·exact .inr g
  have d0:=hd 0 ak;rw[ak0]at d0;have tf0:=Oe 0 x rfl;rw[ak0]at tf0;cases hL:L k with
  |false =>
   cases YW:L' k with
   |false =>
    simp only[ajY,if_false];exact next s s' hl h λh _=>h
   |true =>
    simp only[ajY,if_false,if_true];rcases d0 with ⟨d0,_⟩|⟨d1,d2⟩
    ·rw[hL,YW]at d0;cases d0
    ·obtain⟨f1,f2,_⟩:=tf0 d1 s';exact next s (x.tf s') (by rw[f1];exact hl) (λid dc=>by rw[f2 id (d2 id dc)];exact h id dc) λ_ h'=>by rw[hL,YW]at h';cases h'
  |true =>
   cases YW:L' k with
   |false =>
    simp only[ajY,if_false,if_true];rcases d0 with ⟨d0,_⟩|⟨d1,d2⟩
    ·rw[hL,YW]at d0;cases d0
    ·obtain⟨f1,f2,_⟩:=tf0 d1 s;exact next (x.tf s) s' (by rw[f1];exact hl) (λid dc=>by rw[f2 id (d2 id dc)];exact h id dc) λ_ h'=>by rw[hL,YW]at h';cases h'
   |true =>
    simp only[if_true];cases hb:bars.contains k with
    |true =>
     rcases d0 with ⟨_,d0⟩|⟨d1,_⟩
     ·obtain⟨rfl,_⟩:=d0 hb hL;exact next _ _ rfl (λ_ _=>rfl) λ_ _=>rfl
     ·rw[hb]at d1;cases d1
    |false =>
     obtain⟨f1,f2,f3⟩:=tf0 hb s;obtain⟨f1',f2',_⟩:=tf0 hb s';refine next _ _ (by rw[f1,f1'];exact hl) (λid dc=>?_) λh _=>by rw[h]
     by_cases hw:id∈nC fs k
     ·exact f3 s' hl.symm id hw (h id dc).symm
     ·rw[f2 id hw,f2' id hw];exact h id dc
theorem J8 {P:Program}{N:Nat}{full:List Oper}{bars:List Nat}{fs:cE}:∀(l:List Oper) (tr:List Iq) (i:Nat) (e:Env) (s:List Obj) (e':Env) (s':List Obj),Trace P N full bars fs i l tr e s e' s' ->
  tr.length=l.length/\e'=eA l tr (λ_=>true) i e/\s'=gz tr (λ_=>true) i s /\
  ∀(m:Nat) (o:Oper) (x:Iq),l[m]?=some o->tr[m]?=some x->dQ N o.dst/\N9 P full bars fs (i+m) o x (eA l tr (λj=>decide (j<i+m)) i e) (gz tr (λj=>decide (j<i+m)) i s)
 |[],[],i,e,s,e',s',h=>by obtain⟨rfl,rfl⟩:=h;exact⟨rfl,by simp [eA],rfl,λm o x h=>by simp at h⟩
 |[],_::_,_,_,_,_,_,h=>h.elim
 |_::_,[],_,_,_,_,_,h=>h.elim
 |o::l,x::tr,i,e,s,e',s',h=>by
  obtain⟨hd,hx,ht⟩:=h;obtain⟨h0,h1,h2,h3⟩:=J8 l tr (i+1) _ _ e' s' ht;refine⟨by simp [h0],by simp only[eA,if_true];exact h1,by simp only[gz,if_true];exact h2,λm o1 x1 ho BR=>?_⟩;cases m with
  |zero =>
   simp only[List.getElem?_cons_zero,ajU]at ho BR;subst ho;subst BR;have e1:eA (o::l) (x::tr) (λj=>decide (j<i+0)) i e=e:=oD _ _ _ _ _ λj hj=>cC;have e2:gz (x::tr) (λj=>decide (j<i+0)) i s=s:=qp _ _ _ _ λj hj=>cC;rw[e1,e2];exact⟨hd,hx⟩
  |succ m =>
   have:=h3 m o1 x1 (by simpa using ho) (by simpa using BR);rw[show i+(m+1)=i+1+m by omega];have az:decide (i<i+1+m)=true:=cC;have e1:eA (o::l) (x::tr) (λj=>decide (j<i+1+m)) i e=eA l tr (λj=>decide (j<i+1+m)) (i+1) (gP e o.dst (n5 x)):=by simp only[eA,az,if_true]
   have e2:gz (x::tr) (λj=>decide (j<i+1+m)) i s=gz tr (λj=>decide (j<i+1+m)) (i+1) (x.tf s):=by simp only[gz,az,if_true]
   rw[e1,e2];exact this
def sJ (bq:Array Bool) (j:Nat):Bool:=bq.getD j false
def Yq (bq:Array Bool):Nat:=(bq.toList.filter (!·)).length
theorem V4 (h:bq.getD i true=false):Yq (bq.setIfInBounds i true)<Yq bq:=by
 have hi:i<bq.size:=by
  rcases akd i bq.size with h'|h'
  ·exact h'
  ·simp [Array.getElem?_eq_none h']at h
 have hv:bq.toList[i]?=some false:=by rw[Array.getD_eq_getD_getElem?]at h;rw[Array.getElem?_toList];rw[Array.getElem?_eq_getElem hi]at h ⊢;simpa using h
 unfold Yq;rw[Array.toList_setIfInBounds];generalize bq.toList=l at hv;clear h hi;induction l generalizing i with
 |nil=>simp at hv
 |cons b l ih =>
  cases i with
  |zero =>
   simp only[List.getElem?_cons_zero,ajU]at hv;subst hv;simp
  |succ i =>
   have:=ih (i:=i) (by simpa using hv);simp only[akf,List.filter_cons];cases b
   ·simp only[aj2,if_true,ajW];omega
   ·simpa using this
theorem To (h:Yq bq=0) (hi:i<bq.size):bq.getD i false=true:=by unfold Yq at h;rw[ak3,List.filter_eq_nil_iff]at h;have:=h bq[i] ak;simpa [Array.getD,hi]using this
section
variable {P:Program}{N:Nat}{full:List Oper}{bars:List Nat}{fs:cE}{tr:List Iq}{e0:Env}{s0:List Obj}
variable{i:Nat}{oi:Oper}{L:Nat->Bool}{L':Nat->Bool}{s:List Obj}{s1:List Obj}{e1:Env}
theorem oK (hd:jX full bars fs=true) {j:Nat}{oj:Oper} (hi:full[i]?=some oi) (hj:full[j]?=some oj) (ZA:i<j):Cw full (Hk full []) bars fs i j oi oj=true:=by simp only[jX,aj3]at hd;have h1:=hd (oi,i) (by rw[List.mem_zipIdx_iff_getElem?];exact hi);simp only[aj5,aj3]at h1;have h2:=h1.2 (oj,j) (by rw[List.mem_zipIdx_iff_getElem?];exact hj);simpa [ZA]using h2
theorem s9 (hd:jX full bars fs=true) (hi:full[i]?=some oi) {x:Edge} (hx:x∈oi.after) (hb:Region.binds .any x=true):x.on<i:=by simp only[jX,aj3]at hd;have h1:=hd (oi,i) (by rw[List.mem_zipIdx_iff_getElem?];exact hi);simp only[aj5,aj3]at h1;have:=h1.1.2 x (by simpa using hx);simpa [hb]using this
theorem qe {L:Nat->Prop} (hL:lB full L) {j:Nat} (h:Ya (Hk full []) i j=true) (hj:L j):L i :=
 Cn hL full [] ak ak j i h hj
theorem DV (hd:jX full bars fs=true) (hL:lB full λj=>L j=true) (hi:full[i]?=some oi) (BT:L i=false)
  (hready:∀x∈oi.after.toList,Region.binds .any x=true->L x.on=true) {m:Nat}{om:Oper} (hm:full[m]?=some om) (eU:m≠i) :
  L m=decide (m<i)\/((om.apart full.toArray oi=true/\oi.apart full.toArray om=true)/\bars.contains m=false/\bars.contains i=false/\tW fs m i=true):=by
 have YW:lB full λj=>L j=true\/j=i:=by
  intro j o ho hj x hx hb;rcases hj with hj|rfl
  ·exact .inl (hL j o ho hj x hx hb)
  ·rw[hi]at ho;cases ho;exact .inl (hready x hx hb)
 rcases Nat.lt_or_gt_of_ne eU with az|Zx
 ·have hp:=oK hd hm hi az;simp only[Cw,Bool.or_eq_true]at hp;rcases hp with hp|hp
  ·rcases qe YW hp (.inr rfl) with h|h
   ·exact .inl (by rw[h];simp [az])
   ·exact absurd h eU
  ·simp only[aj5,Bool.not_eq_true']at hp;obtain⟨⟨⟨⟨a1,a2⟩,a3⟩,a4⟩,a5⟩:=hp;exact .inr ⟨⟨a1,a2⟩,a3,a4,a5⟩
 ·have hp:=oK hd hi hm Zx;simp only[Cw,Bool.or_eq_true]at hp;rcases hp with hp|hp
  ·cases Nm:L m with
   |false=>exact .inl cC
   |true=>have:=qe hL hp Nm;rw[BT]at this;cases this
  ·simp only[aj5,Bool.not_eq_true']at hp;obtain⟨⟨⟨⟨a1,a2⟩,a3⟩,a4⟩,a5⟩:=hp;exact .inr ⟨⟨a2,a1⟩,a4,a3,A7 a5⟩
theorem wX (hd:jX full bars fs=true) (hL:lB full λj=>L j=true) {k m:Nat} (hk:bars.contains k=true) (hLk:L k=true) (hkf:k<full.length) (hm:m<k):L m=true:=by
 have hp:=oK hd (List.getElem?_eq_getElem (by omega:m<full.length)) (List.getElem?_eq_getElem hkf) hm;simp only[Cw,Bool.or_eq_true]at hp;rcases hp with hp|hp
 ·exact qe hL hp hLk
 ·simp only[aj5,Bool.not_eq_true']at hp;rw[hk]at hp;exact absurd hp.1.2 ak
theorem lB.add (hL:lB full λj=>L j=true) (hi:full[i]?=some oi) (hready:∀x∈oi.after.toList,Region.binds .any x=true->L x.on=true)
  (h':∀j,L' j=(L j||decide (j=i))):lB full λj=>L' j=true:=by
 intro j o ho hj x hx hb;have hj:L' j=true:=hj;show L' x.on=true;rw[h',Bool.or_eq_true]at hj ⊢;rcases hj with hj|hj
 ·exact .inl (hL j o ho hj x hx hb)
 ·rw[decide_eq_true_eq]at hj;subst hj;rw[hi]at ho;cases ho;exact .inl (hready x hx hb)
theorem y6 (hd:jX full bars fs=true) (hL:lB full λj=>L j=true) (hi:full[i]?=some oi) (BT:L i=false)
  (hready:∀x∈oi.after.toList,Region.binds .any x=true->L x.on=true) {t:Nat} (ht:t∈oi.looksAt full.toArray):eA full tr L 0 e0 t=eA full tr (λj=>decide (j<0+i)) 0 e0 t:=by
 refine kF t full tr _ _ 0 _ _ rfl λm om hm EV=>?_;simp only[ajT];by_cases eU:m=i
 ·subst eU;simp [BT]
 ·rcases DV hd hL hi BT hready hm eU with h|⟨⟨h,_⟩,_⟩
  ·exact h
  ·exact absurd ht ((Oper.apart_spec h).1 t EV)
theorem SX (hd:jX full bars fs=true) (L L':Nat->Bool):eA full tr L 0 e0 0=eA full tr L' 0 e0 0:=by refine kF 0 full tr _ _ 0 _ _ rfl λm om hm EV=>?_;unfold jX at hd;have:=List.all_eq_true.1 hd (om,m) (List.mem_zipIdx_iff_getElem?.2 hm);simp [XL,EV]at this
theorem WQ (hd:jX full bars fs=true) (hL:lB full λj=>L j=true) (hi:full[i]?=some oi) (BT:L i=false)
  (hready:∀x∈oi.after.toList,Region.binds .any x=true->L x.on=true) {x:Iq} (hx:tr[i]?=some x) (h':∀j,L' j=(L j||decide (j=i))) :
  eA full tr L' 0 e0=gP (eA full tr L 0 e0) oi.dst (n5 x):=by
 funext t;by_cases hdt:oi.dst=some t
 ·rw[qk,be hdt];have h1:eA full tr L' 0 e0 t=eA full tr (λj=>decide (j<0+i+1)) 0 e0 t:=by
   refine kF t full tr _ _ 0 _ _ rfl λm om hm EV=>?_;simp only[ajT];rw[h'];by_cases eU:m=i
   ·subst eU;simp
   ·rcases DV hd hL hi BT hready hm eU with h|⟨⟨h,_⟩,_⟩
    ·rw[h];simp only[eU,decide_false,akw];rw[decide_eq_decide];omega
    ·exact absurd hdt ((Oper.apart_spec h).2.1 t EV)
  rw[h1,JL i full tr 0 e0 oi x hi hx,qk,be hdt]
 ·rw[qk,ap hdt];refine kF t full tr _ _ 0 _ _ rfl λm om hm EV=>?_;simp only[ajT];rw[h'];by_cases eU:m=i
  ·subst eU;rw[hi]at hm;cases hm;exact absurd EV hdt
  ·simp [eU]
theorem yL (hd:jX full bars fs=true) (hl:tr.length=full.length) (Oe:∀m x,tr[m]?=some x->bars.contains m=false->NC fs m x.tf) (hL:lB full λj=>L j=true) (hi:full[i]?=some oi) (BT:L i=false)
  (hready:∀x∈oi.after.toList,Region.binds .any x=true->L x.on=true) {R:Nat->Prop} (hR:∀m,bars.contains i=false->tW fs m i=true->∀id,R id->id ∉ nC fs m) :
  (gz tr L 0 s0).length=(gz tr (λj=>decide (j<0+i)) 0 s0).length/\∀id,R id->(gz tr L 0 s0)[id]?=(gz tr (λj=>decide (j<0+i)) 0 s0)[id]?:=by
 have hif:i<full.length:=(List.getElem?_eq_some_iff.1 hi).1;refine qQ (bars:=bars) (fs:=fs) tr _ _ 0 s0 s0 (λm x hx hb=>by rw[ajT]at hb ⊢;exact Oe m x hx hb) (λm hm=>?_) rfl λ_ _=>rfl;simp only[ajT];have Zg:bars.contains m=true->L m=true->m<i->∀m',m'<m->L m'=decide (m'<i):=by intro hb Nm hmi m' vT;rw[wX hd hL hb Nm ae vT];simp;omega
 by_cases eU:m=i
 ·subst eU;exact .inl ⟨by simp [BT],λ_ h=>by rw[BT]at h;cases h⟩
 ·rcases DV hd hL hi BT hready (List.getElem?_eq_getElem (by omega:m<full.length)) eU with h|⟨_,h1,h2,h3⟩
  ·exact .inl ⟨h,λhb Nm=>⟨trivial,Zg hb Nm (by rw[Nm]at h;simpa using h.symm)⟩⟩
  ·exact .inr ⟨h1,hR m h2 h3⟩
theorem Y4 (hd:jX full bars fs=true) (hl:tr.length=full.length) (Oe:∀m x,tr[m]?=some x->bars.contains m=false->NC fs m x.tf) (hL:lB full λj=>L j=true) (hi:full[i]?=some oi) (BT:L i=false)
  (hready:∀x∈oi.after.toList,Region.binds .any x=true->L x.on=true) {x:Iq} (hx:tr[i]?=some x) (h':∀j,L' j=(L j||decide (j=i))) :
  gz tr L' 0 s0=x.tf (gz tr L 0 s0):=by
 have hif:i<full.length:=(List.getElem?_eq_some_iff.1 hi).1;have az:=OJ i tr 0 s0 x hx;rw[ajT]at az;have Zg:∀m,m<tr.length->bars.contains m=true->L m=true->m<i->∀m',m'<m->L m'=decide (m'<i):=by intro m hm hb Nm hmi m' vT;rw[wX hd hL hb Nm ae vT];simp;omega
 by_cases hb:bars.contains i=true
 ·
  have bX:∀m,m<tr.length->L m=decide (m<i):=by
   intro m hm;by_cases eU:m=i
   ·subst eU;simp [BT]
   ·rcases DV hd hL hi BT hready (List.getElem?_eq_getElem (by omega:m<full.length)) eU with h|⟨_,_,h2,_⟩
    ·exact h
    ·rw[hb]at h2;cases h2
  rw[rC tr L (λj=>decide (j<i)) 0 s0 λm hm=>by rw[ajT];exact bX m hm,<- az];refine rC tr _ _ 0 s0 λm hm=>?_;rw[ajT,h',bX m hm];by_cases eU:m=i
  ·subst eU;simp
  ·simp only[eU,decide_false,akw];rw[decide_eq_decide];omega
 ·have hb:bars.contains i=false:=by simpa using hb
  obtain⟨f1,f2,f3⟩:=Oe i x hx hb (gz tr L 0 s0);have aeT:=qQ (bars:=bars) (fs:=fs) (R:=λid=>id ∉ nC fs i) tr L' L 0 s0 s0 (λm y hy hb=>by rw[ajT]at hb ⊢;exact Oe m y hy hb) (λm hm=>by
    simp only[ajT];by_cases eU:m=i
    ·subst eU;exact .inr ⟨hb,λid dc=>dc⟩
    ·have e1:L' m=L m:=by rw[h'];simp [eU]
     refine .inl ⟨e1,λZW Nm=>⟨trivial,λm' vT=>?_⟩⟩;rw[e1]at Nm;have:=wX hd hL ZW Nm ae vT;rw[h',this];rfl) rfl λ_ _=>rfl
  have onW:=qQ (bars:=bars) (fs:=fs) (R:=λid=>id∈nC fs i) tr L' (λj=>decide (j<i+1)) 0 s0 s0 (λm y hy hb=>by rw[ajT]at hb ⊢;exact Oe m y hy hb) (λm hm=>by
    simp only[ajT];by_cases eU:m=i
    ·subst eU;refine .inl ⟨by rw[h'];simp,λZW _=>by rw[hb]at ZW;cases ZW⟩
    ·have e1:L' m=L m:=by rw[h'];simp [eU]
     rcases DV hd hL hi BT hready (List.getElem?_eq_getElem (by omega:m<full.length)) eU with h|⟨_,h1,_,h3⟩
     ·refine .inl ⟨by rw[e1,h,decide_eq_decide];omega,λZW Nm=>⟨trivial,λm' vT=>?_⟩⟩;rw[e1]at Nm;have hmi:m<i:=by rw[Nm]at h;simpa using h.symm
      rw[h',Zg m hm ZW Nm hmi m' vT];simp only[show m'≠i by omega,decide_false,akw];rw[decide_eq_decide];omega
     ·exact .inr ⟨h1,λid dc=>(tF (A7 h3) dc).2⟩) rfl λ_ _=>rfl
  refine List.ext_getElem? λid=>?_;by_cases hw:id∈nC fs i
  ·have:=yL (s0:=s0) hd hl Oe hL hi BT hready (R:=λid=>id∈nC fs i) (λm _ hc id dc hm=>(tF hc hm).2 dc);rw[ajT]at this;rw[onW.2 id hw,az,f3 _ this.1.symm id hw (this.2 id hw).symm]
  ·rw[aeT.2 id hw,f2 id hw]
theorem Ly {σ:Gh}{w:World}{e:Env}{a:Act}{o:Oper}{g:Nat}{want:Bool}{d:Nat} (hR:dC σ s w N e a) (ho:o.guard=some (g,want)) (hg:lR full g=some d) :
  (e d=.d (.sc (.bool want))->Region.wanted o (yielded full.toArray a.tmps)=true)/\(e d=.d (.sc (.bool (!want)))\/e d=.un->Region.wanted o (yielded full.toArray a.tmps)=false):=by
 constructor
 ·intro h;have hw:kq (lR full g) e want (λ_=>True) (λ_=>False):=by rw[hg];simp [kq,h]
  obtain⟨_,_,h|h⟩:=rT hR ho hw
  ·exact h.1
  ·exact h.2.elim
 ·intro h;have hw:kq (lR full g) e want (λ_=>False) (λ_=>True):=by rw[hg];rcases h with h|h <;> simp [kq,h]
  obtain⟨_,_,h|h⟩:=rT hR ho hw
  ·exact h.2.elim
  ·exact h.1
theorem QJ (hd:jX full bars fs=true) (ht:Trace P N full bars fs 0 full tr e0 s0 e1 s1)
  {σ00:Gh}{s00:List Obj}{ZV:World}{Q:Exit->Env->List Obj->Prop}{r:Option Nat}{D:List Deferred}{ws:World} (hQ:Q .normal e1 s1):∀(fuel:Nat) (bq:Array Bool) (σ:Gh) (w:World) (a:Act),bq.size=full.length->Yq bq<=fuel ->
  (lB full λj=>sJ bq j=true)->pf ws w->aC σ00 s00 ZV σ (gz tr (sJ bq) 0 s0) w->Inv σ (gz tr (sJ bq) 0 s0) w->dC σ (gz tr (sJ bq) 0 s0) w N (eA full tr (sJ bq) 0 e0) a ->
  wpAnyIn (FW r) 0 P .any full.toArray (QR ws D (QX σ00 s00 ZV N Q)) fuel bq (Act.wD a D) w:=by
 intro fuel;obtain⟨hl,t1,t2,t3⟩:=J8 full tr 0 e0 s0 e1 s1 ht;have Oe:∀m x,tr[m]?=some x->bars.contains m=false->NC fs m x.tf:=by
  intro m x hx hb;have hm:m<full.length:=by have:=(List.getElem?_eq_some_iff.1 hx).1;omega
  have:=(t3 m full[m] x (List.getElem?_eq_getElem hm) hx).2.1;rw[ajT]at this;exact this hb
 have Ic:∀bq:Array Bool,bq.size=full.length->Region.ready .any full.toArray bq=[]->∀j,j<full.length->sJ bq j=true:=by
  intro bq eZ hr j;induction j using Nat.strongRecOn with
  |_ j ih =>
   intro hj;cases hlj:sJ bq j with
   |true=>rfl
   |false =>
    exfalso;have:j∈Region.ready .any full.toArray bq:=by
     rw[mem_ready];refine⟨?_,full[j],by simp [hj],λx hx hb=>?_⟩
     ·unfold sJ at hlj;have:j<bq.size:=ae;simpa [Array.getD,this]using hlj
     ·exact ih x.on (s9 hd (List.getElem?_eq_getElem hj) hx hb) (by
       have:=s9 hd (List.getElem?_eq_getElem hj) hx hb;omega)
    rw[hr]at this;cases this
 have fin:∀(bq:Array Bool) (σ:Gh) (w:World) (a:Act),(∀j,j<full.length->sJ bq j=true)->pf ws w->aC σ00 s00 ZV σ (gz tr (sJ bq) 0 s0) w->Inv σ (gz tr (sJ bq) 0 s0) w ->
   dC σ (gz tr (sJ bq) 0 s0) w N (eA full tr (sJ bq) 0 e0) a->QR ws D (QX σ00 s00 ZV N Q) .normal (Act.wD a D) w:=by
  intro bq σ w a bX hk hE hI hR;have he:eA full tr (sJ bq) 0 e0=e1:=by rw[t1];funext t;refine kF t full tr _ _ 0 _ _ rfl λm om hm _=>?_;rw[ajT];exact bX m (List.getElem?_eq_some_iff.1 hm).1
  have hs:gz tr (sJ bq) 0 s0=s1:=by rw[t2];refine rC tr _ _ 0 _ λm hm=>?_;rw[ajT];exact bX m ae
  rw[he,hs]at hR;rw[hs]at hE hI;exact Hn hk hR.1 ⟨e1,σ,s1,hE,hI,hR,hQ⟩
 have K7:∀bq:Array Bool,(∀j,j<full.length->sJ bq j=true)->Region.ready .any full.toArray bq=[]:=by
  intro bq bX;rw[List.eq_nil_iff_forall_not_mem];intro j hj;rw[mem_ready]at hj;obtain⟨h0,o,ho,_⟩:=hj;have hjl:j<full.length:=by simpa using (Array.getElem?_eq_some_iff.1 ho).1
  have:=bX j hjl;unfold sJ at this;rw[Array.getD_eq_getD_getElem?]at this h0;cases hx:bq[j]? with
  |none=>rw[hx]at h0;cases h0
  |some b=>rw[hx]at this h0;simp only[ak2]at this h0;rw[this]at h0;cases h0
 induction fuel with
 |zero =>
  intro bq σ w a eZ hu hL hk hE hI hR;have bX:∀j,j<full.length->sJ bq j=true:=λj hj=>To ae ae;exact⟨K7 bq bX,fin bq σ w a bX hk hE hI hR⟩
 |succ fuel ih =>
  intro bq σ w a eZ hu hL hk hE hI hR;refine⟨λhr=>fin bq σ w a (Ic bq eZ hr) hk hE hI hR,λi hir=>?_⟩;rw[mem_ready]at hir;obtain⟨h0,o,ho,XT⟩:=hir;have hif:i<full.length:=by simpa using (Array.getElem?_eq_some_iff.1 ho).1
  have UG:full[i]?=some o:=by simpa using ho
  have BT:sJ bq i=false:=by unfold sJ;have:i<bq.size:=ae;simp only[Array.getD,this,dif_pos]at h0 ⊢;exact h0
  have hready:∀x∈o.after.toList,Region.binds .any x=true->sJ bq x.on=true:=λx hx hb=>XT x (by simpa using hx) hb;have hx:∃x,tr[i]?=some x:=⟨tr[i],List.getElem?_eq_getElem ae⟩
  obtain⟨x,hx⟩:=hx;have h':∀j,sJ (bq.setIfInBounds i true) j=(sJ bq j||decide (j=i)):=by
   intro j;unfold sJ;by_cases X0:j=i
   ·subst X0;have:j<bq.size:=ae;simp [this]
   ·rw[getD_set_ne false (Ne.symm X0)];simp [X0]
  have W7:=ih (bq.setIfInBounds i true);have heP:=WQ (tr:=tr) (e0:=e0) hd hL UG BT hready hx h';have hsP:=Y4 (s0:=s0) hd hl Oe hL UG BT hready hx h';have ia:=lB.add hL UG hready h';have hul:=V4 h0;obtain⟨EV,_,ZL⟩:=t3 i o x UG hx;unfold wpOpIn;rw[ho];simp only;cases hv:x.val with
  |none =>
   rw[hv]at ZL;obtain⟨bH,g,want,d,hg,Us,UR⟩:=ZL;have Xv:d∈o.looksAt full.toArray:=by
    unfold lR at Us;split at Us
    ·rename_i og YV;simp [Oper.looksAt,hg,YV,Us]
    ·cases Us
   rw[<- y6 (tr:=tr) (e0:=e0) hd hL UG BT hready Xv]at UR;rw[show Region.wanted o (yielded full.toArray (Act.wD a D).tmps)=false from (Ly hR hg Us).2 UR];simp only[ajY,if_false];rw[bH]at hsP;rw[z7];refine⟨λ_ _=>trivial,?_⟩;refine W7 σ w _ (by simpa using eZ) ae ia hk (by rw[hsP];exact hE) (by rw[hsP];exact hI) ?_;rw[hsP,heP];have:n5 x=.un:=by simp [n5,hv]
   rw[this];exact hR.put EV .un
  |some v =>
   rw[hv]at ZL;obtain⟨Us,HP⟩:=ZL;have aax:Region.wanted o (yielded full.toArray a.tmps)=true:=by
    cases hg:o.guard with
    |none=>simp [Region.wanted,hg]
    |some gw =>
     obtain⟨g,want⟩:=gw;obtain⟨d,UR,hgv⟩:=Us g want hg;have Xv:d∈o.looksAt full.toArray:=by
      unfold lR at UR;split at UR
      ·rename_i og YV;simp [Oper.looksAt,hg,YV,UR]
      ·cases UR
     rw[<- y6 (tr:=tr) (e0:=e0) hd hL UG BT hready Xv]at hgv;exact(Ly hR hg UR).1 hgv
   rw[be (show Region.wanted o (yielded full.toArray (Act.wD a D).tmps)=true from aax)];have aal:NI P full o (eA full tr (sJ bq) 0 e0) (gz tr (sJ bq) 0 s0) v (gz tr (sJ (bq.setIfInBounds i true)) 0 s0):=by
    have hm:ot full o (eA full tr (sJ bq) 0 e0)=ot full o (eA full tr (λj=>decide (j<0+i)) 0 e0):=KE (SX hd _ _) λt ht=>y6 hd hL UG BT hready ht;unfold NI;rw[hm,hsP];refine HP _ ?_ ?_ ?_
    ·exact(yL (s0:=s0) hd hl Oe hL UG BT hready (R:=λ_=>False) (λ_ _ _ _ h=>h.elim)).1
    ·intro hb;rw[ajT]at hb;have:=yL (s0:=s0) hd hl Oe hL UG BT hready (R:=λ_=>True) (λ_ h=>by rw[hb]at h;cases h);exact List.ext_getElem? λid=>this.2 id trivial
    ·intro id dc;rw[ajT]at dc;exact(yL (s0:=s0) hd hl Oe hL UG BT hready (R:=λid=>R5 fs i id) (λm _ hc id dc hw=>(tF hc hw).1 dc)).2 id dc
   refine Oper.wpIn_mono (λa' w' ⟨a0,h1,u,v',σ',s',ha,nE,fS,iY,hK⟩=>?_) (OV (λa' w' ⟨u,_,_,_,ha,_⟩=>⟨u,ha⟩) (aal σ w N a hI (hR.mask full o)));obtain⟨rfl,rfl⟩:=hK;subst ha h1;refine W7 σ' w' _ (by simpa using eZ) ae ia (hk.trans (.of hI nE)) (hE.trans nE) fS ?_;rw[heP];have:n5 x=v':=by simp [n5,hv]
   rw[this];exact(hR.aR nE).put EV iY
theorem KV (hm:P.follows .mixedOrders=true) (hd:jX full bars fs=true) {e:Env} (ht:Trace P N full bars fs 0 full tr e s e1 s1) {K:Env->List Obj->Prop} (hK:K e1 s1):oC P N full e s K:=by
 intro σ0 s00 w0 Q hKQ σ w a id hE hI hR;intro r D;refine wpIn_region_any hm ?_;have hf:∀j,sJ (Array.replicate full.toArray.size false) j=false:=by intro j;unfold sJ;rw[Array.getD_eq_getD_getElem?,Array.getElem?_replicate];split <;> rfl
 have hs:gz tr (sJ (Array.replicate full.toArray.size false)) 0 s=s:=qp _ _ _ _ λj _=>hf j;have he:eA full tr (sJ (Array.replicate full.toArray.size false)) 0 e=e:=oD _ _ _ _ _ λj _=>hf j;refine QJ hd ht (hKQ e1 s1 hK) _ _ σ _ a ak ?_ (λj o _ hj=>by have hj:sJ _ j=true:=hj;rw[hf j]at hj;cases hj) (λ_ _ h _=>h) ?_ ?_ ?_
 ·unfold Yq;refine akS (List.length_filter_le _ _) ak
 ·rw[hs];exact hE.trans (mW hI).1
 ·rw[hs];exact(mW hI).2
 ·rw[hs,he];exact hR.aR (mW hI).1
end
end Go.VL
