/- A part of the proof (Vn Vo Vp Vpa Vq Vr Vs Vt Vv Vw Vy Vz Vza Vzb Vzc Vzd Vze Vzs Vu Vx). -/
import Derived.ProofKit
import Derived.OpenShut
import Derived.Test.YtphfjhaffbfpfaaPM1
set_option linter.all false
set_option maxRecDepth 100000
set_option maxHeartbeats 80000000
namespace Go.VL
variable{i:Nat}{s:List Obj}{P:Program}{o:Oper}{e:Env}{full:List Oper}{bB:Array Bool}
def PQ (acc:List Nat) (es:List Edge):Nat :=
 es.foldl (λm e=>if Region.binds .any e then m ||| 2 ^ e.on ||| acc.getD e.on 0 else m) 0
def BC:List Oper->List Nat->List Nat
 |[],acc=>acc
 |o::rest,acc=>BC rest (acc++[PQ acc o.after.toList])
def TS (ms:List Nat) (i j:Nat):Bool:=(ms.getD j 0).testBit i
def jT (full:List Oper) (L:Nat->Prop):Prop:=∀j o,full[j]?=some o->L j->∀e∈o.after.toList,Region.binds .any e=true->L e.on
theorem tE {L:Nat->Prop}{acc:List Nat} (lr:∀j i,(acc.getD j 0).testBit i=true->L j->L i):∀(es:List Edge) (m:Nat),(∀e∈es,Region.binds .any e=true->L e.on)->(∀i,m.testBit i=true->L i) ->
  ∀i,(es.foldl (λm e=>if Region.binds .any e then m ||| 2 ^ e.on ||| acc.getD e.on 0 else m) m).testBit i=true->L i
 |[],m,_,hm,i,h=>hm i h
 |e::es,m,he,hm,i,h=>by
  simp only[List.foldl_cons]at h;refine tE lr es _ (λe' h'=>he e' (List.mem_cons_of_mem _ h')) (λi' h'=>?_) i h;split at h'
  ·rename_i hb;have hon:=he e (List.mem_cons_self ..) hb;rw[Nat.testBit_or,Nat.testBit_or,Nat.testBit_two_pow]at h';simp only[Bool.or_eq_true,adC]at h';rcases h' with (h'|h')|h'
   ·exact hm i' h'
   ·rw[<- h'];exact hon
   ·exact lr _ _ h' hon
  ·exact hm i' h'
theorem Ag {full:List Oper}{L:Nat->Prop} (hL:jT full L):∀(l:List Oper) (acc:List Nat),(∀j,l[j]?=full[acc.length+j]?)->(∀j i,(acc.getD j 0).testBit i=true->L j->L i) ->
  ∀j i,TS (BC l acc) i j=true->L j->L i
 |[],acc,_,lr,j,i,h,hj=>lr j i h hj
 |o::rest,acc,hl,lr,j,i,h,hj=>by
  simp only[BC]at h;refine Ag hL rest _ (λk=>by have:=hl (k+1);simpa [Nat.add_assoc,Nat.add_comm 1 k]using this) (λk i' hk XB=>?_) j i h hj;by_cases aH:k<acc.length
  ·rw[List.getD_eq_getElem?_getD,adM aH,<- List.getD_eq_getElem?_getD]at hk;exact lr k i' hk XB
  ·by_cases heq:k=acc.length
   ·subst heq;rw[List.getD_eq_getElem?_getD,adN (adB _)]at hk;simp only[Nat.sub_self,adU,Option.getD_some]at hk;have ho:full[acc.length]?=some o:=by have:=hl 0;simpa using this.symm
    exact tE lr _ 0 (λe he hb=>hL _ o ho XB e he hb) (by simp) i' hk
   ·rw[List.getD_eq_getElem?_getD,List.getElem?_eq_none (by simp;omega)]at hk;simp at hk
abbrev cV:=List (Nat×List Nat×List Nat)
def gk:cV->Nat->Option (List Nat×List Nat)
 |[],_=>none
 |(k,f)::l,i=>if k=i then some f else gk l i
def nm (fs:cV) (i:Nat):List Nat :=
 match gk fs i with
 |some (_,w)=>w
 |none=>[]
def C8:cV->List Nat
 |[]=>[]
 |(_,_,w)::l=>w++C8 l
theorem GC:∀{fs:cV}{i id:Nat},id∈nm fs i->id∈C8 fs
 |[],i,id,h=>by simp [nm,gk]at h
 |(k,r,w)::l,i,id,h=>by
  unfold nm at h;simp only[gk]at h;simp only[C8,List.mem_append];by_cases hk:k=i
  ·rw[ap hk]at h;exact .inl h
  ·rw[am hk]at h;exact .inr (GC h)
def SK (fs:cV) (i id:Nat):Prop :=
 match gk fs i with
 |some (r,_)=>id∈r
 |none=>id ∉ C8 fs
def qQ (fs:cV) (i j:Nat):Bool :=
 match gk fs i,gk fs j with
 |some (r,w),some (r',w')=>w.all (λid=>!r'.contains id&&!w'.contains id)&&w'.all λid=>!r.contains id
 |_,_=>true
def Ax (full:List Oper) (ms:List Nat) (bars:List Nat) (fs:cV) (i j:Nat) (oi oj:Oper):Bool :=
 TS ms i j||(oi.apart full.toArray oj&&oj.apart full.toArray oi&&!bars.contains i&&!bars.contains j&&qQ fs i j)
def Se (o:Oper):Bool:=(match o.op with|.select ..=>false|_=>true)&&!(o.dst == some 0)
def jx (full:List Oper) (bars:List Nat) (fs:cV):Bool :=
 let ms:=BC full []
 full.zipIdx.all (λ(oi,i)=>Se oi&&oi.after.toList.all (λe=>!Region.binds .any e||decide (e.on<i))&&full.zipIdx.all λ(oj,j)=>!decide (i<j)||Ax full ms bars fs i j oi oj)
theorem rA {fs:cV}{j:Nat} (h:qQ fs i j=true) {id:Nat} (hw:id∈nm fs i):¬SK fs j id/\id ∉ nm fs j:=by
 have ha:=GC hw;unfold qQ at h;unfold nm at hw ⊢;unfold SK;cases hi:gk fs i with
 |none=>rw[hi]at hw;cases hw
 |some x =>
  obtain⟨r,w⟩:=x;rw[hi]at hw h;simp only at hw;cases hj:gk fs j with
  |none=>exact⟨λh=>h ha,by simp⟩
  |some y =>
   obtain⟨r',w'⟩:=y;rw[hj]at h;simp only[adD,adE]at h;have:=h.1 id hw;simp only[adD,Bool.not_eq_true',List.contains_eq_mem,decide_eq_false_iff_not]at this;exact this
theorem xn {fs:cV}{j:Nat} (h:qQ fs i j=true):qQ fs j i=true:=by
 unfold qQ at *;cases hi:gk fs i with
 |none=>cases gk fs j <;> rfl
 |some x =>
  cases hj:gk fs j with
  |none=>rfl
  |some y =>
   obtain⟨r,w⟩:=x;obtain⟨r',w'⟩:=y;rw[hi,hj]at h;simp only[adD,adE,Bool.not_eq_true',List.contains_eq_mem,decide_eq_false_iff_not]at h ⊢;exact⟨λid dB=>⟨h.2 id dB,λhw=>(h.1 id hw).2 dB⟩,λid dB=>(h.1 id dB).1⟩
theorem zE{c:Call}{e e':Nat->V}{K:V->List Obj->Prop} (h0:e 0=e' 0) (h:∀x∈c.operands,ev e x=ev e' x):gR P c e s K=gR P c e' s K:=by
 have jF:∀x∈c.args.toList,ev e x=ev e' x:=λx hx=>h x (by simp [Call.operands];exact .inr (by simpa using hx));have hm:c.args.toList.map (ev e)=c.args.toList.map (ev e'):=aei jF;unfold gR;rw[hm];cases hc:c.callee with
 |value f =>
  have hf:ev e f=ev e' f:=h f (by simp [Call.operands,hc]);cases f <;> simp only[hf,h0]
 |invoke r m=>rfl
 |builtin b =>
  cases b
  case len=>rcases hl:c.args.toList with _|⟨x,_|⟨y,l⟩⟩ <;> rcases ht:c.argTypes.toList with _|⟨t,_|⟨t',l'⟩⟩ <;> simp_all
  case append=>rcases hl:c.args.toList with _|⟨x,_|⟨y,_|⟨z,l⟩⟩⟩ <;> rcases ht:c.argTypes.toList with _|⟨t,_|⟨t',_|⟨t'',l'⟩⟩⟩ <;> simp_all
  case copy=>rcases hl:c.args.toList with _|⟨x,_|⟨y,_|⟨z,l⟩⟩⟩ <;> rcases ht:c.argTypes.toList with _|⟨t,_|⟨t',_|⟨t'',l'⟩⟩⟩ <;> simp_all
  case clear=>rcases hl:c.args.toList with _|⟨x,_|⟨y,l⟩⟩ <;> rcases ht:c.argTypes.toList with _|⟨t,_|⟨t',l'⟩⟩ <;> simp_all
  case min=>rcases hl:c.args.toList with _|⟨x,l⟩ <;> rw[hl]at jF <;> simp only[aei λy hy=>jF y (List.mem_cons_of_mem _ hy),jF _ (List.mem_cons_self ..)]
  case max=>rcases hl:c.args.toList with _|⟨x,l⟩ <;> rw[hl]at jF <;> simp only[aei λy hy=>jF y (List.mem_cons_of_mem _ hy),jF _ (List.mem_cons_self ..)]
  all_goals rfl
theorem Jo{e e':Nat->V}{K:V->List Obj->Prop} (h0:e 0=e' 0) (h:∀x∈o.op.operands,ev e x=ev e' x):cP P o e s K=cP P o e' s K:=by
 obtain⟨dst,op,ty,pos,after,guard⟩:=o;have Sp:∀ps:Array (Nat×Operand),(∀x∈ps.map (·.2),ev e x=ev e' x)->(ps.toList.map λp=>(p.1,ev e p.2))=(ps.toList.map λp=>(p.1,ev e' p.2)):=λps hp =>
  aei λp hm=>by obtain⟨i,x⟩:=p;simp only[hp x (Array.mem_map.2 ⟨(i,x),by simpa using hm,rfl⟩)]
 cases op <;> simp only[Op.operands]at h <;> simp only[cP]
 case build t ps=>rw[Sp ps λx hx=>h x (by simpa using hx)]
 case buildSlice t n ps=>rw[Sp ps λx hx=>h x (by simpa using hx)]
 case makeFunc fn first captured =>
  rw[aei (l:=first.toList) λx hx=>h x (by simp;exact .inl (by simpa using hx)),aei (l:=captured.toList) λx hx=>h x (by simp;exact .inr (by simpa using hx))]
 case call c=>exact zE h0 h
 case slice t x lo hi mx=>cases lo <;> cases hi <;> cases mx <;> simp_all
 all_goals (first|rfl|(simp_all;done))
def oJ (full:List Oper) (o:Oper) (e:Env):Env:=λt=>if t∈o.looksAt full.toArray\/t=0 then e t else .any
theorem fj.mask {σ s w N e a} (h:fj σ s w N e a) (full:List Oper) (o:Oper):fj σ s w N (oJ full o e) a :=
 ⟨h.1,h.2.1,λt=>by unfold oJ;split;exact h.2.2 t;exact .any⟩
theorem HF{e':Env} (h0:e 0=e' 0) (h:∀t∈o.looksAt full.toArray,e t=e' t):oJ full o e=oJ full o e':=by
 funext t;unfold oJ;split
 ·rename_i ht;rcases ht with ht|rfl
  ·exact h t ht
  ·exact h0
 ·rfl
def NQ (P:Program) (full:List Oper) (o:Oper) (e:Env) (s:List Obj) (v:V) (s1:List Obj):Prop :=
 ∀(σ:Gh) (w:World) (N:Nat) (a:Act),Inv σ s w->fj σ s w N (oJ full o e) a->qE P o σ s w a λv' s'=>v'=v/\s'=s1
def mT (P:Program) (o:Oper) (e:Env) (s:List Obj) (v:V) (s1:List Obj):Prop:=cP P o e s λv' s'=>v'=v/\s'=s1
theorem kb{v:V}{s1:List Obj} (h:mT P o e s v s1):NQ P full o e s v s1:=by
 intro σ w N a hI hR;refine qc hI hR ?_;have:cP P o e s (λv' s'=>v'=v/\s'=s1)=cP P o (oJ full o e) s (λv' s'=>v'=v/\s'=s1):=Jo (by simp [oJ]) λx hx=>by
  cases x with
  |tmp t =>
   have ht:t∈o.looksAt full.toArray:=List.mem_append_left _ (List.mem_filterMap.2 ⟨.tmp t,by simpa using hx,rfl⟩);simp [ev,oJ,ht]
  |_=>rfl
 rw[<- this];exact h
structure Eb where
 val:Option V
 tf:List Obj->List Obj
def mK (x:Eb):V:=x.val.getD .un
def Jg (fs:cV) (k:Nat) (f:List Obj->List Obj):Prop :=
 ∀s,(f s).length=s.length/\(∀id,id ∉ nm fs k->(f s)[id]?=s[id]?)/\∀s',s'.length=s.length->∀id,id∈nm fs k->s'[id]?=s[id]?->(f s)[id]?=(f s')[id]?
def JE (P:Program) (full:List Oper) (bars:List Nat) (fs:cV) (i:Nat) (o:Oper) (x:Eb) (e:Env) (s:List Obj):Prop :=
 (bars.contains i=false->Jg fs i x.tf) /\
 match x.val with
 |none=>(∀s,x.tf s=s)/\∃g want d,o.guard=some (g,want)/\jR full g=some d/\(e d=.d (.sc (.bool (!want)))\/e d=.un)
 |some v=>(∀g want,o.guard=some (g,want)->∃d,jR full g=some d/\e d=.d (.sc (.bool want))) /\
   ∀s',s'.length=s.length->(bars.contains i=true->s'=s)->(∀id,SK fs i id->s'[id]?=s[id]?)->NQ P full o e s' v (x.tf s')
def Trace (P:Program) (N:Nat) (full:List Oper) (bars:List Nat) (fs:cV):Nat->List Oper->List Eb->Env->List Obj->Env->List Obj->Prop
 |_,[],[],e,s,e',s'=>e'=e/\s'=s
 |i,o::rest,x::tr,e,s,e',s'=>dY N o.dst/\JE P full bars fs i o x e s/\Trace P N full bars fs (i+1) rest tr (fZ e o.dst (mK x)) (x.tf s) e' s'
 |_,_,_,_,_,_,_=>False
def ew:List Oper->List Eb->(Nat->Bool)->Nat->Env->Env
 |o::l,x::tr,L,k,e=>ew l tr L (k+1) (if L k then fZ e o.dst (mK x) else e)
 |_,_,_,_,e=>e
theorem Cg{d:Nat}{v:V} (h:e d=v):cB e d v=e:=by
 funext t;unfold cB;split
 ·rename_i ht;subst ht;exact h.symm
 ·rfl
theorem mF:∀(l:List Oper) (tr:List Eb) (L:Nat->Bool) (k:Nat) (e:Env),(∀j,k<=j->L j=false)->ew l tr L k e=e
 |[],_,_,_,_,_=>by simp [ew]
 |_::_,[],_,_,_,_=>by simp [ew]
 |o::l,x::tr,L,k,e,h=>by simp only[ew,h k (adB _)];exact mF l tr L (k+1) e λj hj=>h j (by omega)
theorem E6:∀(m:Nat) (l:List Oper) (tr:List Eb) (k:Nat) (e:Env) (o:Oper) (x:Eb),l[m]?=some o->tr[m]?=some x ->
  ew l tr (λj=>decide (j<k+m+1)) k e=fZ (ew l tr (λj=>decide (j<k+m)) k e) o.dst (mK x)
 |_,[],_,_,_,_,_,h,_=>by simp at h
 |_,_::_,[],_,_,_,_,_,h=>by simp at h
 |0,o'::l,x'::tr,k,e,o,x,h1,h2=>by simp only[adU,adp]at h1 h2;subst h1;subst h2;simp only[ew,Nat.add_zero,Nat.lt_irrefl,decide_false,adq,if_false,show k<k+1 by omega,decide_true,if_true];rw[mF _ _ _ _ _ (λj hj=>by simp;omega),mF _ _ _ _ _ (λj hj=>by simp;omega)]
 |m+1,o'::l,x'::tr,k,e,o,x,h1,h2=>by
  have h3:decide (k<k+(m+1)+1)=true:=by simp;omega
  have h4:decide (k<k+(m+1))=true:=by simp
  simp only[ew,h3,h4,if_true];have:=E6 m l tr (k+1) (fZ e o'.dst (mK x')) o x (by simpa using h1) (by simpa using h2);rw[show k+(m+1)+1=k+1+m+1 by omega,show k+(m+1)=k+1+m by omega];exact this
theorem pb (e:Env) (d:Option Nat) (v:V) (t:Nat):fZ e d v t=if d=some t then v else e t:=by
 cases d with
 |none=>simp [fZ]
 |some d =>
  simp only[fZ,cB,adp];by_cases h:t=d
  ·rw[ap h,ap h.symm]
  ·rw[am h,am (Ne.symm h)]
theorem jH (t:Nat):∀(l:List Oper) (tr:List Eb) (L L':Nat->Bool) (k:Nat) (e e':Env),e t=e' t->(∀m o,l[m]?=some o->o.dst=some t->L (k+m)=L' (k+m)) ->
  ew l tr L k e t=ew l tr L' k e' t
 |[],_,_,_,_,_,_,he,_=>by simpa [ew]using he
 |_::_,[],_,_,_,_,_,he,_=>by simpa [ew]using he
 |o::l,x::tr,L,L',k,e,e',he,h=>by
  simp only[ew];refine jH t l tr L L' (k+1) _ _ ?_ λm o' mo hd=>by have:=h (m+1) o' (by simpa using mo) hd;simpa [Nat.add_assoc,Nat.add_comm 1 m]using this
  by_cases hd:o.dst=some t
  ·have:=h 0 o rfl hd;simp only[Nat.add_zero]at this;rw[this];split
   ·rw[pb,pb,ap hd,ap hd]
   ·exact he
  ·have h1:∀(b:Bool) (f:Env),(if b=true then fZ f o.dst (mK x) else f) t=f t:=λb f=>by cases b <;> simp [pb,hd]
   rw[h1,h1];exact he
def fT:List Eb->(Nat->Bool)->Nat->List Obj->List Obj
 |x::tr,L,k,s=>fT tr L (k+1) (if L k then x.tf s else s)
 |[],_,_,s=>s
theorem oE:∀(tr:List Eb) (L:Nat->Bool) (k:Nat) (s:List Obj),(∀j,k<=j->L j=false)->fT tr L k s=s
 |[],_,_,_,_=>rfl
 |x::tr,L,k,s,h=>by simp only[fT];rw[oE tr L (k+1) _ λj hj=>h j (by omega)];simp [h k (adB _)]
theorem pI:∀(tr:List Eb) (L L':Nat->Bool) (k:Nat) (s:List Obj),(∀m,m<tr.length->L (k+m)=L' (k+m))->fT tr L k s=fT tr L' k s
 |[],_,_,_,_,_=>rfl
 |x::tr,L,L',k,s,h=>by
  simp only[fT];have h0:L k=L' k:=by have:=h 0 (by simp);simpa using this
  rw[h0];exact pI tr L L' (k+1) _ λm hm=>by have:=h (m+1) (by simpa using hm);rw[show k+(m+1)=k+1+m by omega]at this;exact this
theorem Kt:∀(m:Nat) (tr:List Eb) (k:Nat) (s:List Obj) (x:Eb),tr[m]?=some x ->
  fT tr (λj=>decide (j<k+m+1)) k s=x.tf (fT tr (λj=>decide (j<k+m)) k s)
 |_,[],_,_,_,h=>by simp at h
 |0,x'::tr,k,s,x,h=>by simp only[adU,adp]at h;subst h;simp only[fT,Nat.add_zero,Nat.lt_irrefl,decide_false,adq,if_false,show k<k+1 by omega,decide_true,if_true];rw[oE _ _ _ _ (λj hj=>by simp;omega),oE _ _ _ _ (λj hj=>by simp;omega)]
 |m+1,x'::tr,k,s,x,h=>by
  have h3:decide (k<k+(m+1)+1)=true:=by simp;omega
  have h4:decide (k<k+(m+1))=true:=by simp
  simp only[fT,h3,h4,if_true];have:=Kt m tr (k+1) (x'.tf s) x (by simpa using h);rw[show k+(m+1)+1=k+1+m+1 by omega,show k+(m+1)=k+1+m by omega];exact this
theorem qh {bars:List Nat}{fs:cV}{R:Nat->Prop}:∀(tr:List Eb) (L L':Nat->Bool) (k:Nat) (s s':List Obj),
  (∀m x,tr[m]?=some x->bars.contains (k+m)=false->Jg fs (k+m) x.tf) ->
  (∀m,m<tr.length->L (k+m)=L' (k+m)/\(bars.contains (k+m)=true->L (k+m)=true->s=s'/\∀m',m'<m->L (k+m')=L' (k+m'))\/(bars.contains (k+m)=false/\∀id,R id->id ∉ nm fs (k+m))) ->
  s.length=s'.length->(∀id,R id->s[id]?=s'[id]?) ->
  (fT tr L k s).length=(fT tr L' k s').length/\∀id,R id->(fT tr L k s)[id]?=(fT tr L' k s')[id]?
 |[],_,_,_,s,s',_,_,hl,h=>⟨hl,h⟩
 |x::tr,L,L',k,s,s',J9,hd,hl,h=>by
  simp only[fT];have YV:∀m y,tr[m]?=some y->bars.contains (k+1+m)=false->Jg fs (k+1+m) y.tf:=λm y hy hb=>by have:=J9 (m+1) y (by simpa using hy) (by rw[show k+(m+1)=k+1+m by omega];exact hb);rwa [show k+(m+1)=k+1+m by omega]at this
  have next:∀t t':List Obj,t.length=t'.length->(∀id,R id->t[id]?=t'[id]?)->(s=s'->L k=L' k->t=t') ->
    (fT tr L (k+1) t).length=(fT tr L' (k+1) t').length/\∀id,R id->(fT tr L (k+1) t)[id]?=(fT tr L' (k+1) t')[id]?:=by
   intro t t' h1 h2 h3;refine qh tr L L' (k+1) t t' YV (λm hm=>?_) h1 h2;have:=hd (m+1) (by simpa using hm);rw[show k+(m+1)=k+1+m by omega]at this;rcases this with ⟨g1,g2⟩|g
   ·refine .inl ⟨g1,λhb Yd=>?_⟩;obtain⟨g3,g4⟩:=g2 hb Yd;have g0:=g4 0 (by omega);rw[Nat.add_zero]at g0;exact⟨h3 g3 g0,λm' mr=>by
     have:=g4 (m'+1) (by omega);rwa [show k+(m'+1)=k+1+m' by omega]at this⟩
   ·exact .inr g
  have d0:=hd 0 (by simp);rw[Nat.add_zero]at d0;have Vs:=J9 0 x rfl;rw[Nat.add_zero]at Vs;cases hL:L k with
  |false =>
   cases TM:L' k with
   |false =>
    simp only[adq,if_false];exact next s s' hl h λh _=>h
   |true =>
    simp only[adq,if_false,if_true];rcases d0 with ⟨d0,_⟩|⟨d1,d2⟩
    ·rw[hL,TM]at d0;cases d0
    ·obtain⟨f1,f2,_⟩:=Vs d1 s';exact next s (x.tf s') (by rw[f1];exact hl) (λid dB=>by rw[f2 id (d2 id dB)];exact h id dB) λ_ h'=>by rw[hL,TM]at h';cases h'
  |true =>
   cases TM:L' k with
   |false =>
    simp only[adq,if_false,if_true];rcases d0 with ⟨d0,_⟩|⟨d1,d2⟩
    ·rw[hL,TM]at d0;cases d0
    ·obtain⟨f1,f2,_⟩:=Vs d1 s;exact next (x.tf s) s' (by rw[f1];exact hl) (λid dB=>by rw[f2 id (d2 id dB)];exact h id dB) λ_ h'=>by rw[hL,TM]at h';cases h'
   |true =>
    simp only[if_true];cases hb:bars.contains k with
    |true =>
     rcases d0 with ⟨_,d0⟩|⟨d1,_⟩
     ·obtain⟨rfl,_⟩:=d0 hb hL;exact next _ _ rfl (λ_ _=>rfl) λ_ _=>rfl
     ·rw[hb]at d1;cases d1
    |false =>
     obtain⟨f1,f2,f3⟩:=Vs hb s;obtain⟨f1',f2',_⟩:=Vs hb s';refine next _ _ (by rw[f1,f1'];exact hl) (λid dB=>?_) λh _=>by rw[h]
     by_cases hw:id∈nm fs k
     ·exact f3 s' hl.symm id hw (h id dB).symm
     ·rw[f2 id hw,f2' id hw];exact h id dB
theorem F3 {P:Program}{N:Nat}{full:List Oper}{bars:List Nat}{fs:cV}:∀(l:List Oper) (tr:List Eb) (i:Nat) (e:Env) (s:List Obj) (e':Env) (s':List Obj),Trace P N full bars fs i l tr e s e' s' ->
  tr.length=l.length/\e'=ew l tr (λ_=>true) i e/\s'=fT tr (λ_=>true) i s /\
  ∀(m:Nat) (o:Oper) (x:Eb),l[m]?=some o->tr[m]?=some x->dY N o.dst/\JE P full bars fs (i+m) o x (ew l tr (λj=>decide (j<i+m)) i e) (fT tr (λj=>decide (j<i+m)) i s)
 |[],[],i,e,s,e',s',h=>by obtain⟨rfl,rfl⟩:=h;exact⟨rfl,by simp [ew],rfl,λm o x h=>by simp at h⟩
 |[],_::_,_,_,_,_,_,h=>h.elim
 |_::_,[],_,_,_,_,_,h=>h.elim
 |o::l,x::tr,i,e,s,e',s',h=>by
  obtain⟨hd,hx,ht⟩:=h;obtain⟨h0,h1,h2,h3⟩:=F3 l tr (i+1) _ _ e' s' ht;refine⟨by simp [h0],by simp only[ew,if_true];exact h1,by simp only[fT,if_true];exact h2,λm o1 x1 ho Ps=>?_⟩;cases m with
  |zero =>
   simp only[adU,adp]at ho Ps;subst ho;subst Ps;have e1:ew (o::l) (x::tr) (λj=>decide (j<i+0)) i e=e:=mF _ _ _ _ _ λj hj=>by simp;omega
   have e2:fT (x::tr) (λj=>decide (j<i+0)) i s=s:=oE _ _ _ _ λj hj=>by simp;omega
   rw[e1,e2];exact⟨hd,hx⟩
  |succ m =>
   have:=h3 m o1 x1 (by simpa using ho) (by simpa using Ps);rw[show i+(m+1)=i+1+m by omega];have aH:decide (i<i+1+m)=true:=by simp;omega
   have e1:ew (o::l) (x::tr) (λj=>decide (j<i+1+m)) i e=ew l tr (λj=>decide (j<i+1+m)) (i+1) (fZ e o.dst (mK x)):=by simp only[ew,aH,if_true]
   have e2:fT (x::tr) (λj=>decide (j<i+1+m)) i s=fT tr (λj=>decide (j<i+1+m)) (i+1) (x.tf s):=by simp only[fT,aH,if_true]
   rw[e1,e2];exact this
def s9 (bB:Array Bool) (j:Nat):Bool:=bB.getD j false
def UM (bB:Array Bool):Nat:=(bB.toList.filter (!·)).length
theorem RB (h:bB.getD i true=false):UM (bB.setIfInBounds i true)<UM bB:=by
 have hi:i<bB.size:=by
  rcases adV i bB.size with h'|h'
  ·exact h'
  ·simp [Array.getElem?_eq_none h']at h
 have hv:bB.toList[i]?=some false:=by rw[adH]at h;rw[aed];rw[Array.getElem?_eq_getElem hi]at h ⊢;simpa using h
 unfold UM;rw[Array.toList_setIfInBounds];generalize bB.toList=l at hv;clear h hi;induction l generalizing i with
 |nil=>simp at hv
 |cons b l ih =>
  cases i with
  |zero =>
   simp only[adU,adp]at hv;subst hv;simp
  |succ i =>
   have:=ih (i:=i) (by simpa using hv);simp only[ad6,List.filter_cons];cases b
   ·simp only[adz,if_true,adA];omega
   ·simpa using this
theorem OI (h:UM bB=0) (hi:i<bB.size):bB.getD i false=true:=by unfold UM at h;rw[List.length_eq_zero_iff,List.filter_eq_nil_iff]at h;have:=h bB[i] (by simp);simpa [Array.getD,hi]using this
section
variable {P:Program}{N:Nat}{full:List Oper}{bars:List Nat}{fs:cV}{tr:List Eb}{e0:Env}{s0:List Obj}
variable{i:Nat}{oi:Oper}{s:List Obj}{s1:List Obj}{e1:Env}
theorem m8 (hd:jx full bars fs=true) {j:Nat}{oj:Oper} (hi:full[i]?=some oi) (hj:full[j]?=some oj) (UY:i<j):Ax full (BC full []) bars fs i j oi oj=true:=by simp only[jx,adE]at hd;have h1:=hd (oi,i) (by rw[List.mem_zipIdx_iff_getElem?];exact hi);simp only[adD,adE]at h1;have h2:=h1.2 (oj,j) (by rw[List.mem_zipIdx_iff_getElem?];exact hj);simpa [UY]using h2
theorem rC (hd:jx full bars fs=true) (hi:full[i]?=some oi) {x:Edge} (hx:x∈oi.after) (hb:Region.binds .any x=true):x.on<i:=by simp only[jx,adE]at hd;have h1:=hd (oi,i) (by rw[List.mem_zipIdx_iff_getElem?];exact hi);simp only[adD,adE]at h1;have:=h1.1.2 x (by simpa using hx);simpa [hb]using this
theorem n9 {L:Nat->Prop} (hL:jT full L) {j:Nat} (h:TS (BC full []) i j=true) (hj:L j):L i :=
 Ag hL full [] (by simp) (by simp) j i h hj
theorem zi (hd:jx full bars fs=true) {L:Nat->Bool} (hL:jT full λj=>L j=true) (hi:full[i]?=some oi) (yv:L i=false)
  (hready:∀x∈oi.after.toList,Region.binds .any x=true->L x.on=true) {m:Nat}{om:Oper} (hm:full[m]?=some om) (fG:m≠i) :
  L m=decide (m<i)\/((om.apart full.toArray oi=true/\oi.apart full.toArray om=true)/\bars.contains m=false/\bars.contains i=false/\qQ fs m i=true):=by
 have TM:jT full λj=>L j=true\/j=i:=by
  intro j o ho hj x hx hb;rcases hj with hj|rfl
  ·exact .inl (hL j o ho hj x hx hb)
  ·rw[hi]at ho;cases ho;exact .inl (hready x hx hb)
 rcases Nat.lt_or_gt_of_ne fG with aH|Yn
 ·have hp:=m8 hd hm hi aH;simp only[Ax,Bool.or_eq_true]at hp;rcases hp with hp|hp
  ·rcases n9 TM hp (.inr rfl) with h|h
   ·exact .inl (by rw[h];simp [aH])
   ·exact absurd h fG
  ·simp only[adD,Bool.not_eq_true']at hp;obtain⟨⟨⟨⟨a1,a2⟩,a3⟩,a4⟩,a5⟩:=hp;exact .inr ⟨⟨a1,a2⟩,a3,a4,a5⟩
 ·have hp:=m8 hd hi hm Yn;simp only[Ax,Bool.or_eq_true]at hp;rcases hp with hp|hp
  ·cases IA:L m with
   |false=>exact .inl (by simp;omega)
   |true=>have:=n9 hL hp IA;rw[yv]at this;cases this
  ·simp only[adD,Bool.not_eq_true']at hp;obtain⟨⟨⟨⟨a1,a2⟩,a3⟩,a4⟩,a5⟩:=hp;exact .inr ⟨⟨a2,a1⟩,a4,a3,xn a5⟩
theorem tQ (hd:jx full bars fs=true) {L:Nat->Bool} (hL:jT full λj=>L j=true) {k m:Nat} (hk:bars.contains k=true) (XB:L k=true) (hkf:k<full.length) (hm:m<k):L m=true:=by
 have hp:=m8 hd (adn (by omega:m<full.length)) (adn hkf) hm;simp only[Ax,Bool.or_eq_true]at hp;rcases hp with hp|hp
 ·exact n9 hL hp XB
 ·simp only[adD,Bool.not_eq_true']at hp;rw[hk]at hp;exact absurd hp.1.2 (by simp)
theorem jT.add {L:Nat->Bool} (hL:jT full λj=>L j=true) (hi:full[i]?=some oi) (hready:∀x∈oi.after.toList,Region.binds .any x=true->L x.on=true) {L':Nat->Bool}
  (h':∀j,L' j=(L j||decide (j=i))):jT full λj=>L' j=true:=by
 intro j o ho hj x hx hb;have hj:L' j=true:=hj;show L' x.on=true;rw[h',Bool.or_eq_true]at hj ⊢;rcases hj with hj|hj
 ·exact .inl (hL j o ho hj x hx hb)
 ·rw[adC]at hj;subst hj;rw[hi]at ho;cases ho;exact .inl (hready x hx hb)
theorem wU (hd:jx full bars fs=true) {L:Nat->Bool} (hL:jT full λj=>L j=true) (hi:full[i]?=some oi) (yv:L i=false)
  (hready:∀x∈oi.after.toList,Region.binds .any x=true->L x.on=true) {t:Nat} (ht:t∈oi.looksAt full.toArray):ew full tr L 0 e0 t=ew full tr (λj=>decide (j<0+i)) 0 e0 t:=by
 refine jH t full tr _ _ 0 _ _ rfl λm om hm A9=>?_;simp only[adI];by_cases fG:m=i
 ·subst fG;simp [yv]
 ·rcases zi hd hL hi yv hready hm fG with h|⟨⟨h,_⟩,_⟩
  ·exact h
  ·exact absurd ht ((Oper.apart_spec h).1 t A9)
theorem Nn (hd:jx full bars fs=true) (L L':Nat->Bool):ew full tr L 0 e0 0=ew full tr L' 0 e0 0:=by refine jH 0 full tr _ _ 0 _ _ rfl λm om hm A9=>?_;unfold jx at hd;have:=List.all_eq_true.1 hd (om,m) (List.mem_zipIdx_iff_getElem?.2 hm);simp [Se,A9]at this
theorem QO (hd:jx full bars fs=true) {L:Nat->Bool} (hL:jT full λj=>L j=true) (hi:full[i]?=some oi) (yv:L i=false)
  (hready:∀x∈oi.after.toList,Region.binds .any x=true->L x.on=true) {x:Eb} (hx:tr[i]?=some x) {L':Nat->Bool} (h':∀j,L' j=(L j||decide (j=i))) :
  ew full tr L' 0 e0=fZ (ew full tr L 0 e0) oi.dst (mK x):=by
 funext t;by_cases Wp:oi.dst=some t
 ·rw[pb,ap Wp];have h1:ew full tr L' 0 e0 t=ew full tr (λj=>decide (j<0+i+1)) 0 e0 t:=by
   refine jH t full tr _ _ 0 _ _ rfl λm om hm A9=>?_;simp only[adI];rw[h'];by_cases fG:m=i
   ·subst fG;simp
   ·rcases zi hd hL hi yv hready hm fG with h|⟨⟨h,_⟩,_⟩
    ·rw[h];simp only[fG,decide_false,aea];rw[decide_eq_decide];omega
    ·exact absurd Wp ((Oper.apart_spec h).2.1 t A9)
  rw[h1,E6 i full tr 0 e0 oi x hi hx,pb,ap Wp]
 ·rw[pb,am Wp];refine jH t full tr _ _ 0 _ _ rfl λm om hm A9=>?_;simp only[adI];rw[h'];by_cases fG:m=i
  ·subst fG;rw[hi]at hm;cases hm;exact absurd A9 Wp
  ·simp [fG]
theorem vF (hd:jx full bars fs=true) (hl:tr.length=full.length) (J9:∀m x,tr[m]?=some x->bars.contains m=false->Jg fs m x.tf) {L:Nat->Bool} (hL:jT full λj=>L j=true) (hi:full[i]?=some oi) (yv:L i=false)
  (hready:∀x∈oi.after.toList,Region.binds .any x=true->L x.on=true) {R:Nat->Prop} (hR:∀m,bars.contains i=false->qQ fs m i=true->∀id,R id->id ∉ nm fs m) :
  (fT tr L 0 s0).length=(fT tr (λj=>decide (j<0+i)) 0 s0).length/\∀id,R id->(fT tr L 0 s0)[id]?=(fT tr (λj=>decide (j<0+i)) 0 s0)[id]?:=by
 have hif:i<full.length:=(List.getElem?_eq_some_iff.1 hi).1;refine qh (bars:=bars) (fs:=fs) tr _ _ 0 s0 s0 (λm x hx hb=>by rw[adI]at hb ⊢;exact J9 m x hx hb) (λm hm=>?_) rfl λ_ _=>rfl;simp only[adI];have S4:bars.contains m=true->L m=true->m<i->∀m',m'<m->L m'=decide (m'<i):=by intro hb IA WS m' mr;rw[tQ hd hL hb IA (by omega) mr];simp;omega
 by_cases fG:m=i
 ·subst fG;exact .inl ⟨by simp [yv],λ_ h=>by rw[yv]at h;cases h⟩
 ·rcases zi hd hL hi yv hready (adn (by omega:m<full.length)) fG with h|⟨_,h1,h2,h3⟩
  ·exact .inl ⟨h,λhb IA=>⟨trivial,S4 hb IA (by rw[IA]at h;simpa using h.symm)⟩⟩
  ·exact .inr ⟨h1,hR m h2 h3⟩
theorem Uv (hd:jx full bars fs=true) (hl:tr.length=full.length) (J9:∀m x,tr[m]?=some x->bars.contains m=false->Jg fs m x.tf) {L:Nat->Bool} (hL:jT full λj=>L j=true) (hi:full[i]?=some oi) (yv:L i=false)
  (hready:∀x∈oi.after.toList,Region.binds .any x=true->L x.on=true) {x:Eb} (hx:tr[i]?=some x) {L':Nat->Bool} (h':∀j,L' j=(L j||decide (j=i))) :
  fT tr L' 0 s0=x.tf (fT tr L 0 s0):=by
 have hif:i<full.length:=(List.getElem?_eq_some_iff.1 hi).1;have aH:=Kt i tr 0 s0 x hx;rw[adI]at aH;have S4:∀m,m<tr.length->bars.contains m=true->L m=true->m<i->∀m',m'<m->L m'=decide (m'<i):=by intro m hm hb IA WS m' mr;rw[tQ hd hL hb IA (by omega) mr];simp;omega
 by_cases hb:bars.contains i=true
 ·-- a YB: JL set is all Zh abQ before it
  have dg:∀m,m<tr.length->L m=decide (m<i):=by
   intro m hm;by_cases fG:m=i
   ·subst fG;simp [yv]
   ·rcases zi hd hL hi yv hready (adn (by omega:m<full.length)) fG with h|⟨_,_,h2,_⟩
    ·exact h
    ·rw[hb]at h2;cases h2
  rw[pI tr L (λj=>decide (j<i)) 0 s0 λm hm=>by rw[adI];exact dg m hm,<- aH];refine pI tr _ _ 0 s0 λm hm=>?_;rw[adI,h',dg m hm];by_cases fG:m=i
  ·subst fG;simp
  ·simp only[fG,decide_false,aea];rw[decide_eq_decide];omega
 ·have hb:bars.contains i=false:=by simpa using hb
  obtain⟨f1,f2,f3⟩:=J9 i x hx hb (fT tr L 0 s0)
  -- off XU i writes: nothing is new
  have YE:=qh (bars:=bars) (fs:=fs) (R:=λid=>id ∉ nm fs i) tr L' L 0 s0 s0 (λm y hy hb=>by rw[adI]at hb ⊢;exact J9 m y hy hb) (λm hm=>by
    simp only[adI];by_cases fG:m=i
    ·subst fG;exact .inr ⟨hb,λid dB=>dB⟩
    ·have e1:L' m=L m:=by rw[h'];simp [fG]
     refine .inl ⟨e1,λU2 IA=>⟨trivial,λm' mr=>?_⟩⟩;rw[e1]at IA;have:=tQ hd hL U2 IA (by omega) mr;rw[h',this];rfl) rfl λ_ _=>rfl
  -- on XU i writes: as in JL XR order
  have onW:=qh (bars:=bars) (fs:=fs) (R:=λid=>id∈nm fs i) tr L' (λj=>decide (j<i+1)) 0 s0 s0 (λm y hy hb=>by rw[adI]at hb ⊢;exact J9 m y hy hb) (λm hm=>by
    simp only[adI];by_cases fG:m=i
    ·subst fG;refine .inl ⟨by rw[h'];simp,λU2 _=>by rw[hb]at U2;cases U2⟩
    ·have e1:L' m=L m:=by rw[h'];simp [fG]
     rcases zi hd hL hi yv hready (adn (by omega:m<full.length)) fG with h|⟨_,h1,_,h3⟩
     ·refine .inl ⟨by rw[e1,h,decide_eq_decide];omega,λU2 IA=>⟨trivial,λm' mr=>?_⟩⟩;rw[e1]at IA;have WS:m<i:=by rw[IA]at h;simpa using h.symm
      rw[h',S4 m hm U2 IA WS m' mr];simp only[show m'≠i by omega,decide_false,aea];rw[decide_eq_decide];omega
     ·exact .inr ⟨h1,λid dB=>(rA (xn h3) dB).2⟩) rfl λ_ _=>rfl
  refine List.ext_getElem? λid=>?_;by_cases hw:id∈nm fs i
  ·have:=vF (s0:=s0) hd hl J9 hL hi yv hready (R:=λid=>id∈nm fs i) (λm _ hc id dB hm=>(rA hc hm).2 dB);rw[adI]at this;rw[onW.2 id hw,aH,f3 _ this.1.symm id hw (this.2 id hw).symm]
  ·rw[YE.2 id hw,f2 id hw]
theorem Gb {σ:Gh}{w:World}{e:Env}{a:Act}{o:Oper}{g:Nat}{want:Bool}{d:Nat} (hR:fj σ s w N e a) (ho:o.guard=some (g,want)) (hg:jR full g=some d) :
  (e d=.d (.sc (.bool want))->Region.wanted o (yielded full.toArray a.tmps)=true)/\(e d=.d (.sc (.bool (!want)))\/e d=.un->Region.wanted o (yielded full.toArray a.tmps)=false):=by
 constructor
 ·intro h;have hw:jq (jR full g) e want (λ_=>True) (λ_=>False):=by rw[hg];simp [jq,h]
  obtain⟨_,_,h|h⟩:=pR hR ho hw
  ·exact h.1
  ·exact h.2.elim
 ·intro h;have hw:jq (jR full g) e want (λ_=>False) (λ_=>True):=by rw[hg];rcases h with h|h <;> simp [jq,h]
  obtain⟨_,_,h|h⟩:=pR hR ho hw
  ·exact h.2.elim
  ·exact h.1
theorem Lt (hd:jx full bars fs=true) (ht:Trace P N full bars fs 0 full tr e0 s0 e1 s1)
  {Xt:Gh}{WK:List Obj}{XE:World}{Q:Exit->Env->List Obj->Prop} (hQ:Q .normal e1 s1):∀(fuel:Nat) (bB:Array Bool) (σ:Gh) (w:World) (a:Act),bB.size=full.length->UM bB<=fuel ->
  (jT full λj=>s9 bB j=true)->aW Xt WK XE σ (fT tr (s9 bB) 0 s0) w->Inv σ (fT tr (s9 bB) 0 s0) w->fj σ (fT tr (s9 bB) 0 s0) w N (ew full tr (s9 bB) 0 e0) a ->
  wpAny P .any full.toArray (QX Xt WK XE N Q) fuel bB a w:=by
 intro fuel;obtain⟨hl,t1,t2,t3⟩:=F3 full tr 0 e0 s0 e1 s1 ht;have J9:∀m x,tr[m]?=some x->bars.contains m=false->Jg fs m x.tf:=by
  intro m x hx hb;have hm:m<full.length:=by have:=(List.getElem?_eq_some_iff.1 hx).1;omega
  have:=(t3 m full[m] x (adn hm) hx).2.1;rw[adI]at this;exact this hb
 -- when nothing is ready all is bB
 have CQ:∀bB:Array Bool,bB.size=full.length->Region.ready .any full.toArray bB=[]->∀j,j<full.length->s9 bB j=true:=by
  intro bB gf hr j;induction j using Nat.strongRecOn with
  |_ j ih =>
   intro hj;cases ZX:s9 bB j with
   |true=>rfl
   |false =>
    exfalso;have:j∈Region.ready .any full.toArray bB:=by
     rw[mem_ready];refine⟨?_,full[j],by simp [hj],λx hx hb=>?_⟩
     ·unfold s9 at ZX;have:j<bB.size:=by omega
      simpa [Array.getD,this]using ZX
     ·exact ih x.on (rC hd (adn hj) hx hb) (by
       have:=rC hd (adn hj) hx hb;omega)
    rw[hr]at this;cases this
 have fin:∀(bB:Array Bool) (σ:Gh) (w:World) (a:Act),(∀j,j<full.length->s9 bB j=true)->aW Xt WK XE σ (fT tr (s9 bB) 0 s0) w->Inv σ (fT tr (s9 bB) 0 s0) w ->
   fj σ (fT tr (s9 bB) 0 s0) w N (ew full tr (s9 bB) 0 e0) a->QX Xt WK XE N Q .normal a w:=by
  intro bB σ w a dg hE hI hR;have he:ew full tr (s9 bB) 0 e0=e1:=by rw[t1];funext t;refine jH t full tr _ _ 0 _ _ rfl λm om hm _=>?_;rw[adI];exact dg m (List.getElem?_eq_some_iff.1 hm).1
  have hs:fT tr (s9 bB) 0 s0=s1:=by rw[t2];refine pI tr _ _ 0 _ λm hm=>?_;rw[adI];exact dg m (by omega)
  rw[he,hs]at hR;rw[hs]at hE hI;exact⟨e1,σ,s1,hE,hI,hR,hQ⟩
 have EU:∀bB:Array Bool,(∀j,j<full.length->s9 bB j=true)->Region.ready .any full.toArray bB=[]:=by
  intro bB dg;rw[List.eq_nil_iff_forall_not_mem];intro j hj;rw[mem_ready]at hj;obtain⟨h0,o,ho,_⟩:=hj;have Xj:j<full.length:=by simpa using (Array.getElem?_eq_some_iff.1 ho).1
  have:=dg j Xj;unfold s9 at this;rw[adH]at this h0;cases hx:bB[j]? with
  |none=>rw[hx]at h0;cases h0
  |some b=>rw[hx]at this h0;simp only[Option.getD_some]at this h0;rw[this]at h0;cases h0
 induction fuel with
 |zero =>
  intro bB σ w a gf hu hL hE hI hR;have dg:∀j,j<full.length->s9 bB j=true:=λj hj=>OI (by omega) (by omega);exact⟨EU bB dg,fin bB σ w a dg hE hI hR⟩
 |succ fuel ih =>
  intro bB σ w a gf hu hL hE hI hR;refine⟨λhr=>fin bB σ w a (CQ bB gf hr) hE hI hR,λi hir=>?_⟩;rw[mem_ready]at hir;obtain⟨h0,o,ho,SO⟩:=hir;have hif:i<full.length:=by simpa using (Array.getElem?_eq_some_iff.1 ho).1
  have P0:full[i]?=some o:=by simpa using ho
  have yv:s9 bB i=false:=by
   unfold s9;have:i<bB.size:=by omega
   simp only[Array.getD,this,dif_pos]at h0 ⊢;exact h0
  have hready:∀x∈o.after.toList,Region.binds .any x=true->s9 bB x.on=true:=λx hx hb=>SO x (by simpa using hx) hb;have hx:∃x,tr[i]?=some x:=⟨tr[i],adn (by omega)⟩
  obtain⟨x,hx⟩:=hx;have h':∀j,s9 (bB.setIfInBounds i true) j=(s9 bB j||decide (j=i)):=by
   intro j;unfold s9;by_cases XW:j=i
   ·subst XW;have:j<bB.size:=by omega
    simp [this]
   ·rw[getD_set_ne false (Ne.symm XW)];simp [XW]
  have SE:=ih (bB.setIfInBounds i true);have ZT:=QO (tr:=tr) (e0:=e0) hd hL P0 yv hready hx h';have Vg:=Uv (s0:=s0) hd hl J9 hL P0 yv hready hx h';have cZ:=jT.add hL P0 hready h';have hul:=RB h0;obtain⟨A9,_,UU⟩:=t3 i o x P0 hx;unfold wpOp;rw[ho];simp only;cases hv:x.val with
  |none =>
   rw[hv]at UU;obtain⟨aU,g,want,d,hg,Q0,Jd⟩:=UU;have Pg:d∈o.looksAt full.toArray:=by
    unfold jR at Q0;split at Q0
    ·rename_i og SR;simp [Oper.looksAt,hg,SR,Q0]
    ·cases Q0
   rw[<- wU (tr:=tr) (e0:=e0) hd hL P0 yv hready Pg]at Jd;rw[(Gb hR hg Q0).2 Jd];simp only[adq,if_false];rw[aU]at Vg;refine SE σ w _ (by simpa using gf) (by omega) cZ (by rw[Vg];exact hE) (by rw[Vg];exact hI) ?_;rw[Vg,ZT];have:mK x=.un:=by simp [mK,hv]
   rw[this];exact hR.put A9 .un
  |some v =>
   rw[hv]at UU;obtain⟨Q0,Na⟩:=UU;have WE:Region.wanted o (yielded full.toArray a.tmps)=true:=by
    cases hg:o.guard with
    |none=>simp [Region.wanted,hg]
    |some gw =>
     obtain⟨g,want⟩:=gw;obtain⟨d,Jd,Xd⟩:=Q0 g want hg;have Pg:d∈o.looksAt full.toArray:=by
      unfold jR at Jd;split at Jd
      ·rename_i og SR;simp [Oper.looksAt,hg,SR,Jd]
      ·cases Jd
     rw[<- wU (tr:=tr) (e0:=e0) hd hL P0 yv hready Pg]at Xd;exact(Gb hR hg Jd).1 Xd
   rw[ap WE];have Vt:NQ P full o (ew full tr (s9 bB) 0 e0) (fT tr (s9 bB) 0 s0) v (fT tr (s9 (bB.setIfInBounds i true)) 0 s0):=by
    have hm:oJ full o (ew full tr (s9 bB) 0 e0)=oJ full o (ew full tr (λj=>decide (j<0+i)) 0 e0):=HF (Nn hd _ _) λt ht=>wU hd hL P0 yv hready ht;unfold NQ;rw[hm,Vg];refine Na _ ?_ ?_ ?_
    ·exact(vF (s0:=s0) hd hl J9 hL P0 yv hready (R:=λ_=>False) (λ_ _ _ _ h=>h.elim)).1
    ·intro hb;rw[adI]at hb;have:=vF (s0:=s0) hd hl J9 hL P0 yv hready (R:=λ_=>True) (λ_ h=>by rw[hb]at h;cases h);exact List.ext_getElem? λid=>this.2 id trivial
    ·intro id dB;rw[adI]at dB;exact(vF (s0:=s0) hd hl J9 hL P0 yv hready (R:=λid=>SK fs i id) (λm _ hc id dB hw=>(rA hc hw).1 dB)).2 id dB
   refine .inl (Oper.wp_mono (λa' w' ⟨u,v',σ',s',ha,oI,gS,jb,hK⟩=>?_) (Oper.C9 (Vt σ w N a hI (hR.mask full o))));obtain⟨rfl,rfl⟩:=hK;subst ha;refine SE σ' w' _ (by simpa using gf) (by omega) cZ (hE.trans oI) gS ?_;rw[ZT];have:mK x=v':=by simp [mK,hv]
   rw[this];exact(hR.bF oI).put A9 jb
theorem Fl (hm:P.follows .mixedOrders=true) (hd:jx full bars fs=true) {e:Env} (ht:Trace P N full bars fs 0 full tr e s e1 s1) {K:Env->List Obj->Prop} (hK:K e1 s1):qG P N full e s K:=by
 intro σ0 WK w0 Q Yh σ w a id hE hI hR;refine wp_region_any hm ?_;have hf:∀j,s9 (Array.replicate full.toArray.size false) j=false:=by intro j;unfold s9;rw[adH,Array.getElem?_replicate];split <;> rfl
 have hs:fT tr (s9 (Array.replicate full.toArray.size false)) 0 s=s:=oE _ _ _ _ λj _=>hf j;have he:ew full tr (s9 (Array.replicate full.toArray.size false)) 0 e=e:=mF _ _ _ _ _ λj _=>hf j;refine Lt hd ht (Yh e1 s1 hK) _ _ σ _ a (by simp) ?_ (λj o _ hj=>by have hj:s9 _ j=true:=hj;rw[hf j]at hj;cases hj) ?_ ?_ ?_
 ·unfold UM;refine Nat.le_trans (List.length_filter_le _ _) (by simp)
 ·rw[hs];exact hE.trans (qY hI).1
 ·rw[hs];exact(qY hI).2
 ·rw[hs,he];exact hR.bF (qY hI).1
end
variable{c:Prop}{s:List Obj}
def jz (X:(V->Prop)->Prop):Prop:=∀K,X K->∃v,X (λv'=>v'=v)/\K v
def ox (X:(V->List Obj->Prop)->Prop):Prop:=∀K,X K->∃v s,X (λv' s'=>v'=v/\s'=s)/\K v s
theorem sM {agg n cs}:jz (nL agg n cs):=by
 intro K h;unfold nL at *;cases agg with
 |true=>exact⟨_,⟨h.1,rfl⟩,h.2⟩
 |false =>
  cases cs with
  |nil=>exact h.2.elim
  |cons v l=>exact⟨v,⟨h.1,rfl⟩,h.2⟩
theorem kZ {s id g}{F:Obj->(V->Prop)->Prop} (hF:∀o,jz (F o)):jz λK=>sh s id g λo=>F o K:=by
 intro K h;unfold sh at *;cases hs:s[id]? with
 |none=>rw[hs]at h;exact h.elim
 |some o =>
  simp only[hs]at h ⊢;obtain⟨v,h1,h2⟩:=hF o K h.2;exact⟨v,⟨h.1,h1⟩,h2⟩
theorem Ap {s id g}{F:Obj->(V->List Obj->Prop)->Prop} (hF:∀o,ox (F o)):ox λK=>sh s id g λo=>F o K:=by
 intro K h;unfold sh at *;cases hs:s[id]? with
 |none=>rw[hs]at h;exact h.elim
 |some o =>
  simp only[hs]at h ⊢;obtain⟨v,s1,h1,h2⟩:=hF o K h.2;exact⟨v,s1,⟨h.1,h1⟩,h2⟩
theorem bA {v:V}:jz λK=>K v:=λ_ h=>⟨v,rfl,h⟩
theorem aR:jz λ_=>False:=λ_ h=>h.elim
theorem b8{X:(V->Prop)->Prop} (h:jz X):jz λK=>c/\X K:=λK hk =>
 let ⟨v,h1,h2⟩:=h K hk.2
 ⟨v,⟨hk.1,h1⟩,h2⟩
theorem di {v:V}:ox λK=>K v s:=λ_ h=>⟨v,s,⟨rfl,rfl⟩,h⟩
theorem bm:ox λ_=>False:=λ_ h=>h.elim
theorem cY{X:(V->List Obj->Prop)->Prop} (h:ox X):ox λK=>c/\X K:=λK hk =>
 let ⟨v,s,h1,h2⟩:=h K hk.2
 ⟨v,s,⟨hk.1,h1⟩,h2⟩
theorem fL {X:(V->Prop)->Prop} (h:jz X):ox λK=>X λv=>K v s:=by intro K hk;obtain⟨v,h1,h2⟩:=h _ hk;refine⟨v,s,?_,h2⟩;simpa using h1
theorem HR {P t s p}:jz (jM P t s p):=by
 unfold jM;cases cL P t with
 |none=>exact aR
 |some i =>
  simp only;cases p with
  |d x =>
   cases x with
   |el cs=>exact sM
   |_=>exact aR
  |rf id g k off =>
   simp only;cases s[id]? with
   |none=>exact aR
   |some o =>
    simp only;cases o.aI[k]? with
    |none=>exact b8 aR
    |some cs=>exact b8 sM
  |pp id g k off b a =>
   simp only;cases s[id]? with
   |none=>exact aR
   |some o =>
    simp only;cases o.aI[k]? with
    |none=>exact b8 aR
    |some cs=>exact b8 sM
  |bx v=>exact sM
  |_=>exact aR
theorem yg {P t s p f}:jz (eK P t s p f):=by
 unfold eK;cases bc P t f with
 |none=>exact aR
 |some i =>
  simp only;split
  ·exact bA
  ·exact kZ λ_=>bA
  ·exact kZ λ_=>bA
  ·exact bA
  ·exact aR
theorem KX {aI i z}:jz (SG aI i z):=by
 unfold SG;cases aI[i]? with
 |none=>exact aR
 |some cs=>exact b8 bA
theorem yk {P t s x i}:jz (dK P t s x i):=by
 unfold dK;split
 ·split
  ·split
   ·exact b8 (b8 KX)
   ·exact b8 (b8 KX)
   ·exact kZ λ_=>b8 (b8 (b8 bA))
   ·exact aR
  ·split
   ·split
    ·exact b8 (b8 bA)
    ·exact kZ λ_=>b8 (b8 bA)
    ·exact aR
   ·exact aR
 ·exact aR
theorem z8 {P t cs off}:jz (rI P t cs off):=by
 unfold rI;cases cL P t with
 |none=>exact aR
 |some i =>
  simp only;cases i.agg with
  |true=>exact b8 bA
  |false =>
   simp only;cases cs[off]? with
   |none=>exact aR
   |some v=>exact bA
theorem F1 {P t x f}:jz (lq P t x f):=by
 unfold lq;split
 ·split
  ·split
   ·exact z8
   ·exact aR
  ·exact aR
 ·exact aR
theorem Ey {P t x i}:jz (jt P t x i):=by
 unfold jt;split
 ·split
  ·split
   ·split
    ·exact b8 (b8 z8)
    ·exact aR
   ·exact aR
  ·exact aR
 ·exact aR
theorem FD {P t parts}:jz (nQ P t parts):=by
 unfold nQ;split
 ·exact aR
 ·split
  ·split
   ·exact bA
   ·exact aR
  ·split
   ·split
    ·exact bA
    ·exact aR
   ·exact aR
theorem E8 {P t s}:ox (nS P t s):=by
 unfold nS;split
 ·exact bm
 ·exact di
theorem Mn {s x}:ox (xr s x):=by
 unfold xr;split
 ·exact bm
 ·exact di
theorem wX {P t len parts s}:ox (ff P t len parts s):=by
 unfold ff;split
 ·exact bm
 ·refine cY ?_;split
  ·exact bm
  ·split
   ·exact di
   ·exact di
theorem yn {P t l c s}:ox (fK P t l c s):=by
 unfold fK;split
 ·exact bm
 ·split
  ·exact cY di
  ·exact bm
theorem DB {P t a x s}:ox (dH P t a x s):=by
 unfold dH;split
 ·exact bm
 ·split
  ·exact bm
  ·refine cY ?_;split
   ·split
    ·exact cY di
    ·exact cY di
   ·exact Ap λ_=>cY di
   ·exact bm
theorem A3 {P t x lo hi mx}:jz (kO P t x lo hi mx):=by
 unfold kO;split
 ·exact aR
 ·split
  ·exact b8 bA
  ·exact aR
theorem Gr {P t x lo hi mx s}:jz (kj P t x lo hi mx s):=by
 unfold kj;split
 ·exact A3
 ·split
  ·exact aR
  ·split
   ·refine b8 ?_;split
    ·exact b8 bA
    ·exact b8 bA
    ·exact b8 (b8 (b8 bA))
    ·refine kZ λ_=>b8 ?_;split
     ·exact bA
     ·exact bA
    ·exact aR
   ·exact aR
theorem LH {P t x s}:jz (jO P t x s):=by
 unfold jO;split
 ·split
  ·exact bA
  ·exact bA
  ·exact kZ λ_=>bA
  ·exact aR
 ·split
  ·exact bA
  ·exact aR
 ·exact aR
theorem Lu {op k a b}:jz (eQ op k a b):=by unfold eQ;split <;> first|exact bA|exact b8 bA|exact aR|(split <;> first|exact bA|exact b8 bA|exact aR)
theorem Gn {P op t xs ys}:jz (iN P op t xs ys):=by
 unfold iN;split
 ·refine b8 ?_;split <;> first|exact bA|exact aR
 ·refine b8 ?_;split <;> first|exact bA|exact aR
 ·exact aR
theorem IY {P op t s x y}:jz (dy P op t s x y):=by unfold dy;split <;> first|exact Gn|exact b8 Lu|exact aR|(refine b8 ?_;split <;> first|exact bA|exact aR)|(refine b8 (b8 ?_);split <;> first|exact bA|exact aR)|(split <;> first|exact bA|exact aR)
theorem L1 {P op t s x y}:jz (nG P op t s x y):=by
 unfold nG;split
 ·unfold qj;split
  ·exact b8 bA
  ·exact aR
 ·exact IY
theorem Ht {P op t x}:jz (gM P op t x):=by unfold gM;refine b8 (b8 ?_);split <;> first|exact bA|exact aR
theorem Np {op x}:jz (xW op x):=by unfold xW;split <;> first|exact bA|exact aR
theorem HU {P a b x}:jz (ou P a b x):=by
 unfold ou;split
 ·split <;> first|exact bA|exact aR
 ·exact aR
theorem qe {mn}:∀(ys:List V) (acc:V),jz (eX mn acc ys)
 |[],acc=>bA
 |y::ys,acc=>by
  intro K h;unfold eX at h;split at h
  ·obtain⟨v,h1,h2⟩:=qe ys _ K h;exact⟨v,by unfold eX;exact h1,h2⟩
  ·exact h.elim
theorem LQ {s x}:jz (iO s x):=by
 unfold iO;split
 ·exact bA
 ·exact kZ λ_=>bA
 ·exact kZ λ_=>bA
 ·exact bA
 ·exact bA
 ·exact aR
theorem LX {x i}:jz (vL x i):=by
 unfold vL;split
 ·split
  ·exact bA
  ·exact aR
 ·exact aR
theorem G0 {x a b s}:ox λK=>fU x (K a s) (K b s):=by
 unfold fU;split
 ·rename_i b';cases b' with
  |true=>intro K h;exact⟨a,s,by simp,h.1 rfl⟩
  |false=>intro K h;exact⟨b,s,by simp,h.2 rfl⟩
 ·exact bm
theorem Fv {P t s p x}:ox λK=>gN P t s p x λs'=>K .un s':=by
 unfold gN;split
 ·exact bm
 ·split
  ·split
   ·exact bm
   ·refine cY (cY ?_);split
    ·exact bm
    ·split
     ·exact bm
     ·exact cY (cY di)
  ·split
   ·exact bm
   ·refine cY (cY ?_);split
    ·exact bm
    ·split
     ·exact bm
     ·exact cY (cY di)
  ·exact bm
theorem IV {P t a x s}:ox (rD P t a x s):=by
 unfold rD;split
 ·exact bm
 ·split
  ·exact bm
  ·refine cY ?_;split
   ·unfold sh;split
    ·exact bm
    ·exact cY (cY di)
   ·exact bm
theorem GF {P t x s}:ox (kX P t x s):=by
 unfold kX;split
 ·exact bm
 ·split
  ·unfold sh;split
   ·exact bm
   ·exact cY (cY di)
  ·exact di
  ·exact bm
theorem G9 {P t s m k}:jz (nM P t s m k):=by
 unfold nM;split
 ·exact aR
 ·split
  ·split
   ·refine kZ λ_=>b8 ?_;split
    ·exact aR
    ·exact bA
   ·exact aR
  ·exact aR
theorem Iv {P t s m k x}:ox λK=>yX P t s m k x λs'=>K .un s':=by
 unfold yX;split
 ·exact bm
 ·split
  ·split
   ·split
    ·refine Ap λ_=>cY ?_;split
     ·exact bm
     ·exact cY di
    ·exact bm
   ·exact bm
  ·exact bm
theorem Dl {P t s m k}:jz (il P t s m k):=by
 unfold il;split
 ·exact G9
 ·split
  ·split
   ·refine kZ λ_=>b8 ?_;split
    ·exact aR
    ·exact bA
   ·exact aR
  ·exact aR
theorem Bz {P t s m k x}:ox λK=>tt P t s m k x λs'=>K .un s':=by
 unfold tt;split
 ·exact Iv
 ·split
  ·split
   ·split
    ·refine Ap λ_=>cY ?_;split
     ·exact bm
     ·exact cY di
    ·exact bm
   ·exact bm
  ·exact bm
theorem AX {P t r s}:ox (my P t r s):=cY di
def I6 (o:Oper):Bool :=
 match o.op with
 |.call c=>match c.callee with
  |.value _=>true
  |_=>false
 |_=>false
theorem Js {P o e s} (hc:I6 o=false):ox (cP P o e s):=by
 obtain⟨dst,op,ty,pos,after,guard⟩:=o;unfold cP;cases op <;> simp only
 case move=>exact di
 case assign=>exact di
 case pick=>exact G0
 case alloc=>exact E8
 case box=>exact Mn
 case build=>exact fL FD
 case buildSlice=>exact wX
 case load=>exact fL HR
 case store=>exact Fv
 case nilCheck=>exact fL LQ
 case binOp op t x y t' =>
  cases Pz y with
  |true=>exact fL Ht
  |false=>exact fL L1
 case unOp=>exact fL Np
 case convert=>exact fL HU
 case makeFunc=>exact di
 case makeSlice=>exact yn
 case slice=>exact fL Gr
 case fieldAddr=>exact fL yg
 case field=>exact fL F1
 case indexAddr=>exact fL yk
 case index=>exact fL Ey
 case extract=>exact fL LX
 case makeMap=>exact AX
 case lookup t x i ok =>
  cases ok with
  |true=>exact bm
  |false=>exact fL Dl
 case mapUpdate=>exact Bz
 case insert=>exact Bz
 case call c =>
  unfold gR;simp only[I6]at hc;split
  ·rename_i h;rw[h]at hc;cases hc
  ·rename_i h;rw[h]at hc;cases hc
  ·split
   ·exact fL LH
   ·exact cY DB
   ·exact cY IV
   ·exact GF
   ·exact fL (qe _ _)
   ·exact fL (qe _ _)
   ·exact bm
  ·exact bm
 all_goals exact bm
def fz:V->List Nat
 |.rf id _ _ _=>[id]
 |.pp id _ _ _ _ _=>[id]
 |.so id _ _ _=>[id]
 |.mp id _=>[id]
 |_=>[]
def pQ (e:Env) (o:Oper):List Nat :=
 match o.op with
 |.move _|.assign _|.pick ..|.build ..|.buildSlice ..|.makeFunc ..=>[]
 |.load _ a=>fz (vt (e 0) (ev e a))
 |_=>o.op.operands.toList.flatMap λx=>fz (ev e x)
def Mz (o:Oper):Bool :=
 match o.op with
 |.move _|.assign _|.pick ..|.build ..|.buildSlice ..|.load ..|.nilCheck _|.binOp ..|.unOp ..|.convert ..|.makeFunc ..|.slice ..|.fieldAddr ..|.field ..|.indexAddr ..|.index ..|.extract ..|.lookup ..=>true
 |.call c=>match c.callee with
  |.builtin .len=>true
  |.builtin .min=>true
  |.builtin .max=>true
  |.builtin .append=>true
  |_=>false
 |_=>false
section
variable {P:Program}{s s':List Obj}
variable{id:Nat}{t:TypeId}{p:V}{x:V}{op:BinOp}
theorem fI {g:Nat} (h:s'[id]?=s[id]?) (K:Obj->Prop):sh s id g K=sh s' id g K:=by unfold sh;rw[h]
theorem Dt (h:∀id∈fz p,s'[id]?=s[id]?) (K:V->Prop):jM P t s p K=jM P t s' p K:=by
 unfold jM;cases cL P t with
 |none=>rfl
 |some i =>
  cases p with
  |rf id g k off=>simp only[h id (by simp [fz])]
  |pp id g k off b a=>simp only[h id (by simp [fz])]
  |d x=>cases x <;> rfl
  |_=>rfl
theorem vv{f:Nat} (h:∀id∈fz p,s'[id]?=s[id]?) (K:V->Prop):eK P t s p f K=eK P t s' p f K:=by
 unfold eK;cases bc P t f with
 |none=>rfl
 |some d =>
  cases p with
  |rf id g k off=>simp only[fI (h id (by simp [fz]))]
  |pp id g k off b a=>simp only[fI (h id (by simp [fz]))]
  |d x=>simp only;split <;> first|rfl|(rename_i he;cases he)
  |_=>rfl
theorem uJ{i:V} (h:∀id∈fz p,s'[id]?=s[id]?) (K:V->Prop):dK P t s p i K=dK P t s' p i K:=by
 unfold dK;split
 ·split
  ·cases p with
   |so id g lo n=>simp only[fI (h id (by simp [fz]))]
   |d x=>cases x <;> rfl
   |_=>rfl
  ·split
   ·cases p with
    |rf id g k off=>simp only[fI (h id (by simp [fz]))]
    |d x=>cases x <;> rfl
    |_=>rfl
   ·rfl
 ·rfl
theorem EY (h:∀id∈fz p,s'[id]?=s[id]?) (K:V->Prop):jO P t p s K=jO P t p s' K:=by
 unfold jO;split
 ·cases p with
  |so id g lo n=>simp only[fI (h id (by simp [fz]))]
  |d x=>cases x <;> rfl
  |_=>rfl
 ·rfl
 ·rfl
theorem Bt{k:V} (h:∀id∈fz p,s'[id]?=s[id]?) (K:V->Prop):nM P t s p k K=nM P t s' p k K:=by
 unfold nM;cases zO P t with
 |none=>rfl
 |some ik =>
  cases p with
  |mp id g=>simp only[fI (h id (by simp [fz]))]
  |_=>rfl
theorem Ad{k:V} (h:∀id∈fz p,s'[id]?=s[id]?) (K:V->Prop):il P t s p k K=il P t s' p k K:=by
 unfold il;cases E7 P t with
 |none=>exact Bt h K
 |some ik =>
  cases p with
  |mp id g=>simp only[fI (h id (by simp [fz]))]
  |_=>rfl
theorem Eo (h:∀id∈fz p,s'[id]?=s[id]?) (K:V->Prop):iO s p K=iO s' p K:=by
 cases p with
 |rf id g k off=>simp only[iO,fI (h id (by simp [fz]))]
 |pp id g k off b a=>simp only[iO,fI (h id (by simp [fz]))]
 |d x=>unfold iO;split <;> first|rfl|(rename_i he;cases he)
 |cl f a b=>cases f <;> rfl
 |_=>rfl
theorem zu (h:∀id∈fz p,s'[id]?=s[id]?):iX s p=iX s' p:=by
 unfold iX;cases p with
 |so id g lo n=>simp only[h id (by simp [fz])]
 |d x=>cases x <;> rfl
 |_=>rfl
theorem Bj{lo hi mx:Option V} (h:∀id∈fz p,s'[id]?=s[id]?) (K:V->Prop):kj P t p lo hi mx s K=kj P t p lo hi mx s' K:=by
 unfold kj;rw[zu h];split
 ·rfl
 ·split
  ·rfl
  ·split
   ·congr 1;cases mx with
    |none =>
     cases p with
     |so id g lo n=>simp only[fI (h id (by simp [fz]))]
     |d x=>cases x <;> rfl
     |_=>rfl
    |some m =>
     cases p with
     |d x=>cases x <;> rfl
     |_=>rfl
   ·rfl
theorem xK (h:∀id∈fz p,s'[id]?=s[id]?):nO s p=nO s' p:=by
 unfold nO;cases p with
 |rf id g k off=>simp only[fI (h id (by simp [fz]))]
 |pp id g k off b a=>simp only[fI (h id (by simp [fz]))]
 |d x=>cases x <;> rfl
 |_=>rfl
theorem DD{y:V} (h:∀id∈fz x,s'[id]?=s[id]?) (h':∀id∈fz y,s'[id]?=s[id]?) (K:V->Prop):dy P op t s x y K=dy P op t s' x y K:=by unfold dy;split <;> simp only[xK h,xK h']
theorem ES{y:V} (h:∀id∈fz x,s'[id]?=s[id]?) (h':∀id∈fz y,s'[id]?=s[id]?) (K:V->Prop):nG P op t s x y K=nG P op t s' x y K:=by
 unfold nG;split
 ·rfl
 ·exact DD h h' K
theorem TW {s:List Obj}{o n:Obj} (ho:s[id]?=some o) (hn:n.g≠o.g):s.set id n≠s:=by intro h;have h1:=List.getElem?_set_self (a:=n) (List.getElem?_eq_some_iff.1 ho).1;rw[h,ho]at h1;cases h1;exact hn rfl
theorem Gq{a v:V} (h:∀id∈fz a,s'[id]?=s[id]?) (h':∀id∈fz x,s'[id]?=s[id]?) (hw:dH P t a x s λv' s1=>v'=v/\s1=s):dH P t a x s' λv' s1=>v'=v/\s1=s':=by
 unfold dH at hw ⊢;rw[zu h']at hw;split at hw
 ·exact hw.elim
 rename_i i hi;split at hw
 ·exact hw.elim
 rename_i ns xA;refine⟨hw.1,?_⟩;have hw:=hw.2;split at hw
 ·split at hw
  ·exact⟨hw.1,hw.2.1,rfl⟩
  ·exact absurd (congrArg List.length hw.2.2) (by simp)
 ·exfalso;obtain⟨o,ho,hg,⟨_,_,hs⟩⟩:=ep hw;exact TW ho (by simp only;omega) hs
 ·exact hw.elim
theorem Gs {o:Oper}{e:Env}{v:V} (hr:Mz o=true) (h:∀id∈pQ e o,s'[id]?=s[id]?) (hw:cP P o e s λv' s1=>v'=v/\s1=s):cP P o e s' λv' s1=>v'=v/\s1=s':=by
 obtain⟨dst,op,ty,pos,after,guard⟩:=o;have rd:(pQ e ⟨dst,op,ty,pos,after,guard⟩=op.operands.toList.flatMap λx=>fz (ev e x))->∀x∈op.operands.toList,∀id∈fz (ev e x),s'[id]?=s[id]?:=λhe x hx id dB=>h id (by rw[he];exact List.mem_flatMap.2 ⟨x,hx,dB⟩);unfold cP at hw ⊢;cases op <;> simp only[Mz,adq]at hr <;> simp only at hw ⊢
 case move=>exact hw
 case assign=>exact hw
 case pick=>simpa using hw
 case build=>exact hw
 case buildSlice =>
  unfold ff at hw ⊢;split at hw
  ·exact hw.elim
  ·refine⟨hw.1,?_⟩;have hw:=hw.2;split at hw
   ·exact hw.elim
   ·split at hw
    ·exact⟨hw.1,rfl⟩
    ·exact absurd (congrArg List.length hw.2) (by simp)
 case load t a=>rw[Dt (λid dB=>h id (by simpa [pQ]using dB))]at hw;exact hw
 case nilCheck a=>rw[Eo (rd rfl a (by simp [Op.operands]))]at hw;exact hw
 case binOp op t x y t' =>
  cases hn:Pz y with
  |true=>rw[hn]at hw;simpa using hw
  |false=>rw[hn]at hw;simp only[cond_false]at hw ⊢;rw[ES (rd rfl x (by simp [Op.operands])) (rd rfl y (by simp [Op.operands]))]at hw;exact hw
 case unOp=>exact hw
 case convert=>exact hw
 case makeFunc=>exact hw
 case slice t x lo hi mx=>rw[Bj (rd rfl x (by simp [Op.operands]))]at hw;exact hw
 case fieldAddr t x f=>rw[vv (rd rfl x (by simp [Op.operands]))]at hw;exact hw
 case field=>exact hw
 case indexAddr t x i=>rw[uJ (rd rfl x (by simp [Op.operands]))]at hw;exact hw
 case index=>exact hw
 case extract=>exact hw
 case lookup t x i ok =>
  cases ok with
  |true=>exact hw.elim
  |false=>simp only[cond_false]at hw ⊢;rw[Ad (rd rfl x (by simp [Op.operands]))]at hw;exact hw
 case call c =>
  obtain⟨callee,args,argTypes⟩:=c;cases callee with
  |value f=>cases hr
  |invoke r m=>cases hr
  |builtin b =>
   unfold gR at hw ⊢;simp only at hw ⊢ hr;split at hw
   ·rename_i x t ha ht;rw[EY (rd rfl x (by simp [Op.operands,Call.operands,ha]))]at hw;exact hw
   ·rename_i a x t t' ha ht;exact⟨hw.1,Gq (rd rfl a (by simp [Op.operands,Call.operands,ha])) (rd rfl x (by simp [Op.operands,Call.operands,ha])) hw.2⟩
   ·first|(cases hr;done)|(simp at hr;done)
   ·first|(cases hr;done)|(simp at hr;done)
   ·exact hw
   ·exact hw
   ·exact hw.elim
end
variable{o:Oper}{id:Nat}{kt:Nat}{s:List Obj}{w:World}{σ:Gh}{f:FuncId}{P:Program}{args:List V}{x:Operand}{u:Value}{s':List Obj}{e:Env}{b:Bool}{full:List Oper}{v:V}{s1:List Obj}{bars:List Nat}{i:Nat}{fs:cV}{rest:List Oper}{d:Option Nat}{N:Nat}{r:V}{e':Env}{p:Prop}{want:Bool}{pos:String}{af:Array Edge}{ty:TypeId}{g:FuncId}{c:Operand}{parts:Array (Nat×Operand)}{i':Operand}{ah:List D}{first:List D}{e0:V}{fn:Fn}{l:List D}
def bT (s:List Obj) (id:Nat):List Obj :=
 match s[id]? with
 |some o=>s.set id { o with live:=false }
 |none=>s
def bg (s:List Obj):List Nat->List Obj
 |[]=>s
 |id::ids=>bg (bT s id) ids
theorem oQ{o:Obj} (h:(bT s id)[kt]?=some o):∃o',s[kt]?=some o'/\o.g=o'.g/\o.sz=o'.sz/\o.aI=o'.aI/\(o.live=true->o'.live=true):=by
 unfold bT at h;split at h
 ·rename_i o0 Xf;rw[List.getElem?_set]at h;split at h
  ·rename_i he;subst he;split at h
   ·simp only[adp]at h;subst h;exact⟨o0,Xf,rfl,rfl,rfl,λh=>by cases h⟩
   ·cases h
  ·exact⟨o,h,rfl,rfl,rfl,λh=>h⟩
 ·exact⟨o,h,rfl,rfl,rfl,λh=>h⟩
theorem O9{o:Obj} (h:s[kt]?=some o):∃o',(bT s id)[kt]?=some o'/\o'.g=o.g/\o'.sz=o.sz:=by
 unfold bT;split
 ·rename_i o0 Xf;rw[List.getElem?_set];split
  ·rename_i he;subst he;rw[Xf]at h;cases h;rw[ap (List.getElem?_eq_some_iff.1 Xf).1];exact⟨_,rfl,rfl,rfl⟩
  ·exact⟨o,h,rfl,rfl⟩
 ·exact⟨o,h,rfl,rfl⟩
theorem PI (hI:Inv σ s w) (id:Nat):aW σ s w σ (bT s id) w/\Inv σ (bT s id) w:=by
 have own:∀b,Own σ (bT s id) b->Own σ s b:=by
  rintro b (h|⟨kt,o,base,h1,h2,h3⟩)
  ·exact .inl h
  ·obtain⟨o',k1,_,_,_,k5⟩:=oQ h1;exact .inr ⟨kt,o',base,k1,k5 h2,h3⟩
 have hE:aW σ s w σ (bT s id) w:=⟨rfl,rfl,rfl,adB _,λ_ _ _=>rfl,λ_ arr _ _ h=>⟨arr,h,rfl⟩,λ_ _ h=>h,λb h=>.inl (own b h),
  λkt o ho=>let ⟨o',k1,k2,k3⟩:=O9 (id:=id) ho;⟨o',k1,by omega,λ_=>⟨k3,rfl⟩⟩,rfl,λ_ _ _=>rfl⟩
 refine⟨hE,⟨λkt o ho=>?_,λi i' o o' b base cr h1 h2 h3 h4 h5=>?_,hI.low,λi o b base h1 h2=>?_⟩⟩
 ·obtain⟨o',k1,_,k3,k4,_⟩:=oQ ho;rw[k4,k3];rcases hI.content kt o' k1 with h|⟨b,base,arr,E,h1,h2,h3,h4,h5⟩
  ·exact .inl (h.congr k4)
  ·exact .inr ⟨b,base,arr,E,h1,h2,h3,h4,λi j x hx=>let ⟨u,g1,g2,g3⟩:=h5 i j x hx;⟨u,g1,g2,g3.bF hE⟩⟩
 ·obtain⟨p,k1,_,_,_,k5⟩:=oQ h1;obtain⟨p',l1,_⟩:=oQ h2;exact hI.inj i i' p p' b base cr k1 l1 (k5 h3) h4 h5
 ·obtain⟨p,k1,_⟩:=oQ h1;exact hI.apart i p b base k1 h2
theorem qJ {σ:Gh}{w:World}:∀(ids:List Nat) (s:List Obj),Inv σ s w->aW σ s w σ (bg s ids) w/\Inv σ (bg s ids) w
 |[],s,hI=>⟨aW.refl _ _ _,hI⟩
 |id::ids,s,hI=>by obtain⟨h1,h2⟩:=PI hI id;obtain⟨k1,k2⟩:=qJ ids (bT s id) h2;exact⟨h1.trans k1,k2⟩
theorem aY{cargs:List V}{K:V->List Obj->Prop} (ids:List Nat) (hc:bf.go (bg s ids).length (bg s ids) args=some cargs) (h:au P f cargs (bg s ids) K):au P f args s K:=by
 refine⟨h.1,λσ w vals hI hl hv=>?_⟩;obtain⟨hE,gS⟩:=qJ ids s hI;obtain⟨k1,k2⟩:=pX hc;refine(h.2 σ w vals gS (by omega) λi x hx=>?_).mono λe w' ⟨u,v,σ',s',h1,h2,h3,h4,h5⟩=>⟨u,v,σ',s',h1,hE.trans h2,h3,h4,h5⟩
 obtain⟨y,hy,hf⟩:=k2 i x hx;have:=iM gS ((hv i y hy).bF hE) hf;rwa [adZ]at this
def w6 (ck:Nat) (s:List Obj) (x:V):V:=(bf ck s x).getD .any
theorem Hl (hI:Inv σ s w) {ck:Nat}{x:V} (hr:aG σ s w x u):aG σ (s.take ck) w (w6 ck s x) u:=by
 unfold w6;cases h:bf ck s x with
 |none=>exact .any
 |some y=>exact iM hI hr h
theorem lx {ck:Nat}:∀{l:List V},(∀(i:Nat) (x:V),l[i]?=some x->ak ck x=true)->ak.go ck l=true
 |[],_=>rfl
 |v::vs,h=>by simp only[ak.go,adD];exact⟨h 0 v rfl,lx λi x hx=>h (i+1) x (by simpa using hx)⟩
theorem fH{o:Obj} (h:s[id]?=some o):id<s.length:=(List.getElem?_eq_some_iff.1 h).1
theorem aG.SS{x:V} (h:aG σ s w x u):ak s.length x=true:=by
 induction h with
 |d hx=>rfl
 |ag h1 h2 _ ih=>exact lx ih
 |tu h1 _ ih=>exact lx ih
 |fu hx=>rfl
 |so o ho hg hu hk=>exact adu (fH ho)
 |rf o ho hg hu hk=>exact adu (fH ho)
 |pp o ho hg hk=>exact adu (fH ho)
 |mp o ho hg hu hk=>exact adu (fH ho)
 |bx h1 h2 h3 hu _ ih=>exact ih
 |cl h1 _ h3 _ uI ie =>
  simp only[ak,adD];exact⟨lx uI,lx ie⟩
 |un=>rfl
 |any=>rfl
theorem aG.Tb {σ':Gh}{n:Nat} (ix:∀b,Own σ' s' b->Own σ s b)
  (hobj:∀id o,id<n->s[id]?=some o->∃o',s'[id]?=some o'/\o.g<=o'.g/\(o'.g=o.g->o'.sz=o.sz/\σ' id=σ id)) {x:V} (hr:aG σ s w x u) (h:ak n x=true):aG σ' s' w x u:=by
 induction hr with
 |d hx=>exact .d (hx.own ix)
 |ag h1 h2 _ ih=>exact .ag h1 h2 λi x hx=>ih i x hx (dz (by simpa only[ak]using h) i x hx)
 |tu h1 _ ih=>exact .tu h1 λi x hx=>ih i x hx (dz (by simpa only[ak]using h) i x hx)
 |fu hx=>exact .fu (hx.own ix)
 |so o ho hg hu hk =>
  simp only[ak,adC]at h;obtain⟨o',h1,h2,h3⟩:=hobj _ o h ho;refine .so o' h1 (Nat.le_trans hg h2) hu λhe=>?_;have e:o'.g=o.g:=by omega
  have:=hk (by omega);unfold Bs at this ⊢;rw[(h3 e).1,(h3 e).2];exact this
 |rf o ho hg hu hk =>
  simp only[ak,adC]at h;obtain⟨o',h1,h2,h3⟩:=hobj _ o h ho;refine .rf o' h1 (Nat.le_trans hg h2) hu λhe=>?_;have e:o'.g=o.g:=by omega
  rw[(h3 e).1,(h3 e).2];exact hk (by omega)
 |pp o ho hg hk =>
  simp only[ak,adC]at h;obtain⟨o',h1,h2,h3⟩:=hobj _ o h ho;refine .pp o' h1 (Nat.le_trans hg h2) λhe=>?_;have e:o'.g=o.g:=by omega
  rw[(h3 e).1,(h3 e).2];exact hk (by omega)
 |mp o ho hg hu hk =>
  simp only[ak,adC]at h;obtain⟨o',h1,h2,h3⟩:=hobj _ o h ho;refine .mp o' h1 (Nat.le_trans hg h2) hu λhe=>?_;have e:o'.g=o.g:=by omega
  rw[(h3 e).2];exact hk (by omega)
 |bx h1 h2 h3 hu _ ih=>exact .bx h1 h2 (λh'=>h3 (ix _ h')) hu (ih (by simpa only[ak]using h))
 |cl h1 _ h3 _ uI ie =>
  simp only[ak,adD]at h;exact .cl h1 (λi x hx=>uI i x hx (dz h.1 i x hx)) h3 (λi x hx=>ie i x hx (dz h.2 i x hx))
 |un=>exact .un
 |any=>exact .any
def xG (σ:Gh) (h n:Nat):Gh:=⟨λk=>if k=h then σ n else if n<=k then none else σ k,σ.base⟩
theorem wg {σ0 σ1:Gh}{w0 w1:World}{o ob:Obj}{h:Nat} (Um:Inv σ0 s w0) (hE:aW σ0 s w0 σ1 (s++[o]) w1) (hI:Inv σ1 (s++[o]) w1) (hh:s[h]?=some ob) (Xe:o.live=true)
  (hd:∀(i j:Nat) (x:V),(o.aI[i]?.bind (·[j]?))=some x->ak 0 x=true) :
  aW σ0 s w0 (xG σ1 h s.length) (s.set h ⟨ob.g+1,true,o.sz,o.aI⟩) w1/\Inv (xG σ1 h s.length) (s.set h ⟨ob.g+1,true,o.sz,o.aI⟩) w1 /\
   ∀lo n u,aG σ1 (s++[o]) w1 (.so s.length o.g lo n) u->aG (xG σ1 h s.length) (s.set h ⟨ob.g+1,true,o.sz,o.aI⟩) w1 (.so h (ob.g+1) lo n) u:=by
 have aH:=fH hh;have xu:(s.set h ⟨ob.g+1,true,o.sz,o.aI⟩)[h]?=some ⟨ob.g+1,true,o.sz,o.aI⟩:=by simp [aH]
 have lU:∀k,k≠h->(s.set h (⟨ob.g+1,true,o.sz,o.aI⟩:Obj))[k]?=s[k]?:=λk hk=>by rw[List.getElem?_set_ne (λe=>hk e.symm)]
 have s5:(s++[o])[s.length]?=some o:=by simp
 have hold:∀k ok,s[k]?=some ok->(s++[o])[k]?=some ok:=λk ok hk=>by rw[adM (fH hk)];exact hk
 have gh:xG σ1 h s.length h=σ1 s.length:=ap rfl;have go:∀k ok,k≠h->s[k]?=some ok->xG σ1 h s.length k=σ1 k:=λk ok hk hs=>by show (if k=h then _ else if s.length<=k then _ else _)=_;rw[am hk,am (by have:=fH hs;omega)]
 have ix:∀b,Own (xG σ1 h s.length) (s.set h ⟨ob.g+1,true,o.sz,o.aI⟩) b->Own σ1 (s++[o]) b:=by
  rintro b (hb|⟨k,ok,base,h1,h2,h3⟩)
  ·exact .inl hb
  ·by_cases hk:k=h
   ·subst hk;rw[gh]at h3;exact .inr ⟨s.length,o,base,s5,Xe,h3⟩
   ·rw[lU k hk]at h1;rw[go k ok hk h1]at h3;exact .inr ⟨k,ok,base,hold k ok h1,h2,h3⟩
 have hobj:∀id o1,id<s.length->(s++[o])[id]?=some o1->∃o',(s.set h ⟨ob.g+1,true,o.sz,o.aI⟩)[id]?=some o'/\o1.g<=o'.g/\(o'.g=o1.g->o'.sz=o1.sz/\xG σ1 h s.length id=σ1 id):=by
  intro id o1 dB h1;rw[adM dB]at h1;by_cases hk:id=h
  ·subst hk;rw[hh]at h1;cases h1;exact⟨_,xu,Nat.le_succ _,λhe=>by simp at he⟩
  ·exact⟨o1,by rw[lU id hk];exact h1,adB _,λ_=>⟨rfl,go id o1 hk h1⟩⟩
 have hE2:aW σ0 s w0 (xG σ1 h s.length) (s.set h ⟨ob.g+1,true,o.sz,o.aI⟩) w1:=by refine⟨hE.os,hE.tape,hE.output,hE.size,hE.bO,hE.shape,hE.rG,λb hb=>hE.own b (ix b hb),λid o1 h1=>?_,hE.base,hE.ga⟩;obtain⟨o2,k1,k2,k3⟩:=hE.aB id o1 h1;have dB:=fH h1;obtain⟨o3,j1,j2,j3⟩:=hobj id o2 dB k1;exact⟨o3,j1,Nat.le_trans k2 j2,λhe=>⟨(j3 (by omega)).1.trans (k3 (by omega)).1,(j3 (by omega)).2.trans (k3 (by omega)).2⟩⟩
 have hrefs:∀(id:Nat) (o1:Obj),s[id]?=some o1->∀(i j:Nat) (x:V),(o1.aI[i]?.bind (·[j]?))=some x->ak s.length x=true:=by
  intro id o1 h1 i j x hx;rcases Um.content id o1 h1 with (⟨_,he⟩|⟨b,es,c,_,_,he⟩)|⟨b,base,arr,E,_,_,_,_,h5⟩
  ·rw[he]at hx;simp at hx
  ·rw[he]at hx;unfold kI at hx;rw[adL]at hx;cases HI:es.toList[i]? with
   |none=>rw[HI]at hx;cases hx
   |some y =>
    rw[HI]at hx;simp only[ad9,Option.bind_some]at hx
    match j with
    |0=>simp at hx;subst hx;rfl
    |1=>simp at hx;subst hx;rfl
    |j+2=>simp at hx
  ·obtain⟨u,_,_,h6⟩:=h5 i j x hx;exact h6.SS
 refine⟨hE2,⟨?_,?_,hI.low,?_⟩,?_⟩
 ·intro id o1 h1;by_cases hk:id=h
  ·subst hk;rw[xu]at h1;cases h1;rw[gh];rcases hI.content _ _ s5 with hb|⟨b,base,arr,E,k1,k2,k3,k4,k5⟩
   ·exact .inl (hb.congr rfl)
   ·refine .inr ⟨b,base,arr,E,k1,k2,k3,k4,λi j x hx=>?_⟩;obtain⟨u,j1,j2,j3⟩:=k5 i j x hx;exact⟨u,j1,j2,j3.move (hd i j x hx) ix⟩
  ·rw[lU id hk]at h1;rw[go id o1 hk h1];rcases hI.content _ _ (hold id o1 h1) with hb|⟨b,base,arr,E,k1,k2,k3,k4,k5⟩
   ·exact .inl hb
   ·refine .inr ⟨b,base,arr,E,k1,k2,k3,k4,λi j x hx=>?_⟩;obtain⟨u,j1,j2,j3⟩:=k5 i j x hx;exact⟨u,j1,j2,aG.Tb ix hobj j3 (hrefs id o1 h1 i j x hx)⟩
 ·intro k k' o1 o2 b base cr h1 h2 h3 h4 h5;by_cases hk:k=h <;> by_cases uB:k'=h
  ·rw[hk,uB]
  ·subst hk;rw[gh]at h4;rw[lU k' uB]at h2;rw[go k' o2 uB h2]at h5;have:=hI.inj _ _ _ _ _ _ _ s5 (hold k' o2 h2) Xe h4 h5;have:=fH h2;omega
  ·subst uB;rw[gh]at h5;rw[lU k hk]at h1;rw[go k o1 hk h1]at h4;have:=hI.inj _ _ _ _ _ _ _ (hold k o1 h1) s5 h3 h4 h5;have:=fH h1;omega
  ·rw[lU k hk]at h1;rw[lU k' uB]at h2;rw[go k o1 hk h1]at h4;rw[go k' o2 uB h2]at h5;exact hI.inj _ _ _ _ _ _ _ (hold k o1 h1) (hold k' o2 h2) h3 h4 h5
 ·intro k o1 b base h1 h2;by_cases hk:k=h
  ·subst hk;rw[gh]at h2;exact hI.apart _ _ _ _ s5 h2
  ·rw[lU k hk]at h1;rw[go k o1 hk h1]at h2;exact hI.apart _ _ _ _ (hold k o1 h1) h2
 ·intro lo n u hu;cases hu with|so o1 h1 h2 h3 h4=>?_
  rw[s5]at h1;cases h1;refine .so _ xu (adB _) h3 λ_=>?_;have:=h4 rfl;unfold Bs at this ⊢;rw[gh];exact this
def ku (o:Oper) (e:Env):Option (Option (FuncId×List V)) :=
 match o.op with
 |.call c=>match c.callee with
  |.value (.func f)=>some (some (f,c.args.toList.map (ev e)))
  |.value x=>match Br (e 0) (ev e x) with
   |.cl (.func g) first ah=>some (some (g,first++c.args.toList.map (ev e)++ah))
   |_=>some none
  |.invoke ..=>some none
  |.builtin _=>none
 |_=>none
theorem zf (h:ku o e=some (some (f,args))) (s:List Obj) (K:V->List Obj->Prop):cP P o e s K=au P f args s K:=by
 obtain⟨dst,op,ty,pos,after,guard⟩:=o;cases op <;> try (simp [ku]at h;done)
 rename_i c;obtain⟨callee,cargs,argTypes⟩:=c;cases callee with
 |value x =>
  cases x with
  |func g=>simp only[ku,adp,ad3]at h;obtain⟨rfl,rfl⟩:=h;rfl
  |tmp t =>
   simp only[ku]at h;split at h
   ·rename_i g first ah cZ
    simp only[adp,ad3]at h;obtain⟨rfl,rfl⟩:=h;simp only[cP,gR,cZ]
   ·cases h
  |const t =>
   simp only[ku]at h;split at h
   ·rename_i g first ah cZ
    simp only[adp,ad3]at h;obtain⟨rfl,rfl⟩:=h;simp only[cP,gR,cZ]
   ·cases h
  |global t =>
   simp only[ku]at h;split at h
   ·rename_i g first ah cZ
    simp only[adp,ad3]at h;obtain⟨rfl,rfl⟩:=h;simp only[cP,gR,cZ]
   ·cases h
 |invoke r m=>simp [ku]at h
 |builtin b=>simp [ku]at h
theorem tZ (h:ku o e=none):I6 o=false:=by
 obtain⟨dst,op,ty,pos,after,guard⟩:=o;cases op <;> try rfl
 rename_i c;obtain⟨callee,cargs,argTypes⟩:=c;cases callee with
 |value x =>
  cases x with
  |func g=>simp [ku]at h
  |tmp t=>simp only[ku]at h;split at h <;> cases h
  |const t=>simp only[ku]at h;split at h <;> cases h
  |global t=>simp only[ku]at h;split at h <;> cases h
 |invoke r m=>rfl
 |builtin b=>rfl
def R5 (P:Program) (f:FuncId) (args:List V) (s:List Obj) (K:V->List Obj->Prop):Prop:=∃v,(∀s',au P f args s' λv' HM=>v'=v/\HM=s')/\K v s
def SH (P:Program) (f:FuncId) (args:List V) (s:List Obj) (K:V->List Obj->Prop):Prop:=∃v s1,(au P f args s λv' HM=>v'=v/\HM=s1)/\K v s1
def JJ (P:Program) (rd wr:List Nat) (f:FuncId) (args:List V) (s:List Obj) (K:V->List Obj->Prop):Prop :=
 ∃v os,os.length=wr.length/\(∀s',s'.length=s.length->(∀id∈rd,s'[id]?=s[id]?)->au P f args s' λv' HM=>v'=v/\HM=aZ s' wr os)/\K v (aZ s wr os)
def DC:V->Bool
 |.d (.sl _)=>true
 |.fu _=>true
 |_=>false
theorem Iw {x:V} (h:DC x=true) (s s':List Obj):iX s' x=iX s x:=by
 unfold DC at h;split at h
 ·rfl
 ·rfl
 ·cases h
def WJ (P:Program) (t t':TypeId) (aI:List (List D)) (x:V) (ob:Obj) (h:Nat) (s:List Obj) (K:V->List Obj->Prop):Prop :=
 match x,lS P t with
 |.fu ns,some (_,i)=>(t=t'/\0<ns.length/\0<i.sz/\0<i.F2/\(aI.length+ns.length)*i.F2<=140737488355328/\(∀e∈aI,e.length=i.sz)/\∀e∈ns,e.length=i.sz) /\
   K (.so h (ob.g+1) 0 (aI.length+ns.length)) (s.set h ⟨ob.g+1,true,i.sz,(aI++ns).map (·.map .d)⟩)
 |_,_=>False
def QE (P:Program) (t:TypeId) (l c:V) (ob:Obj) (h:Nat) (s:List Obj) (K:V->List Obj->Prop):Prop :=
 match l,c,lS P t with
 |.d (.sc (.int _ n)),.d (.sc (.int _ m)),some (_,i)=>(0<=n/\n<=m/\i.F2*m<=140737488355328/\m<=9223372036854775807/\0<i.sz) /\
   K (.so h (ob.g+1) 0 n.toNat) (s.set h ⟨ob.g+1,true,i.sz,List.replicate n.toNat (i.zero.map cv)⟩)
 |_,_,_=>False
theorem RF (v:Value):ak 0 (cv v)=true:=by unfold cv;split <;> rfl
def NH (P:Program) (o:Oper) (e:Env) (s:List Obj) (h:Nat) (K:V->List Obj->Prop):Prop :=
 match s[h]? with
 |none=>False
 |some ob=>match o.op with
  |.alloc t=>ob.live=true/\match cL P t with
   |some i=>K (.rf h (ob.g+1) 0 0) (s.set h ⟨ob.g+1,true,i.sz,[i.zero.map cv]⟩)
   |none=>False
  |.box _ x=>ob.live=true/\match eI (ev e x) with
   |some cs=>K (.rf h (ob.g+1) 0 0) (s.set h ⟨ob.g+1,true,cs.length,[cs]⟩)
   |none=>False
  |.store t a x=>match ev e a with
   |.rf id _ _ _=>id=h/\gN P t s (ev e a) (ev e x) λs'=>K .un s'
   |.pp id _ _ _ _ _=>id=h/\gN P t s (ev e a) (ev e x) λs'=>K .un s'
   |_=>False
  |.makeSlice t l c=>QE P t (ev e l) (ev e c) ob h s K
  |.call c=>match c.callee,c.args.toList,c.argTypes.toList with
   |.builtin .append,[a,x],[t,t']=>match ev e a with
    |.so id _ _ _=>(id=h/\DC (ev e x)=true)/\t=t'/\dH P t (ev e a) (ev e x) s K
    |.fu aI=>WJ P t t' aI (ev e x) ob h s K
    |_=>False
   |_,_,_=>False
  |_=>False
theorem Ph (hI:Inv σ s w){o:Obj} (ho:s[id]?=some o) (qX:o.live=true) {sz:Nat}{aI:List (List V)}{arr:Array Value} (E:TypeId) (hl:∀e∈aI,e.length=sz) (hs:aI.length*sz<=arr.size)
  (hc:∀(i j:Nat) (x:V),(aI[i]?.bind (·[j]?))=some x->∃u,arr[i*sz+j]?=some u/\u.oneCell'=true/\aG σ s w x u) :
  aW σ s w (m7 σ id (some (w.heap.size,0))) (s.set id ⟨o.g+1,true,sz,aI⟩) (w.alloc (.cells arr E)) /\
  Inv (m7 σ id (some (w.heap.size,0))) (s.set id ⟨o.g+1,true,sz,aI⟩) (w.alloc (.cells arr E)):=by
 refine la (p:=some (w.heap.size,0)) hI ho qX rfl rfl rfl (by simp) (λb hb _=>Go.RowKit.Below.heap_alloc w _ b hb)
  (λb base cH E' ng hh=>⟨cH,by rw[Go.RowKit.Below.heap_alloc w _ b (fP hh)];exact hh,rfl⟩)
  (λb base ng hm=>let ⟨es,c,hh⟩:=hm;⟨es,c,by rw[Go.RowKit.Below.heap_alloc w _ b (fP hh)];exact hh⟩) (Nat.le_succ _) (λh=>by simp at h) (λb base h=>by cases h;exact .inr (adB _))
  (λhE=>.inr ⟨w.heap.size,0,arr,E,rfl,heap_alloc_new w _,hl,by simpa using hs,λi j x hx=>?_⟩)
 obtain⟨u,h1,h2,h3⟩:=hc i j x hx;exact⟨u,by simpa using h1,h2,h3.bF hE⟩
theorem Sx (dB:id<s.length) {o:Obj}{b base:Nat} (hC:HP w b):aG (m7 σ id (some (b,base))) (s.set id o) w (.rf id o.g 0 0) (.pointer (some ⟨b,base,none⟩)) :=
 .rf o (by simp [dB]) (adB _) rfl (λ_=>⟨b,base,cg _ _ _,hC,by simp⟩)
theorem Nl{h:Nat}{K:V->List Obj->Prop} (ha:NH P o e s h K) :
  ∃v o',K v (s.set h o')/\∀s',s'.length=s.length->s'[h]?=s[h]?->NQ P full o e s' v (s'.set h o'):=by
 obtain⟨dst,op,ty,pos,after,guard⟩:=o;unfold NH at ha;cases MT:s[h]? with
 |none=>rw[MT]at ha;exact ha.elim
 |some ob =>
  rw[MT]at ha;simp only at ha;cases op <;> simp only at ha <;> try exact ha.elim
  case alloc t =>
   obtain⟨hl,ha⟩:=ha;split at ha
   case h_2=>exact ha.elim
   rename_i i hi;refine⟨_,_,ha,λs' hlen ng σ w N a hI hR=>?_⟩;obtain⟨z,hz,hr,hs,Uu⟩:=xd hi σ s' w;have:=Ph hI ng hl (aI:=[i.zero.map cv]) (sz:=i.sz) (arr:=z.cells) t (by simp;rw[<- Uu];simpa using hs) (by simp [hs]) (rU hr i.sz);refine fB (u:=.pointer (some ⟨w.heap.size,0,none⟩)) (w':=w.alloc (.cells z.cells t)) ?_ this.1 this.2 (Sx (o:=⟨ob.g+1,true,i.sz,[i.zero.map cv]⟩) (List.getElem?_eq_some_iff.1 ng).1 ⟨_,_,heap_alloc_new w _⟩) ⟨rfl,rfl⟩;simp [execOp,Instr.alloc,hz,newVar,newRow]
  case box t x =>
   obtain⟨hl,ha⟩:=ha;split at ha
   case h_2=>exact ha.elim
   rename_i cs nn;refine⟨_,_,ha,λs' hlen ng σ w N a hI hR=>?_⟩;have hm:ev (oJ full ⟨dst,.box t x,ty,pos,after,guard⟩ e) x=ev e x:=by
    cases x with
    |tmp t'=>simp [ev,oJ,Oper.looksAt,Op.operands]
    |_=>rfl
   have hx:=hR.ev x;rw[hm]at hx;have hr:uK σ s' w cs (a.eval x).cells:=lK hx nn;have:=Ph hI ng hl (aI:=[cs]) (sz:=cs.length) (arr:=(a.eval x).cells) t (by simp) (by simp [hr.1]) (rU hr _);refine fB (u:=.pointer (some ⟨w.heap.size,0,none⟩)) (w':=w.alloc (.cells (a.eval x).cells t)) ?_ this.1 this.2 (Sx (o:=⟨ob.g+1,true,cs.length,[cs]⟩) (List.getElem?_eq_some_iff.1 ng).1 ⟨_,_,heap_alloc_new w _⟩) ⟨rfl,rfl⟩;simp [execOp,Instr.box,newVar,newRow]
  case store t x y =>
   split at ha
   case h_3=>exact ha.elim
   ·rename_i id g k off hx;obtain⟨rfl,ha⟩:=ha;unfold gN at ha;cases ht:cL P t with
    |none=>rw[ht]at ha;exact ha.elim
    |some i =>
     rw[ht]at ha;simp only[hx,MT]at ha;obtain⟨h1,h2,ha⟩:=ha;split at ha
     ·exact ha.elim
     ·rename_i cs nn;split at ha
      ·exact ha.elim
      ·rename_i ns xA;obtain⟨h3,h4,ha⟩:=ha;refine⟨_,_,ha,λs' hlen ng=>kb ?_⟩;unfold mT cP;simp only[gN,ht,hx,ng,MT,nn,xA];exact⟨h1,h2,h3,h4,trivial,trivial⟩
   ·rename_i id g k off b a' hx;obtain⟨rfl,ha⟩:=ha;unfold gN at ha;cases ht:cL P t with
    |none=>rw[ht]at ha;exact ha.elim
    |some i =>
     rw[ht]at ha;simp only[hx,MT]at ha;obtain⟨h1,h2,ha⟩:=ha;split at ha
     ·exact ha.elim
     ·rename_i cs nn;split at ha
      ·exact ha.elim
      ·rename_i ns xA;obtain⟨h3,h4,ha⟩:=ha;refine⟨_,_,ha,λs' hlen ng=>kb ?_⟩;unfold mT cP;simp only[gN,ht,hx,ng,MT,nn,xA];exact⟨h1,h2,h3,h4,trivial,trivial⟩
  case makeSlice t l c =>
   unfold QE at ha;split at ha
   case h_2=>exact ha.elim
   rename_i k1 n k2 m ee i hl hc aU;obtain⟨h1,ha⟩:=ha;refine⟨_,_,ha,λs' hlen ng σ w N a0 hI hR=>?_⟩;have Na:mT P ⟨dst,.makeSlice t l c,ty,pos,after,guard⟩ e s' (.so s'.length 0 0 n.toNat) (s'++[⟨0,true,i.sz,List.replicate n.toNat (i.zero.map cv)⟩]):=by unfold mT cP;simp only;unfold fK;rw[hl,hc,aU];exact⟨h1,rfl,rfl⟩
   refine Oper.wp_mono (λa' w' ⟨u,v,σ',s1,N0,oI,gS,jb,Zy,Yf⟩=>?_) (kb Na σ w N a0 hI hR);subst Zy Yf;obtain⟨m1,m2,m3⟩:=wg hI oI gS ng rfl (λi' j x' nK=>by
    cases hq:(List.replicate n.toNat (i.zero.map cv))[i']? with
    |none=>rw[hq]at nK;cases nK
    |some e' =>
     have he:=List.eq_of_mem_replicate (adw hq);subst he;rw[hq]at nK;simp only[Option.bind_some,adL]at nK;obtain⟨d,_,rfl⟩:=Option.map_eq_some_iff.1 nK;exact RF d)
   exact⟨u,_,_,_,N0,m1,m2,m3 _ _ _ jb,rfl,rfl⟩
  case call c =>
   split at ha
   case h_2=>exact ha.elim
   rename_i a x t t' Qy Rx Xg;split at ha
   case h_3=>exact ha.elim
   case h_2 =>
    rename_i aI hx;obtain⟨callee,args,L0⟩:=c;simp only at Qy Rx Xg;subst Qy;unfold WJ at ha;split at ha
    case h_2=>exact ha.elim
    rename_i ns ee i hy aU;obtain⟨⟨rfl,h1,h2,h3,h4,h5,h6⟩,ha⟩:=ha;refine⟨_,_,ha,λs' hlen ng σ w N a0 hI hR=>?_⟩;have aH:h<s'.length:=fH ng;have Na:mT P ⟨dst,.call ⟨.builtin .append,args,L0⟩,ty,pos,after,guard⟩ e s' (.so s'.length 0 0 (aI.length+ns.length)) (s'++[⟨0,true,i.sz,(aI++ns).map (·.map .d)⟩]):=by
     unfold mT cP gR;simp only[Rx,Xg];unfold dH;rw[hx,hy,aU];have G5:iX s' (.fu ns)=some (ns.map (·.map .d)):=rfl;rw[G5];refine⟨trivial,⟨λe he=>?_,h2,h3⟩,?_⟩
     ·obtain⟨d,hd,rfl⟩:=List.mem_map.1 he;simpa using h6 d hd
     ·simp only;refine⟨⟨.inr (by simpa using h1),by simpa using h4,h5⟩,?_,?_⟩
      ·simp
      ·simp [List.map_append]
    refine Oper.wp_mono (λa' w' ⟨u,v,σ',s1,N0,oI,gS,jb,Zy,Yf⟩=>?_) (kb Na σ w N a0 hI hR);subst Zy Yf;obtain⟨m1,m2,m3⟩:=wg hI oI gS ng rfl (λi' j x' nK=>by
     rw[adL]at nK;cases hq:(aI++ns)[i']? with
     |none=>rw[hq]at nK;cases nK
     |some c =>
      rw[hq]at nK;simp only[ad9,Option.bind_some,adL]at nK;obtain⟨d,_,rfl⟩:=Option.map_eq_some_iff.1 nK;rfl)
    exact⟨u,_,_,_,N0,m1,m2,m3 _ _ _ jb,rfl,rfl⟩
   rename_i id g lo n hx;obtain⟨⟨rfl,tW⟩,rfl,ha⟩:=ha;obtain⟨callee,args,L0⟩:=c;simp only at Qy Rx Xg;subst Qy;unfold dH at ha;cases aU:lS P t with
   |none=>rw[aU]at ha;exact ha.elim
   |some ei =>
    obtain⟨ee,i⟩:=ei;rw[aU]at ha;simp only at ha;cases xA:iX s (ev e x) with
    |none=>rw[xA]at ha;exact ha.elim
    |some ns =>
     rw[xA]at ha;simp only[hx,sh,MT]at ha;obtain⟨h1,h2,h3,ha⟩:=ha;refine⟨_,_,ha,λs' hlen ng=>kb ?_⟩;unfold mT cP gR;simp only[Rx,Xg];unfold dH;rw[Iw tW s s',xA,aU];simp only[hx,sh,ng,MT];exact⟨trivial,h1,h2,h3,trivial,trivial⟩
def MZ (s:List Obj) (K:V->List Obj->Prop) (v:V) (s1:List Obj):Prop:=s1=s/\K v s
theorem sI{K:V->List Obj->Prop}:MZ s K v s1=(s1=s/\K v s):=(rfl)
def CM (o:Oper) (e:Env) (ws:List Nat):Bool:=Mz o&&(pQ e o).all λid=>!ws.contains id
def QQ (o:Oper) (e:Env) (rd:List Nat):Bool:=Mz o&&(pQ e o).all λid=>rd.contains id
def eZ (P:Program) (bars:List Nat) (fs:cV) (i:Nat) (o:Oper) (e:Env) (s:List Obj) (K:V->List Obj->Prop):Prop :=
 match bars.contains i with
 |true=>match ku o e with
  |some (some (f,args))=>SH P f args s K
  |some none=>False
  |none=>cP P o e s K
 |false=>match gk fs i with
  |none=>match ku o e with
   |some (some (f,args))=>R5 P f args s K
   |some none=>False
   |none=>CM o e (C8 fs)=true/\cP P o e s (MZ s K)
  |some (rd,wr)=>match ku o e with
   |some (some (f,args))=>JJ P rd wr f args s K
   |some none=>False
   |none=>match wr with
    |[]=>QQ o e rd=true/\cP P o e s (MZ s K)
    |[h]=>rd.contains h=true/\NH P o e s h K
    |_=>False
theorem vX:∀(ρ:List Nat) (os:List Obj) (s s':List Obj) (id:Nat),id∈ρ->os.length=ρ.length->s.length=s'.length->(aZ s ρ os)[id]?=(aZ s' ρ os)[id]?
 |[],_,_,_,_,h,_,_=>by cases h
 |r::ρ,[],_,_,_,_,h,_=>by simp at h
 |r::ρ,o::os,s,s',id,h,hl,hs=>by
  simp only[aZ];by_cases hm:id∈ρ
  ·exact vX ρ os _ _ id hm (by simpa using hl) (by simpa using hs)
  ·have:id=r:=by rcases List.mem_cons.1 h with h|h;exact h;exact absurd h hm
   subst this;rw[fV ρ os _ _ hm,fV ρ os _ _ hm];by_cases aH:id<s.length
   ·rw[List.getElem?_set_self aH,List.getElem?_set_self (by omega)]
   ·rw[List.getElem?_eq_none (by simp;omega),List.getElem?_eq_none (by simp;omega)]
theorem Md{K:V->List Obj->Prop} (hg:∀g want,o.guard=some (g,want)->∃d,jR full g=some d/\e d=.d (.sc (.bool want))) (h:eZ P bars fs i o e s K) :
  ∃v tf,JE P full bars fs i o ⟨some v,tf⟩ e s/\K v (tf s):=by
 unfold eZ at h;cases hb:bars.contains i with
 |true =>
  rw[hb]at h;simp only at h;have YB:∀v s1,mT P o e s v s1->K v s1->∃v tf,JE P full bars fs i o ⟨some v,tf⟩ e s/\K v (tf s):=by intro v s1 h1 h2;refine⟨v,λ_=>s1,⟨(λh=>by rw[hb]at h;cases h),hg,λs' _ h' _=>?_⟩,h2⟩;rw[h' hb];exact kb h1
  split at h
  ·rename_i f args hc;obtain⟨v,s1,h1,h2⟩:=h;exact YB v s1 (by unfold mT;rw[zf hc];exact h1) h2
  ·exact h.elim
  ·rename_i hc;obtain⟨v,s1,h1,h2⟩:=Js (tZ hc) _ h;exact YB v s1 h1 h2
 |false =>
  rw[hb]at h;simp only at h;cases hf:gk fs i with
  |none =>
   rw[hf]at h;simp only at h;have Ww:Jg fs i λs=>s:=λs=>⟨rfl,λ_ _=>rfl,λs' hl id hw _=>by simp [nm,hf]at hw⟩
   split at h
   ·rename_i f args hc;obtain⟨v,h1,h2⟩:=h;exact⟨v,λs=>s,⟨λ_=>Ww,hg,λs' _ _ _=>kb (by unfold mT;rw[zf hc];exact h1 s')⟩,h2⟩
   ·exact h.elim
   ·rename_i hc;obtain⟨hr,h⟩:=h;obtain⟨v,s1,h1,h2,h3⟩:=Js (tZ hc) _ h;subst h2;simp only[CM,adD,adE,Bool.not_eq_true',List.contains_eq_mem,decide_eq_false_iff_not]at hr;refine⟨v,λs=>s,⟨λ_=>Ww,hg,λs' _ _ UD=>kb (Gs hr.1 (λid dB=>UD id ?_) h1)⟩,h3⟩;unfold SK;rw[hf];exact hr.2 id dB
  |some rw' =>
   obtain⟨rd,wr⟩:=rw';rw[hf]at h;simp only at h;split at h
   ·rename_i f args hc;obtain⟨v,os,hl,h1,h2⟩:=h;refine⟨v,λs=>aZ s wr os,⟨λ_ s=>⟨mG _ _ _,λid dB=>fV _ _ _ _ (by simpa [nm,hf]using dB),λs' MO id dB _=>vX _ _ _ _ _ (by simpa [nm,hf]using dB) hl MO.symm⟩,hg,
     λs' MO _ UD=>kb (by unfold mT;rw[zf hc];exact h1 s' MO λid dB=>UD id (by unfold SK;rw[hf];exact dB))⟩,h2⟩
   ·exact h.elim
   ·rename_i hc;split at h
    ·obtain⟨hr,h⟩:=h;obtain⟨v,s1,h1,h2,h3⟩:=Js (tZ hc) _ h;subst h2;simp only[QQ,adD,adE,List.contains_eq_mem,adC]at hr;refine⟨v,λs=>s,⟨λ_ s=>⟨rfl,λ_ _=>rfl,λs' hl id hw _=>by simp [nm,hf]at hw⟩,hg,λs' _ _ UD=>kb (Gs hr.1 (λid dB=>UD id ?_) h1)⟩,h3⟩;unfold SK;rw[hf];exact hr.2 id dB
    ·rename_i hh;obtain⟨hr,h⟩:=h;obtain⟨v,o',h1,h2⟩:=Nl (full:=full) h;refine⟨v,λs=>s.set hh o',⟨λ_ s=>⟨by simp,λid dB=>?_,λs' MO id dB _=>?_⟩,hg,λs' MO _ UD=>h2 s' MO (UD hh ?_)⟩,h1⟩
     ·have:id≠hh:=by simpa [nm,hf]using dB
      exact List.getElem?_set_ne (Ne.symm this)
     ·have:id=hh:=by simpa [nm,hf]using dB
      subst this;by_cases aH:id<s.length
      ·rw[List.getElem?_set_self aH,List.getElem?_set_self (by omega)]
      ·rw[List.getElem?_eq_none (by simp;omega),List.getElem?_eq_none (by simp;omega)]
     ·unfold SK;rw[hf];simpa using hr
    ·exact h.elim
def gq (P:Program) (N:Nat) (full:List Oper) (bars:List Nat) (fs:cV):Nat->List Oper->Env->List Obj->(Env->List Obj->Prop)->Prop
 |_,[],e,s,K=>K e s
 |i,o::rest,e,s,K=>dY N o.dst/\match o.guard with
  |none=>match o.op with
   |.pick c a b=>bars.contains i=false/\gk fs i=none/\fU (ev e c) (gq P N full bars fs (i+1) rest (fZ e o.dst (ev e a)) s K) (gq P N full bars fs (i+1) rest (fZ e o.dst (ev e b)) s K)
   |_=>eZ P bars fs i o e s λv s1=>gq P N full bars fs (i+1) rest (fZ e o.dst v) s1 K
  |some (g,want)=>jq (jR full g) e want (λe=>eZ P bars fs i o e s λv s1=>gq P N full bars fs (i+1) rest (fZ e o.dst v) s1 K)
    (λe=>gq P N full bars fs (i+1) rest (fZ e o.dst .un) s K)
theorem qa {P:Program}{N:Nat}{full:List Oper}{bars:List Nat}{fs:cV}:∀(l:List Oper) (i:Nat) (e:Env) (s:List Obj) (K:Env->List Obj->Prop),gq P N full bars fs i l e s K ->
  ∃tr e' s',Trace P N full bars fs i l tr e s e' s'/\K e' s'
 |[],i,e,s,K,h=>⟨[],e,s,⟨rfl,rfl⟩,h⟩
 |o::rest,i,e,s,K,h=>by
  obtain⟨hd,h⟩:=h;have run:(∀g want,o.guard=some (g,want)->∃d,jR full g=some d/\e d=.d (.sc (.bool want)))->(eZ P bars fs i o e s λv s1=>gq P N full bars fs (i+1) rest (fZ e o.dst v) s1 K) ->
    ∃tr e' s',Trace P N full bars fs i (o::rest) tr e s e' s'/\K e' s':=by
   intro hg h;obtain⟨v,tf,h1,h2⟩:=Md hg h;obtain⟨tr,e',s',k1,k2⟩:=qa rest (i+1) _ _ K h2;exact⟨⟨some v,tf⟩::tr,e',s',⟨hd,h1,k1⟩,k2⟩
  split at h
  ·rename_i hg;have So:∀g want,o.guard=some (g,want)->∃d,jR full g=some d/\e d=.d (.sc (.bool want)):=λg want h=>by rw[hg]at h;cases h
   split at h
   ·rename_i c a b xV;obtain⟨hnb,hnf,h⟩:=h;unfold fU at h;split at h
    ·rename_i bb P1;have go:∀(v:V),(∀s',mT P o e s' v s')->gq P N full bars fs (i+1) rest (fZ e o.dst v) s K->∃tr e' s',Trace P N full bars fs i (o::rest) tr e s e' s'/\K e' s':=by intro v hv h2;obtain⟨tr,e',s',k1,k2⟩:=qa rest (i+1) _ _ K h2;exact⟨⟨some v,λs=>s⟩::tr,e',s',⟨hd,⟨λ_ s=>⟨rfl,λ_ _=>rfl,λs' hl id hw _=>by simp [nm,hnf]at hw⟩,So,λs' _ _ _=>kb (hv s')⟩,k1⟩,k2⟩
     cases bb with
     |true=>exact go _ (λs'=>by simp [mT,cP,xV,fU,P1]) (h.1 rfl)
     |false=>exact go _ (λs'=>by simp [mT,cP,xV,fU,P1]) (h.2 rfl)
    ·exact h.elim
   ·exact run So h
  ·rename_i g want hg;unfold jq at h;split at h
   case h_1=>exact h.elim
   rename_i d Xw;have skip:(e d=.d (.sc (.bool (!want)))\/e d=.un)->gq P N full bars fs (i+1) rest (fZ e o.dst .un) s K ->
     ∃tr e' s',Trace P N full bars fs i (o::rest) tr e s e' s'/\K e' s':=by
    intro hv h2;obtain⟨tr,e',s',k1,k2⟩:=qa rest (i+1) _ _ K h2;exact⟨⟨none,λs=>s⟩::tr,e',s',⟨hd,⟨λ_ s=>⟨rfl,λ_ _=>rfl,λs' hl id _ h=>h.symm⟩,λ_=>rfl,g,want,d,hg,Xw,hv⟩,k1⟩,k2⟩
   split at h
   ·rename_i b hb;by_cases Yr:b=want
    ·subst Yr;have:=h.1 rfl;rw[Cg hb]at this;exact run (λg' aas CP=>by rw[hg]at CP;cases CP;exact⟨d,Xw,hb⟩) this
    ·have Zn:b=!want:=by cases b <;> cases want <;> simp_all
     subst Zn;have:=h.2 rfl;rw[Cg hb]at this;exact skip (.inl hb) this
   ·rename_i hb;exact skip (.inr hb) h
   ·exact h.elim
def fR (P:Program) (N:Nat) (full:List Oper) (bars:List Nat) (fs:cV) (i:Nat) (rest:List Oper) (e:Env) (d:Option Nat) (K:Env->List Obj->Prop) (v:V) (s:List Obj):Prop:=gq P N full bars fs i rest (fZ e d v) s K
theorem sr{K:Env->List Obj->Prop}:fR P N full bars fs i rest e d K v s=gq P N full bars fs i rest (fZ e d v) s K:=(rfl)
theorem uX{K:Env->List Obj->Prop}:gq P N full bars fs i [] e s K=K e s:=(rfl)
theorem ao (hm:P.follows .mixedOrders=true) (bars:List Nat) (fs:cV){K:Env->List Obj->Prop} (hd:jx full bars fs=true) (h:gq P N full bars fs 0 full e s K):qG P N full e s K:=by obtain⟨tr,e',s',h1,h2⟩:=qa _ _ _ _ _ h;exact Fl hm hd h1 h2
theorem bY{K:V->List Obj->Prop} (h:ba P f args r) (ha:ak.go 0 args=true) (hr:ak 0 r=true) (hk:K r s):R5 P f args s K :=
 ⟨r,λs'=>az h ha hr ⟨rfl,rfl⟩,hk⟩
theorem bj{K:V->List Obj->Prop} (h:au P f args s λv' HM=>v'=r/\HM=s1) (hk:K r s1):SH P f args s K:=⟨r,s1,h,hk⟩
def ca (e:Env) (s:List Obj) (e':Env) (s':List Obj):Prop :=
 ∀(σ0:Gh) (s0:List Obj) (w0:World) (σ:Gh) (w:World) (N:Nat) (a:Act),aW σ0 s0 w0 σ s w->Inv σ s w->fj σ s w N e a->∃σ',aW σ0 s0 w0 σ' s' w/\Inv σ' s' w/\fj σ' s' w N e' a
theorem aS{K:Env->List Obj->Prop} (h:ca e s e' s') (k:qG P N full e' s' K):qG P N full e s K:=by intro σ0 s0 w0 Q Yh σ w a id hE hI hR;obtain⟨σ',h1,h2,h3⟩:=h σ0 s0 w0 σ w N a hE hI hR;exact k σ0 s0 w0 Q Yh σ' w a id h1 h2 h3
def hole:Obj:=⟨0,true,0,[]⟩
theorem ca.bh:ca e s e (s++[hole]):=by intro σ0 s0 w0 σ w N a hE hI hR;have:=lE (p:=none) (o':=hole) (w':=w) hI rfl rfl rfl (adB _) (λ_ _=>rfl) (λ_ _ h'=>by cases h') (λ_=>.inl (.inl ⟨rfl,rfl⟩));exact⟨_,hE.trans this.1,this.2,hR.bF this.1⟩
theorem ca.trans {WA:Env}{HM:List Obj} (h:ca e s e' s') (k:ca e' s' WA HM):ca e s WA HM:=by intro σ0 s0 w0 σ w N a hE hI hR;obtain⟨σ',h1,h2,h3⟩:=h σ0 s0 w0 σ w N a hE hI hR;exact k σ0 s0 w0 σ' w N a h1 h2 h3
def iI (s:List Obj) (pe:List Nat) (e:Env):Env:=λt=>if pe.contains t then w6 s.length s (e t) else e t
theorem ca.freeze (ids pe:List Nat):ca e s (iI (bg s ids) pe e) (bg s ids):=by
 intro σ0 s0 w0 σ w N a hE hI hR;obtain⟨h1,h2⟩:=qJ ids s hI;refine⟨σ,hE.trans h1,h2,hR.1,hR.2.1,λt=>?_⟩;unfold iI;split
 ·have:=Hl h2 (ck:=(bg s ids).length) ((hR.2.2 t).bF h1);rwa [adZ]at this
 ·exact(hR.2.2 t).bF h1
theorem aP{o o':Obj}{rest:List Obj}{K:V->List Obj->Prop} (h:au P f args [o] λv s'=>v=r/\s'=[o']) (ha:args.map (aX [0])=args) (x8:ak.go 1 args=true)
  (hoo:bJ 1 o=true) (ho:bp [0] o=o) (mo:bp [0] o'=o') (hr:aX [0] r=r) (hk:K r (o'::rest)):au P f args (o::rest) K:=by
 refine pT h [0] rfl (by simp) (λk ob hk=>?_) ha.symm x8 (by simp [hoo]) λv s' hv=>?_
 ·cases k with
  |zero=>simp at hk;subst hk;simp [ho]
  |succ k=>simp at hk
 ·obtain⟨rfl,rfl⟩:=hv;refine⟨rfl,?_⟩;rw[hr];simpa [aZ,mo]using hk
theorem su{o o':Obj}{rest:List Obj}{K:V->List Obj->Prop} (h:au P f args [o] λv s'=>v=r/\s'=[o']) (ha:args.map (aX [0])=args) (x8:ak.go 1 args=true)
  (hoo:bJ 1 o=true) (ho:bp [0] o=o) (mo:bp [0] o'=o') (hr:aX [0] r=r) (hk:K r (o'::rest)):JJ P [0] [0] f args (o::rest) K:=by
 refine⟨r,[o'],rfl,λs' hl hs=>?_,by simpa [aZ]using hk⟩;cases s' with
 |nil=>simp at hl
 |cons o1 Z8 =>
  have:o1=o:=by have:=hs 0 (by simp);simpa using this
  subst this;exact aP h ha x8 hoo ho mo hr ⟨rfl,by simp [aZ]⟩
def Bf (K:V->List Obj->Prop) (s:List Obj) (v:V):Prop:=K v s
theorem yF {K:V->List Obj->Prop}:Bf K s v=K v s:=(rfl)
def Xv (K:V->List Obj->Prop) (s:List Obj):Prop:=K .un s
theorem yz {K:V->List Obj->Prop}:Xv K s=K .un s:=(rfl)
def lz {α β:Type} (x:V) (A B:α->β->Prop) (e:α) (s:β):Prop:=n7 x (A e s) (B e s)
theorem pB {α β:Type}{A B:α->β->Prop}{e:α}{s:β}:lz (.d (.sc (.bool true))) A B e s=A e s:=by simp [lz,n7,fU]
theorem nU {α β:Type}{A B:α->β->Prop}{e:α}{s:β}:lz (.d (.sc (.bool false))) A B e s=B e s:=by simp [lz,n7,fU]
theorem wL {α β:Type}{A B:α->β->Prop}{e:α}{s:β} [Decidable p]:lz (.d (.sc (.bool (decide p)))) A B e s=((p->A e s)/\(¬p->B e s)):=by simp [lz,n7,fU]
theorem rY {α β:Type}{A B:α->β->Prop}{e:α}{s:β}:lz (.d (.sc (.bool (!b)))) A B e s=lz (.d (.sc (.bool b))) B A e s:=by cases b <;> simp [lz,n7,fU]
theorem vf {α β:Type}{A B:α->β->Prop}{e:α}{s:β}:lz (.d .ub) A B e s=(A e s/\B e s):=(rfl)
theorem Lr {α β:Type}{A B:α->β->Prop}{e:α}{s:β}:lz (.d (.sc (.bool b))) A B e s=((b=true->A e s)/\(b=false->B e s)):=by simp [lz,n7,fU]
def qV (x:V) (A B:List Obj->Prop) (s:List Obj):Prop:=fU x (A s) (B s)
theorem pn {A B:List Obj->Prop}:qV (.d (.sc (.bool true))) A B s=A s:=by simp [qV,fU]
theorem nC {A B:List Obj->Prop}:qV (.d (.sc (.bool false))) A B s=B s:=by simp [qV,fU]
theorem Cx {A B:List Obj->Prop} [Decidable p]:qV (.d (.sc (.bool (decide p)))) A B s=((p->A s)/\(¬p->B s)):=by simp [qV,fU]
theorem sU {A B:List Obj->Prop}:qV (.d (.sc (.bool (!b)))) A B s=qV (.d (.sc (.bool b))) B A s:=by cases b <;> simp [qV,fU]
def eM (x:V) (d:Nat) (want:Bool) (A B:Env->Prop) (e:Env):Prop :=
 match x with
 |.d (.sc (.bool b))=>(b=want->A (cB e d (.d (.sc (.bool want)))))/\(b=(!want)->B (cB e d (.d (.sc (.bool (!want))))))
 |.un=>B e
 |_=>False
theorem ss {d:Nat}{A B:Env->Prop}:eM (.d (.sc (.bool true))) d true A B e=A (cB e d (.d (.sc (.bool true)))):=by simp [eM]
theorem sP {d:Nat}{A B:Env->Prop}:eM (.d (.sc (.bool false))) d false A B e=A (cB e d (.d (.sc (.bool false)))):=by simp [eM]
theorem rL {d:Nat}{A B:Env->Prop}:eM (.d (.sc (.bool true))) d false A B e=B (cB e d (.d (.sc (.bool true)))):=by simp [eM]
theorem sH {d:Nat}{A B:Env->Prop}:eM (.d (.sc (.bool false))) d true A B e=B (cB e d (.d (.sc (.bool false)))):=by simp [eM]
theorem sK {d:Nat}{A B:Env->Prop}:eM .un d want A B e=B e:=(rfl)
theorem v9 {d:Nat}{A B:Env->Prop} [Decidable p]:eM (.d (.sc (.bool (decide p)))) d true A B e=((p->A (cB e d (.d (.sc (.bool true)))))/\(¬p->B (cB e d (.d (.sc (.bool false)))))):=by simp [eM]
theorem wM {d:Nat}{A B:Env->Prop} [Decidable p]:eM (.d (.sc (.bool (decide p)))) d false A B e=((p->B (cB e d (.d (.sc (.bool true)))))/\(¬p->A (cB e d (.d (.sc (.bool false)))))):=by simp only[eM,decide_eq_false_iff_not,adz,adC];exact propext And.comm
theorem tY {d:Nat}{A B:Env->Prop} [Decidable p]:eM (.d (.sc (.bool (!decide p)))) d true A B e=((p->B (cB e d (.d (.sc (.bool false)))))/\(¬p->A (cB e d (.d (.sc (.bool true)))))):=by simp only[eM,Bool.not_eq_true',ads,Bool.not_eq_false',decide_eq_false_iff_not,adC];exact propext And.comm
theorem tS {d:Nat}{A B:Env->Prop} [Decidable p]:eM (.d (.sc (.bool (!decide p)))) d false A B e=((p->A (cB e d (.d (.sc (.bool false)))))/\(¬p->B (cB e d (.d (.sc (.bool true)))))):=by simp only[eM,Bool.not_eq_true',adz,Bool.not_eq_false',decide_eq_false_iff_not,adC]
def Dq (x:Option Nat) (want:Bool) (A B:Env->Prop) (e:Env):Prop:=jq x e want A B
theorem nY {d:Nat}{A B:Env->Prop}:Dq (some d) want A B e=eM (e d) d want A B e:=by unfold Dq jq eM;exact(rfl)
def gA (P:Program) (N:Nat) (full rest:List Oper) (d:Option Nat) (o:Oper) (s:List Obj) (K:Env->List Obj->Prop) (e:Env):Prop:=cP P o e s (cont P N full rest e d K)
def gB (P:Program) (N:Nat) (full rest:List Oper) (d:Option Nat) (s:List Obj) (K:Env->List Obj->Prop) (e:Env):Prop:=ma P N full rest (fZ e d .un) s K
theorem CZ{K:Env->List Obj->Prop}:gA P N full rest d o s K e=cP P o e s (cont P N full rest e d K):=(rfl)
theorem DI{K:Env->List Obj->Prop}:gB P N full rest d s K e=ma P N full rest (fZ e d .un) s K:=(rfl)
theorem rW{op:Op}{K:Env->List Obj->Prop} :
  ma P N full (⟨d,op,ty,pos,af,none⟩::rest) e s K=(dY N d/\cP P ⟨d,op,ty,pos,af,none⟩ e s (cont P N full rest e d K)):=(rfl)
theorem rO{op:Op}{g:Nat}{K:Env->List Obj->Prop} :
  ma P N full (⟨d,op,ty,pos,af,some (g,want)⟩::rest) e s K=(dY N d/\Dq (jR full g) want (gA P N full rest d ⟨d,op,ty,pos,af,some (g,want)⟩ s K) (gB P N full rest d s K) e):=(rfl)
theorem pq{L M:Nat}{Q:Exit->Env->List Obj->Prop}{a b:Code}:codeWp P N L M (.cond c a b) Q e s=lz (ev e c) (codeWp P N L M a Q) (codeWp P N L M b Q) (lJ M e) s:=(rfl)
def hA (P:Program) (N:Nat) (full:List Oper) (bars:List Nat) (fs:cV) (i:Nat) (rest:List Oper) (d:Option Nat) (o:Oper) (s:List Obj) (K:Env->List Obj->Prop) (e:Env):Prop:=eZ P bars fs i o e s (fR P N full bars fs (i+1) rest e d K)
def hB (P:Program) (N:Nat) (full:List Oper) (bars:List Nat) (fs:cV) (i:Nat) (rest:List Oper) (d:Option Nat) (s:List Obj) (K:Env->List Obj->Prop) (e:Env):Prop:=gq P N full bars fs (i+1) rest (fZ e d .un) s K
theorem CL{K:Env->List Obj->Prop}:hA P N full bars fs i rest d o s K e=eZ P bars fs i o e s (fR P N full bars fs (i+1) rest e d K):=(rfl)
theorem CX{K:Env->List Obj->Prop}:hB P N full bars fs i rest d s K e=gq P N full bars fs (i+1) rest (fZ e d .un) s K:=(rfl)
theorem sA{K:Env->List Obj->Prop} :
  gq P N full bars fs i (⟨d,.move x,ty,pos,af,none⟩::rest) e s K=(dY N d/\eZ P bars fs i ⟨d,.move x,ty,pos,af,none⟩ e s (fR P N full bars fs (i+1) rest e d K)):=(rfl)
theorem nX{K:Env->List Obj->Prop} :
  gq P N full bars fs i (⟨d,.assign x,ty,pos,af,none⟩::rest) e s K=(dY N d/\eZ P bars fs i ⟨d,.assign x,ty,pos,af,none⟩ e s (fR P N full bars fs (i+1) rest e d K)):=(rfl)
theorem qb{t:TypeId}{K:Env->List Obj->Prop} :
  gq P N full bars fs i (⟨d,.alloc t,ty,pos,af,none⟩::rest) e s K=(dY N d/\eZ P bars fs i ⟨d,.alloc t,ty,pos,af,none⟩ e s (fR P N full bars fs (i+1) rest e d K)):=(rfl)
theorem vE{t:TypeId}{K:Env->List Obj->Prop} :
  gq P N full bars fs i (⟨d,.box t x,ty,pos,af,none⟩::rest) e s K=(dY N d/\eZ P bars fs i ⟨d,.box t x,ty,pos,af,none⟩ e s (fR P N full bars fs (i+1) rest e d K)):=(rfl)
theorem pj{t:TypeId}{K:Env->List Obj->Prop} :
  gq P N full bars fs i (⟨d,.build t parts,ty,pos,af,none⟩::rest) e s K=(dY N d/\eZ P bars fs i ⟨d,.build t parts,ty,pos,af,none⟩ e s (fR P N full bars fs (i+1) rest e d K)):=(rfl)
theorem jr{t:TypeId}{n:Nat}{K:Env->List Obj->Prop} :
  gq P N full bars fs i (⟨d,.buildSlice t n parts,ty,pos,af,none⟩::rest) e s K=(dY N d/\eZ P bars fs i ⟨d,.buildSlice t n parts,ty,pos,af,none⟩ e s (fR P N full bars fs (i+1) rest e d K)):=(rfl)
theorem sa{t:TypeId}{a:Operand}{K:Env->List Obj->Prop} :
  gq P N full bars fs i (⟨d,.load t a,ty,pos,af,none⟩::rest) e s K=(dY N d/\eZ P bars fs i ⟨d,.load t a,ty,pos,af,none⟩ e s (fR P N full bars fs (i+1) rest e d K)):=(rfl)
theorem mq{t:TypeId}{r:Option Operand}{K:Env->List Obj->Prop} :
  gq P N full bars fs i (⟨d,.makeMap t r,ty,pos,af,none⟩::rest) e s K=(dY N d/\eZ P bars fs i ⟨d,.makeMap t r,ty,pos,af,none⟩ e s (fR P N full bars fs (i+1) rest e d K)):=(rfl)
theorem nZ{t:TypeId}{x i':Operand}{ok:Bool}{K:Env->List Obj->Prop} :
  gq P N full bars fs i (⟨d,.lookup t x i' ok,ty,pos,af,none⟩::rest) e s K=(dY N d/\eZ P bars fs i ⟨d,.lookup t x i' ok,ty,pos,af,none⟩ e s (fR P N full bars fs (i+1) rest e d K)):=(rfl)
theorem jL{t:TypeId}{m k:Operand}{K:Env->List Obj->Prop} :
  gq P N full bars fs i (⟨d,.mapUpdate t m k x,ty,pos,af,none⟩::rest) e s K=(dY N d/\eZ P bars fs i ⟨d,.mapUpdate t m k x,ty,pos,af,none⟩ e s (fR P N full bars fs (i+1) rest e d K)):=(rfl)
theorem pz{t:TypeId}{a:Operand}{K:Env->List Obj->Prop} :
  gq P N full bars fs i (⟨d,.store t a x,ty,pos,af,none⟩::rest) e s K=(dY N d/\eZ P bars fs i ⟨d,.store t a x,ty,pos,af,none⟩ e s (fR P N full bars fs (i+1) rest e d K)):=(rfl)
theorem uS{K:Env->List Obj->Prop} :
  gq P N full bars fs i (⟨d,.nilCheck x,ty,pos,af,none⟩::rest) e s K=(dY N d/\eZ P bars fs i ⟨d,.nilCheck x,ty,pos,af,none⟩ e s (fR P N full bars fs (i+1) rest e d K)):=(rfl)
theorem vU{op:BinOp}{t t':TypeId}{x y:Operand}{K:Env->List Obj->Prop} :
  gq P N full bars fs i (⟨d,.binOp op t x y t',ty,pos,af,none⟩::rest) e s K=(dY N d/\eZ P bars fs i ⟨d,.binOp op t x y t',ty,pos,af,none⟩ e s (fR P N full bars fs (i+1) rest e d K)):=(rfl)
theorem sW{op:UnOp}{t:TypeId}{K:Env->List Obj->Prop} :
  gq P N full bars fs i (⟨d,.unOp op t x,ty,pos,af,none⟩::rest) e s K=(dY N d/\eZ P bars fs i ⟨d,.unOp op t x,ty,pos,af,none⟩ e s (fR P N full bars fs (i+1) rest e d K)):=(rfl)
theorem mi{a b:TypeId}{K:Env->List Obj->Prop} :
  gq P N full bars fs i (⟨d,.convert a b x,ty,pos,af,none⟩::rest) e s K=(dY N d/\eZ P bars fs i ⟨d,.convert a b x,ty,pos,af,none⟩ e s (fR P N full bars fs (i+1) rest e d K)):=(rfl)
theorem kV{fn:Fn}{first ah:Array Operand}{K:Env->List Obj->Prop} :
  gq P N full bars fs i (⟨d,.makeFunc fn first ah,ty,pos,af,none⟩::rest) e s K=(dY N d/\eZ P bars fs i ⟨d,.makeFunc fn first ah,ty,pos,af,none⟩ e s (fR P N full bars fs (i+1) rest e d K)):=(rfl)
theorem jW{t:TypeId}{l:Operand}{K:Env->List Obj->Prop} :
  gq P N full bars fs i (⟨d,.makeSlice t l c,ty,pos,af,none⟩::rest) e s K=(dY N d/\eZ P bars fs i ⟨d,.makeSlice t l c,ty,pos,af,none⟩ e s (fR P N full bars fs (i+1) rest e d K)):=(rfl)
theorem px{t:TypeId}{x:Operand}{lo hi mx:Option Operand}{K:Env->List Obj->Prop} :
  gq P N full bars fs i (⟨d,.slice t x lo hi mx,ty,pos,af,none⟩::rest) e s K=(dY N d/\eZ P bars fs i ⟨d,.slice t x lo hi mx,ty,pos,af,none⟩ e s (fR P N full bars fs (i+1) rest e d K)):=(rfl)
theorem ke{t:TypeId}{x:Operand}{f:Nat}{K:Env->List Obj->Prop} :
  gq P N full bars fs i (⟨d,.fieldAddr t x f,ty,pos,af,none⟩::rest) e s K=(dY N d/\eZ P bars fs i ⟨d,.fieldAddr t x f,ty,pos,af,none⟩ e s (fR P N full bars fs (i+1) rest e d K)):=(rfl)
theorem pG{t:TypeId}{x:Operand}{f:Nat}{K:Env->List Obj->Prop} :
  gq P N full bars fs i (⟨d,.field t x f,ty,pos,af,none⟩::rest) e s K=(dY N d/\eZ P bars fs i ⟨d,.field t x f,ty,pos,af,none⟩ e s (fR P N full bars fs (i+1) rest e d K)):=(rfl)
theorem j0{t:TypeId}{x:Operand}{K:Env->List Obj->Prop} :
  gq P N full bars fs i (⟨d,.indexAddr t x i',ty,pos,af,none⟩::rest) e s K=(dY N d/\eZ P bars fs i ⟨d,.indexAddr t x i',ty,pos,af,none⟩ e s (fR P N full bars fs (i+1) rest e d K)):=(rfl)
theorem qk{t:TypeId}{x:Operand}{K:Env->List Obj->Prop} :
  gq P N full bars fs i (⟨d,.index t x i',ty,pos,af,none⟩::rest) e s K=(dY N d/\eZ P bars fs i ⟨d,.index t x i',ty,pos,af,none⟩ e s (fR P N full bars fs (i+1) rest e d K)):=(rfl)
theorem mj{x:Operand}{i':Nat}{K:Env->List Obj->Prop} :
  gq P N full bars fs i (⟨d,.extract x i',ty,pos,af,none⟩::rest) e s K=(dY N d/\eZ P bars fs i ⟨d,.extract x i',ty,pos,af,none⟩ e s (fR P N full bars fs (i+1) rest e d K)):=(rfl)
theorem rX{c:Call}{K:Env->List Obj->Prop} :
  gq P N full bars fs i (⟨d,.call c,ty,pos,af,none⟩::rest) e s K=(dY N d/\eZ P bars fs i ⟨d,.call c,ty,pos,af,none⟩ e s (fR P N full bars fs (i+1) rest e d K)):=(rfl)
theorem sL{c a b:Operand}{K:Env->List Obj->Prop} :
  gq P N full bars fs i (⟨d,.pick c a b,ty,pos,af,none⟩::rest) e s K=(dY N d/\bars.contains i=false/\gk fs i=none/\qV (ev e c) (fR P N full bars fs (i+1) rest e d K (ev e a)) (fR P N full bars fs (i+1) rest e d K (ev e b)) s):=(rfl)
theorem r8{op:Op}{g:Nat}{K:Env->List Obj->Prop} :
  gq P N full bars fs i (⟨d,op,ty,pos,af,some (g,want)⟩::rest) e s K=(dY N d/\Dq (jR full g) want (hA P N full bars fs i rest d ⟨d,op,ty,pos,af,some (g,want)⟩ s K) (hB P N full bars fs i rest d s K) e):=(rfl)
def Ez (P:Program) (e0 x:V) (args:List V) (s:List Obj) (K:V->List Obj->Prop):Prop :=
 match Br e0 x with
 |.cl (.func g) first ah=>au P g (first++args++ah) s K
 |_=>False
theorem vD{first ah:List V}{K:V->List Obj->Prop}:Ez P e0 (.cl (.func g) first ah) args s K=au P g (first++args++ah) s K:=(rfl)
theorem JK{K:V->List Obj->Prop}:Ez P e0 (.d (.cl (.func g) first ah)) args s K=au P g (dL.go e0 first++args++dL.go e0 ah) s K:=by unfold Ez Br;simp only[dL]
theorem KV{first ah:List V}:Br e0 (.cl fn first ah)=.cl fn first ah:=(rfl)
theorem O4:Br e0 (.d (.cl fn first ah))=.cl fn (dL.go e0 first) (dL.go e0 ah):=by unfold Br;simp only[dL]
theorem OJ:Br e0 (.d (.sc (.func fn ⟨[]⟩ ⟨[]⟩)))=.cl fn [] []:=(rfl)
theorem HH {g off b a:Nat}:Hj (.pp id g i off b a) b a=.pp id g i off b a:=by simp [Hj]
theorem Ce{b a:Nat}:dL e0 (.sc (.pointer (some ⟨b,a,none⟩)))=Hj e0 b a:=by simp only[dL]
theorem BX{k:IntKind}{n:Int}:dL e0 (.sc (.int k n))=.d (.sc (.int k n)):=by simp only[dL]
theorem AF:dL e0 (.sc (.bool b))=.d (.sc (.bool b)):=by simp only[dL]
theorem CD:dL e0 (.sc (.pointer none))=.d (.sc (.pointer none)):=by simp only[dL]
theorem GB{aI:List (List D)}:dL e0 (.sl aI)=.d (.sl aI):=by simp only[dL]
theorem Cv{x:D}:dL e0 (.el [x])=.bx (dL e0 x):=by simp only[dL]
theorem B0{x y:D}:dL e0 (.el (x::y::l))=.d (.el (x::y::l)):=by simp only[dL]
theorem Fz:dL e0 (.cl fn first ah)=.cl fn (dL.go e0 first) (dL.go e0 ah):=by simp only[dL]
theorem BB:dL.go e0 []=[]:=(rfl)
theorem zZ {e0:V}{x:D}:dL.go e0 (x::l)=dL e0 x::dL.go e0 l:=(rfl)
theorem Kg{K:V->List Obj->Prop}:Ez P e0 (.d (.sc (.func (.func g) ⟨[]⟩ ⟨[]⟩))) args s K=au P g ([]++args++[]) s K:=(rfl)
section
variable {P:Program}{d:Option Nat}{ty:TypeId}{pos:String}{af:Array Edge}{g:Option (Nat×Bool)}{e:Nat->V}{s:List Obj}{K:V->List Obj->Prop}
variable{x:Operand}{a:Operand}{c:Operand}{t:TypeId}{parts:Array (Nat×Operand)}{e0:V}{off:Nat}{id:Nat}{i:Nat}{b:Nat}{op:BinOp}{t':TypeId}{f:Nat}{k:Operand}{m:Operand}{L0:Array TypeId}{args:Array Operand}{y:Operand}
theorem vr:cP P ⟨d,.move x,ty,pos,af,g⟩ e s K=(K (ev e x) s):=(rfl)
theorem pr:cP P ⟨d,.assign x,ty,pos,af,g⟩ e s K=(K (ev e x) s):=(rfl)
theorem uQ {b:Operand}:cP P ⟨d,.pick c a b,ty,pos,af,g⟩ e s K=(qV (ev e c) (K (ev e a)) (K (ev e b)) s):=(rfl)
theorem r5:cP P ⟨d,.alloc t,ty,pos,af,g⟩ e s K=(nS P t s K):=(rfl)
theorem yM:cP P ⟨d,.box t x,ty,pos,af,g⟩ e s K=(xr s (ev e x) K):=(rfl)
theorem sS:cP P ⟨d,.build t parts,ty,pos,af,g⟩ e s K=(nQ P t (parts.toList.map λp=>(p.1,ev e p.2)) (Bf K s)):=(rfl)
theorem jU{n:Nat}:cP P ⟨d,.buildSlice t n parts,ty,pos,af,g⟩ e s K=(ff P t n (parts.toList.map λp=>(p.1,ev e p.2)) s K):=(rfl)
theorem Es{cs:List D}:vt e0 (.d (.el cs))=.d (.el cs):=(rfl)
theorem Hm{g:Nat}:vt e0 (.rf id g i off)=.rf id g i off:=(rfl)
theorem Hy{g a:Nat}:vt e0 (.pp id g i off b a)=.pp id g i off b a:=(rfl)
theorem Cf{a:Nat}:vt e0 (.d (.sc (.pointer (some ⟨b,a,none⟩))))=zn e0 b a:=(rfl)
theorem Kz {g a:Nat}:zn (.pp id g i off b a) b a=.rf id g i off:=by simp [zn]
theorem Ch {g a k:Nat}:zn (.pp id g i off b a) b (a+k)=.rf id g i (off+k):=by simp [zn]
theorem u4:cP P ⟨d,.load t a,ty,pos,af,g⟩ e s K=(jM P t s (vt (e 0) (ev e a)) (Bf K s)):=(rfl)
theorem si:cP P ⟨d,.store t a x,ty,pos,af,g⟩ e s K=(gN P t s (ev e a) (ev e x) (Xv K)):=(rfl)
theorem yp:cP P ⟨d,.nilCheck x,ty,pos,af,g⟩ e s K=(iO s (ev e x) (Bf K s)):=(rfl)
theorem u5{y:Nat}:cP P ⟨d,.binOp op t x (.tmp y) t',ty,pos,af,g⟩ e s K=(nG P op t s (ev e x) (ev e (.tmp y)) (Bf K s)):=(rfl)
theorem uY{k:IntKind}{y:Int}:cP P ⟨d,.binOp op t x (.const (.int k y)) t',ty,pos,af,g⟩ e s K=(nG P op t s (ev e x) (ev e (.const (.int k y))) (Bf K s)):=(rfl)
theorem vd{y:Bool}:cP P ⟨d,.binOp op t x (.const (.bool y)) t',ty,pos,af,g⟩ e s K=(nG P op t s (ev e x) (ev e (.const (.bool y))) (Bf K s)):=(rfl)
theorem vi{y:Option Addr}:cP P ⟨d,.binOp op t x (.const (.pointer y)) t',ty,pos,af,g⟩ e s K=(nG P op t s (ev e x) (ev e (.const (.pointer y))) (Bf K s)):=(rfl)
theorem vR:cP P ⟨d,.binOp op t x (.const (.slice none 0 0)) t',ty,pos,af,g⟩ e s K=(gM P op t (ev e x) (Bf K s)):=(rfl)
theorem vN {op:UnOp}:cP P ⟨d,.unOp op t x,ty,pos,af,g⟩ e s K=(xW op (ev e x) (Bf K s)):=(rfl)
theorem nI {a b:TypeId}:cP P ⟨d,.convert a b x,ty,pos,af,g⟩ e s K=(ou P a b (ev e x) (Bf K s)):=(rfl)
theorem me {fn:Fn}{first ah:Array Operand}:cP P ⟨d,.makeFunc fn first ah,ty,pos,af,g⟩ e s K=(K (.cl fn (first.toList.map (ev e)) (ah.toList.map (ev e))) s):=(rfl)
theorem kW{l:Operand}:cP P ⟨d,.makeSlice t l c,ty,pos,af,g⟩ e s K=(fK P t (ev e l) (ev e c) s K):=(rfl)
theorem rR{lo hi mx:Option Operand}:cP P ⟨d,.slice t x lo hi mx,ty,pos,af,g⟩ e s K=(kj P t (ev e x) (lo.map (ev e)) (hi.map (ev e)) (mx.map (ev e)) s (Bf K s)):=(rfl)
theorem lp:cP P ⟨d,.fieldAddr t x f,ty,pos,af,g⟩ e s K=(eK P t s (ev e x) f (Bf K s)):=(rfl)
theorem sm:cP P ⟨d,.field t x f,ty,pos,af,g⟩ e s K=(lq P t (ev e x) f (Bf K s)):=(rfl)
theorem kY{i:Operand}:cP P ⟨d,.indexAddr t x i,ty,pos,af,g⟩ e s K=(dK P t s (ev e x) (ev e i) (Bf K s)):=(rfl)
theorem nv{r:Option Operand}:cP P ⟨d,.makeMap t r,ty,pos,af,g⟩ e s K=(my P t r s K):=(rfl)
theorem pD{i:Operand}:cP P ⟨d,.lookup t x i false,ty,pos,af,g⟩ e s K=(il P t s (ev e x) (ev e i) (Bf K s)):=(rfl)
theorem lf:cP P ⟨d,.mapUpdate t m k x,ty,pos,af,g⟩ e s K=(tt P t s (ev e m) (ev e k) (ev e x) (Xv K)):=(rfl)
theorem pF:cP P ⟨d,.insert t m k x,ty,pos,af,g⟩ e s K=(tt P t s (ev e m) (ev e k) (ev e x) (Xv K)):=(rfl)
theorem se{i:Operand}:cP P ⟨d,.index t x i,ty,pos,af,g⟩ e s K=(jt P t (ev e x) (ev e i) (Bf K s)):=(rfl)
theorem nP:cP P ⟨d,.extract x i,ty,pos,af,g⟩ e s K=(vL (ev e x) i (Bf K s)):=(rfl)
theorem vu {f:FuncId}:cP P ⟨d,.call ⟨.value (.func f),args,L0⟩,ty,pos,af,g⟩ e s K=(au P f (args.toList.map (ev e)) s K):=(rfl)
theorem sw:cP P ⟨d,.call ⟨.value (.tmp f),args,L0⟩,ty,pos,af,g⟩ e s K=(Ez P (e 0) (e f) (args.toList.map (ev e)) s K):=(rfl)
theorem yy:cP P ⟨d,.call ⟨.builtin .len,#[x],#[t]⟩,ty,pos,af,g⟩ e s K=(jO P t (ev e x) s (Bf K s)):=(rfl)
theorem pA:cP P ⟨d,.call ⟨.builtin .append,#[a,x],#[t,t']⟩,ty,pos,af,g⟩ e s K=(t=t'/\dH P t (ev e a) (ev e x) s K):=(rfl)
theorem uT:cP P ⟨d,.call ⟨.builtin .copy,#[a,x],#[t,t']⟩,ty,pos,af,g⟩ e s K=(t=t'/\rD P t (ev e a) (ev e x) s K):=(rfl)
theorem sE:cP P ⟨d,.call ⟨.builtin .clear,#[x],#[t]⟩,ty,pos,af,g⟩ e s K=(kX P t (ev e x) s K):=(rfl)
theorem yE:cP P ⟨d,.call ⟨.builtin .min,#[x,y],L0⟩,ty,pos,af,g⟩ e s K=(eX true (ev e x) [ev e y] (Bf K s)):=(rfl)
theorem yO:cP P ⟨d,.call ⟨.builtin .max,#[x,y],L0⟩,ty,pos,af,g⟩ e s K=(eX false (ev e x) [ev e y] (Bf K s)):=(rfl)
end
variable{id:Nat}{f:FuncId}{r:V}{s:List Obj}{P:Program}{cargs:List V}{args:List V}{e:Env}{L:Nat}{s':List Obj}{p:Prop}{b:Bool}{d:Nat}{base:List Obj}{v:V}{sz:Nat}{l:List (List D)}{ex:List D}{w:World}{cs:List D}{u:Value}{c:Value}
theorem r7 {cs:List V}:eI (.ag cs)=some cs:=(rfl)
theorem vn {x:D}:eI (.d x)=some [.d x]:=(rfl)
theorem sx {aI:List (List D)}:eI (.fu aI)=some [.fu aI]:=(rfl)
theorem sC {g lo n:Nat}:eI (.so id g lo n)=some [.so id g lo n]:=(rfl)
theorem sy {g i off:Nat}:eI (.rf id g i off)=some [.rf id g i off]:=(rfl)
theorem sG {fn:Fn}{a b:List V}:eI (.cl fn a b)=some [.cl fn a b]:=(rfl)
theorem vm (k:Nat){o o':Obj}{r':V}{K:V->List Obj->Prop} (h:au P f cargs [o] λv s'=>v=r/\s'=[o']) (ha:args=cargs.map (aX [k])) (x8:ak.go 1 cargs=true)
  (hoo:bJ 1 o=true) (ho:s[k]?=some (bp [k] o)) (hr:aX [k] r=r') (hk:K r' (s.set k (bp [k] o'))):au P f args s K:=by
 refine pT h [k] rfl (by simp) (λj ob hj=>?_) ha x8 (by simp [hoo]) λv s' hv=>?_
 ·cases j with
  |zero=>simp at hj;subst hj;simpa using ho
  |succ j=>simp at hj
 ·obtain⟨rfl,rfl⟩:=hv;refine⟨rfl,?_⟩;rw[hr];simpa [aZ]using hk
def mc (bO:List Nat) (e:Env):Env:=λt=>if bO.contains t then e t else .any
theorem Cz {bO:List Nat}{t:Nat}:mc bO e t=if bO.contains t then e t else .any:=(rfl)
theorem cU.cut (ck:Nat) (hL:L<=ck) (hs:s.take ck=s') (ho:s'.all (bJ ck)=true) (bO:List Nat) (hk:bO.all (λt=>ak ck (e t))=true):cU L e s (mc bO e) s':=by
 subst hs;intro σ0 s0 w0 σ w N a fW hE hI hR;refine⟨σ,hE.take (by omega),hI.take ho,hR.1,hR.2.1,λt=>?_⟩;unfold mc;split
 ·rename_i ht;rw[adE]at hk;exact(hR.2.2 t).take (hk t (by simpa using ht))
 ·exact .any
def YD:=ac @nH @lg @nT @mD @pq @jZ @nu<|ac @po @sJ @rW @rO @CZ @DI @CL<|ac @CX @nY @ss @sP @rL @sH @sK<|ac @v9 @wM @tY @tS @pB @nU @wL<|ac @rY @pn @nC @Cx @sU @yF @yz<|ac @vD @vJ @Dj @nE @uV @rN @nt<|ac @vA @sk @uX @sA @nX @qb @vE<|ac @pj @jr @sa @mq @nZ @jL @pz<|ac @uS @vU @sW @mi @kV @jW @px<|ac @ke @pG @j0 @qk @mj @rX @sL<|ac @r8 @sr @sI @vr @pr @uQ @r5<|ac @yM @sS @jU @u4 @nv @pD @lf<|ac @pF @si @yp @u5 @uY @vd @vi<|ac @vR @vf @vN @nI @me @kW @rR<|ac @lp @sm @kY @se @nP @vu @sw<|ac @yy @pA @uT @sE @yE @yO @vQ<|ac @mC @kJ @br @r7 @vn @sx @sC<|ac @sy @sG @true_and @and_true @true_or @or_true @Bool.not_true<|ac @Bool.not_false @false_or @or_false @decide_eq_true_eq @true_imp_iff @false_imp_iff @not_true_eq_false<|ac @not_false_eq_true @decide_eq_false_iff_not @Bool.and_self @Bool.or_false @Bool.false_or @Bool.or_true @Bool.true_or<|ac @Bool.and_true @Bool.true_and @Int.toNat_natCast @Int.ofNat_lt @Int.natCast_nonneg @decide_true @decide_false<|And.intro @V.d.injEq<|And.intro @D.sc.injEq<|And.intro @Go.Value.int.injEq @Go.Value.bool.injEq
theorem jh {α β:Type}{A B:α->β->Prop}{e:α}{s:β} [Decidable p] (h:p->A e s) (k:¬p->B e s):lz (.d (.sc (.bool (decide p)))) A B e s:=by rw[wL];exact⟨h,k⟩
theorem gv {α β:Type}{A B:α->β->Prop}{e:α}{s:β} (h:b=true->A e s) (k:b=false->B e s):lz (.d (.sc (.bool b))) A B e s:=by rw[Lr];exact⟨h,k⟩
theorem dG{A B:Env->Prop} [Decidable p] (h:p->A (cB e d (.d (.sc (.bool true))))) (k:¬p->B (cB e d (.d (.sc (.bool false))))):eM (.d (.sc (.bool (decide p)))) d true A B e:=by rw[v9];exact⟨h,k⟩
theorem dN{A B:Env->Prop} [Decidable p] (h:p->B (cB e d (.d (.sc (.bool true))))) (k:¬p->A (cB e d (.d (.sc (.bool false))))):eM (.d (.sc (.bool (decide p)))) d false A B e:=by rw[wM];exact⟨h,k⟩
theorem dd{A B:Env->Prop} [Decidable p] (h:p->B (cB e d (.d (.sc (.bool false))))) (k:¬p->A (cB e d (.d (.sc (.bool true))))):eM (.d (.sc (.bool (!decide p)))) d true A B e:=by rw[tY];exact⟨h,k⟩
theorem de{A B:Env->Prop} [Decidable p] (h:p->A (cB e d (.d (.sc (.bool false))))) (k:¬p->B (cB e d (.d (.sc (.bool true))))):eM (.d (.sc (.bool (!decide p)))) d false A B e:=by rw[tS];exact⟨h,k⟩
theorem dM{w:Bool}{A B:Env->Prop} (h:b=true->eM (.d (.sc (.bool true))) d w A B e) (k:b=false->eM (.d (.sc (.bool false))) d w A B e):eM (.d (.sc (.bool b))) d w A B e:=by
 cases b
 ·exact k rfl
 ·exact h rfl
theorem GL {α:Type}{x:α}:(some x).toArray.toList=[x]:=(rfl)
theorem FE {α:Type}:(none:Option α).toArray.toList=[]:=(rfl)
theorem u7 {f:Operand->V}:Option.map f none=none:=(rfl)
theorem Cw {d:Int}:yh none d=some d:=(rfl)
theorem FQ {k:IntKind}{n d:Int}:yh (some (.d (.sc (.int k n)))) d=some n:=(rfl)
def Ee:=ac @GL @FE @Cw @FQ @u7 @nH @lg<|ac @nT @mD @pq @jZ @nu @po @sJ<|ac @rW @rO @CZ @DI @CL @CX @nY<|ac @ss @sP @rL @sH @sK @pB @nU<|ac @rY @pn @nC @sU @yF @yz @vD<|ac @vJ @Dj @nE @uV @rN @nt @vA<|ac @sk @uX @sA @nX @qb @vE @pj<|ac @jr @sa @mq @nZ @jL @pz @uS<|ac @vU @sW @mi @kV @jW @px @ke<|ac @pG @j0 @qk @mj @rX @sL @r8<|ac @sr @sI @vr @pr @uQ @r5 @yM<|ac @sS @jU @u4 @nv @pD @lf @pF<|ac @si @yp @u5 @uY @vd @vi @vR<|ac @vf @vN @nI @me @kW @rR @lp<|ac @sm @kY @se @nP @vu @sw @yy<|ac @pA @uT @sE @yE @yO @vQ @mC<|ac @kJ @br @r7 @vn @sx @sC @sy<|ac @sG @true_and @and_true @true_or @or_true @Bool.not_true @Bool.not_false<|ac @false_or @or_false @decide_eq_true_eq @true_imp_iff @false_imp_iff @not_true_eq_false @not_false_eq_true<|ac @decide_eq_false_iff_not @Bool.and_self @Bool.or_false @Bool.false_or @Bool.or_true @Bool.true_or @Bool.and_true<|ac @Bool.true_and @Int.toNat_natCast @Int.ofNat_lt @Int.natCast_nonneg @decide_true @decide_false @V.d.injEq<|And.intro @D.sc.injEq<|And.intro @Go.Value.int.injEq @Go.Value.bool.injEq
def Acc (base:List Obj) (sz:Nat) (v:V) (s:List Obj) (l:List (List D)):Prop :=
 (v=.fu l/\s=base)\/∃g,v=.so base.length g 0 l.length/\s=base++[⟨g,true,sz,l.map (·.map .d)⟩]
theorem Acc.append{t et:TypeId}{i:RJ}{ns:List (List D)}{K:V->List Obj->Prop} (ha:Acc base sz v s l) (ht:lS P t=some (et,i)) (hz:i.sz=sz) (h0:0<sz) (hb:0<i.F2)
  (hl:∀e∈l,e.length=sz) (hn:∀e∈ns,e.length=sz) (fG:0<ns.length) (gf:(l.length+ns.length)*i.F2<=140737488355328) (hk:∀v' s',Acc base sz v' s' (l++ns)->K v' s'):dH P t v (.fu ns) s K:=by
 subst hz;have QK:∀e∈ns.map (λ(e:List D)=>e.map V.d),e.length=i.sz:=by intro e he;obtain⟨d,hd,rfl⟩:=List.mem_map.1 he;simpa using hn d hd
 unfold dH;simp only[ht,iX];refine⟨⟨QK,h0,hb⟩,?_⟩;rcases ha with ⟨rfl,rfl⟩|⟨g,rfl,rfl⟩
 ·simp only;refine⟨⟨.inr (by simpa using fG),by simpa using gf,hl⟩,?_⟩;have:=hk (.so s.length 0 0 (l++ns).length) (s++[⟨0,true,i.sz,(l++ns).map (·.map .d)⟩]) (.inr ⟨0,rfl,rfl⟩);simpa [List.map_append]using this
 ·simp only[sh];rw[adN (adB _),Nat.sub_self];simp only[adU,true_and];refine⟨⟨by simp,by simpa using gf⟩,?_⟩;have:=hk (.so base.length (g+1) 0 (l++ns).length) (base++[⟨g+1,true,i.sz,(l++ns).map (·.map .d)⟩]) (.inr ⟨g+1,rfl,rfl⟩);have he:((l.map (λ(e:List D)=>e.map V.d)).take l.length)=l.map (λ(e:List D)=>e.map V.d):=adT (by simp);simp only[List.drop_zero,ado,he];rw[List.set_append_right _ _ (adB _),Nat.sub_self];simpa [List.map_append]using this
theorem Cr (f:V->Option D) (hf:∀x,f (.d x)=some x):∀l:List (List D),((l.map λc=>c.map V.d).mapM λ(e:List V)=>e.mapM f)=some l
 |[]=>rfl
 |c::l=>by
  have h1:∀c:List D,(c.map V.d).mapM f=some c:=by
   intro c;induction c with
   |nil=>rfl
   |cons x c ih=>rw[adG,List.mapM_cons,hf,ih];rfl
  rw[adG,List.mapM_cons,h1,Cr f hf l];rfl
theorem Acc.XG{ck:Nat} (ha:Acc base sz v s l) (h:ck<=base.length):bf ck s v=some (.d (.sl l)):=by
 rcases ha with ⟨rfl,rfl⟩|⟨g,rfl,rfl⟩
 ·rfl
 ·simp only[bf,cE];rw[adN (adB _),Nat.sub_self];simp only[adU,true_and];rw[ap ⟨by simp,.inl h⟩];have he:((l.map (λ(e:List D)=>e.map V.d)).take l.length)=l.map (λ(e:List D)=>e.map V.d):=adT (by simp);rw[List.drop_zero,he,Cr _ (λx=>rfl) l];rfl
theorem Acc.get (ha:Acc base sz v s l){o:Obj} (h:base[id]?=some o):s[id]?=some o:=by
 rcases ha with ⟨rfl,rfl⟩|⟨g,rfl,rfl⟩
 ·exact h
 ·rw[adM (List.getElem?_eq_some_iff.1 h).1];exact h
theorem ER{t:Nat}:cB e d v t=if t=d then v else e t:=(rfl)
def Bm:=ac @eq_self.{1} @hole.eq_1 @eZ.eq_1 @ku.eq_1 @gk.eq_1 @gk.eq_2 @C8.eq_1<|ac @C8.eq_2 @CM.eq_1 @QQ.eq_1 @Mz.eq_1 @pQ.eq_1 @NH.eq_1 @fz.eq_1<|ac @fz.eq_2 @fz.eq_3 @fz.eq_4 @fz.eq_5 @Go.Op.operands.eq_1 @Go.Op.operands.eq_2 @Go.Op.operands.eq_3<|ac @Go.Op.operands.eq_4 @Go.Op.operands.eq_5 @Go.Op.operands.eq_6 @Go.Op.operands.eq_7 @Go.Op.operands.eq_8 @Go.Op.operands.eq_9 @Go.Op.operands.eq_10<|ac @Go.Op.operands.eq_11 @Go.Op.operands.eq_12 @Go.Op.operands.eq_13 @Go.Op.operands.eq_14 @Go.Op.operands.eq_15 @Go.Op.operands.eq_16 @Go.Op.operands.eq_17<|ac @Go.Op.operands.eq_18 @Go.Op.operands.eq_19 @Go.Op.operands.eq_20 @Go.Op.operands.eq_21 @Go.Op.operands.eq_22 @Go.Op.operands.eq_23 @Go.Op.operands.eq_24<|ac @Go.Op.operands.eq_25 @Go.Op.operands.eq_26 @Go.Op.operands.eq_27 @Go.Op.operands.eq_28 @Go.Op.operands.eq_29 @Go.Op.operands.eq_30 @Go.Op.operands.eq_31<|ac @Go.Op.operands.eq_32 @Go.Op.operands.eq_33 @Go.Op.operands.eq_34 @Go.Op.operands.eq_35 @Go.Op.operands.eq_36 @Go.Op.operands.eq_37 @Go.Op.operands.eq_38<|ac @Go.Op.operands.eq_39 @Go.Op.operands.eq_40 @Go.Op.operands.eq_41 @Go.Op.operands.eq_42 @Go.Op.operands.eq_43 @Go.Call.operands.eq_1 @Array.toList_append.{0}<|ac @gM.eq_1 @gM.eq_2 @gM.eq_3 @gM.eq_4 @gM.eq_5 @yl.eq_1 @yl.eq_2<|ac @yl.eq_3 @jR.eq_1 @dY.eq_1 @dY.eq_2 @fZ.eq_1 @fZ.eq_2 @ER<|ac @ev.eq_1 @ev.eq_2 @ev.eq_3 @ev.eq_4 @TO.eq_1 @TO.eq_2 @cv.eq_1<|ac @cv.eq_2 @cv.eq_3 @cv.eq_4 @nG.eq_1 @nW.eq_1 @nW.eq_2 @nW.eq_3<|ac @qj.eq_1 @qj.eq_2 @dy.eq_1 @dy.eq_2 @dy.eq_3 @dy.eq_4 @dy.eq_5<|ac @dy.eq_6 @dy.eq_7 @dy.eq_8 @dy.eq_9 @dy.eq_10 @dy.eq_11 @dy.eq_12<|ac @eQ.eq_1 @eQ.eq_2 @eQ.eq_3 @eQ.eq_4 @eQ.eq_5 @eQ.eq_6 @eQ.eq_7<|ac @eQ.eq_8 @eQ.eq_9 @eQ.eq_10 @eQ.eq_11 @eQ.eq_12 @eQ.eq_13 @eQ.eq_14<|ac @eQ.eq_15 @xW.eq_1 @xW.eq_2 @xW.eq_3 @iO.eq_1 @iO.eq_2 @iO.eq_3<|ac @iO.eq_4 @iO.eq_5 @iO.eq_6 @An.eq_1 @DE.eq_1 @DE.eq_2 @Ii.eq_1<|ac @Ii.eq_2 @JM.eq_1 @bf.eq_1 @bf.eq_2 @bf.eq_3 @bf.eq_4 @bf.eq_5<|ac @bf.eq_6 @bf.eq_7 @bf.eq_8 @bf.eq_9 @bf.eq_10 @bf.eq_11 @bf.eq_12<|ac @bf.go.eq_1 @bf.go.eq_2 @cE.eq_1 @cE.eq_2 @cE.eq_3 @cE.eq_4 @cE.eq_5<|ac @cE.eq_6 @cE.eq_7 @cE.eq_8 @iQ.eq_1 @iQ.eq_2 @iQ.eq_3 @jM.eq_1<|ac @nL.eq_1 @nL.eq_2 @nL.eq_3 @gN.eq_1 @xr.eq_1 @nS.eq_1 @jO.eq_1<|ac @jO.eq_2 @jO.eq_3 @jO.eq_4 @jO.eq_5 @dK.eq_1 @dK.eq_2 @eK.eq_1<|ac @lq.eq_1 @lq.eq_2 @jt.eq_1 @jt.eq_2 @jt.eq_3 @rI.eq_1 @SG.eq_1<|ac @sh.eq_1 @vL.eq_1 @vL.eq_2 @nO.eq_1 @nO.eq_2 @nO.eq_3 @nO.eq_4<|ac @List.map_cons.{0,0} @List.map_nil.{0,0} @List.toList_toArray.{0} @List.getElem?_cons_zero.{0} @List.getElem?_cons_succ.{0} @List.take_zero.{0} @List.all_nil.{0}<|ac @List.length_cons.{0} @List.length_nil.{0} @List.drop_zero.{0} @List.drop_succ_cons.{0} @if_true.{1} @if_false.{1} @List.nil_append.{0}<|ac @List.cons_append.{0} @ne_eq.{1} @nQ.eq_1 @ff.eq_1 @tx.eq_1 @tx.eq_2 @vW.eq_1<|ac @vW.eq_2 @oy.eq_1 @MU.eq_1 @MU.eq_2 @MU.eq_3 @fK.eq_1 @iX.eq_1<|ac @iX.eq_2 @iX.eq_3 @iX.eq_4 @bJ.eq_1 @ak.eq_1 @ak.eq_2 @ak.eq_3<|ac @ak.eq_4 @ak.eq_5 @ak.eq_6 @ak.eq_7 @ak.eq_8 @ak.eq_9 @ak.eq_10<|ac @ak.eq_11 @ak.eq_12 @ak.go.eq_1 @ak.go.eq_2 @kj.eq_1 @yh.eq_1 @yh.eq_2<|ac @Gk.eq_1 @Gk.eq_2 @ou.eq_1 @ou.eq_2 @eX.eq_1 @eX.eq_2 @eX.eq_3<|ac @List.replicate.eq_1.{0} @List.replicate.eq_2.{0} @List.mapM_cons.{0,0,0} @List.mapM_nil.{0,0,0} @Option.pure_def.{0} @Option.bind_eq_bind.{0} @Option.bind_some.{0,0}<|ac @gr.eq_1 @List.set_cons_zero.{0} @List.set_cons_succ.{0} @List.take_succ_cons.{0} @List.contains_nil.{0} @List.contains_cons.{0} @List.flatMap_cons.{0,0}<|ac @List.flatMap_nil.{0,0} @List.all_cons.{0} @List.append_nil.{0} @List.length_map.{0,0} @List.getElem?_map.{0,0} @Option.map_some.{0,0} @il.eq_1<|ac @tt.eq_1 @my.eq_1 @iN.eq_1 @iN.eq_2 @iN.eq_3 @iN.eq_4 @Go.VL.Es<|ac @Go.VL.Hm @Go.VL.Hy @Go.VL.Cf @Go.VL.Kz @Go.VL.Ch @Go.VL.JK @Go.VL.Kg<|ac @Go.VL.KV @Go.VL.O4 @Go.VL.OJ @Go.VL.HH @Go.VL.Ce @Go.VL.BX @Go.VL.AF<|ac @Go.VL.CD @Go.VL.GB @Go.VL.Cv @Go.VL.B0 @Go.VL.Fz @Go.VL.BB @Go.VL.zZ @kO.eq_1
theorem gx (ρ:List Nat){exts N2:List Obj}{r':V}{K:V->List Obj->Prop} (h:au P f cargs exts λv s'=>v=r/\s'=N2) (hnd:ρ.Nodup) (hl:N2.length=exts.length)
  (hs:ρ.map (λi=>s[i]?)=exts.map (λo=>some (bp ρ o))) (ha:args=cargs.map (aX ρ)) (x8:ak.go exts.length cargs=true) (PM:exts.all (bJ exts.length)=true) (hr:aX ρ r=r') (hk:K r' (aZ s ρ (N2.map (bp ρ)))):au P f args s K:=by
 have hρ:ρ.length=exts.length:=by simpa using congrArg List.length hs
 refine pT h ρ hρ hnd (λk o ho=>?_) ha x8 PM λv s' hv=>?_
 ·have h1:=congrArg (λl=>l[k]?) hs;simp only[adL,ho,ad9]at h1;have hk:k<ρ.length:=by rw[hρ];exact(List.getElem?_eq_some_iff.1 ho).1
  rw[adn hk]at h1;simp only[ad9,adp]at h1;simpa [List.getD,adn hk]using h1
 ·obtain⟨rfl,rfl⟩:=hv;exact⟨hl,by rw[hr];exact hk⟩
theorem EO{s1:List Obj}{rd wr:List Nat}{K:V->List Obj->Prop} (h:au P f args s λv s'=>v=r/\s'=s1) (hrd:∀i,i<s.length->i∈rd) (hwl:s1.length=wr.length)
  (hwr:aZ s wr s1=s1) (hk:K r s1):JJ P rd wr f args s K:=by
 refine⟨r,s1,hwl,λs' hl hs=>?_,by rw[hwr];exact hk⟩;have e:s'=s:=by
  apply List.ext_getElem?;intro i;rcases adV i s.length with hi|hi
  ·exact hs i (hrd i hi)
  ·rw[List.getElem?_eq_none (by omega),List.getElem?_eq_none hi]
 subst e;rw[hwr];exact h
theorem dt.Rr {O:Nat->Prop} (h:dt O w (.el (cs++ex)) u):dt O w (.el cs) u:=by
 generalize hd:D.el (cs++ex)=x at h;cases h with
 |el UW a f h1 h2 h3 =>
  cases hd;exact .el cs a f h1 (λj x hx=>h2 j x (by rw[adM (List.getElem?_eq_some_iff.1 hx).1];exact hx)) (λj x hx=>h3 j x (by rw[adM (List.getElem?_eq_some_iff.1 hx).1];exact hx))
 |_=>cases hd
theorem sj{K:V->List Obj->Prop} (h:au P f (.d (.el cs)::args) s K):au P f (.d (.el (cs++ex))::args) s K:=by
 refine⟨h.1,λσ w vals hI hl hv=>h.2 σ w vals hI (by simpa using hl) λi x hx=>?_⟩;cases i with
 |zero =>
  simp at hx;subst hx;have:=hv 0 _ rfl;generalize vals.getD 0 undef=u at this ⊢;cases this with|d hd=>exact .d hd.Rr
 |succ i=>exact hv (i+1) x (by simpa using hx)
theorem Pj {σ:Gh} (hI:Inv σ s w) {k:Nat}{o:Obj}{els':List (List V)} (ho:s[k]?=some o) (hlen:∀e∈els',e.length=o.sz) (SC:els'.length=o.aI.length) (Tm:∀es,o.aI≠kI es)
  (h:∀(i j:Nat) (x':V),(els'[i]?.bind (·[j]?))=some x'->∃x,(o.aI[i]?.bind (·[j]?))=some x/\∀u,aG σ s w x u->aG σ s w x' u) :
  aW σ s w σ (s.set k { o with aI:=els' }) w/\Inv σ (s.set k { o with aI:=els' }) w:=by
 have hk:=(List.getElem?_eq_some_iff.1 ho).1;have get:∀(id:Nat) (o':Obj),(s.set k { o with aI:=els' })[id]?=some o'->∃o1,s[id]?=some o1/\o1.live=o'.live/\o1.g=o'.g/\o1.sz=o'.sz:=by
  intro id o' h';rw[List.getElem?_set]at h';split at h'
  ·rename_i he;subst he;try rw[ap hk]at h'
   simp only[adp]at h';subst h';exact⟨o,ho,rfl,rfl,rfl⟩
  ·exact⟨o',h',rfl,rfl,rfl⟩
 have put:∀(id:Nat) (o1:Obj),s[id]?=some o1->∃o',(s.set k { o with aI:=els' })[id]?=some o'/\o'.g=o1.g/\o'.sz=o1.sz/\o'.live=o1.live:=by
  intro id o1 h';rw[List.getElem?_set];split
  ·rename_i he;subst he;rw[ho]at h';simp only[adp]at h';subst h';first|exact⟨_,rfl,rfl,rfl,rfl⟩|exact⟨_,by rw[ap hk],rfl,rfl,rfl⟩
  ·exact⟨o1,h',rfl,rfl,rfl⟩
 have hE:aW σ s w σ (s.set k { o with aI:=els' }) w:=by
  refine⟨rfl,rfl,rfl,adB _,λ_ _ _=>rfl,λ_ arr _ _ h=>⟨arr,h,rfl⟩,λ_ _ h=>h,?_,?_,rfl,λ_ _ _=>rfl⟩
  ·rintro b (hb|⟨id,o',base,h1,h2,h3⟩)
   ·exact .inl (.inl hb)
   ·obtain⟨o1,k1,k2,_⟩:=get id o' h1;exact .inl (.inr ⟨id,o1,base,k1,by rw[k2];exact h2,h3⟩)
  ·intro id o1 h1;obtain⟨o',k1,k2,k3,_⟩:=put id o1 h1;exact⟨o',k1,by omega,λ_=>⟨k3,rfl⟩⟩
 refine⟨hE,⟨?_,?_,hI.low,?_⟩⟩
 ·intro id o' h1;by_cases he:id=k
  ·subst he;rw[List.getElem?_set_self hk]at h1;simp only[adp]at h1;subst h1;rcases hI.content id o ho with (⟨c1,c2⟩|⟨b,es,c,c1,c2,c3⟩)|⟨b,base,arr,E,c1,c2,c3,c4,c5⟩
   ·left;exact .inl ⟨c1,adJ (by show els'.length=0;rw[SC,c2];rfl)⟩
   ·exact(Tm es c3).elim
   ·right;refine⟨b,base,arr,E,c1,c2,hlen,by show base+els'.length*o.sz<=arr.size;rw[SC];exact c4,λi j x' hx=>?_⟩;obtain⟨x,y1,y2⟩:=h i j x' hx;obtain⟨u,z1,z2,z3⟩:=c5 i j x y1;exact⟨u,z1,z2,(y2 u z3).bF hE⟩
  ·rw[List.getElem?_set_ne (Ne.symm he)]at h1;rcases hI.content id o' h1 with c|⟨b,base,arr,E,c1,c2,c3,c4,c5⟩
   ·exact .inl c
   ·right;refine⟨b,base,arr,E,c1,c2,c3,c4,λi j x hx=>?_⟩;obtain⟨u,z1,z2,z3⟩:=c5 i j x hx;exact⟨u,z1,z2,z3.bF hE⟩
 ·intro id kt o1 o2 b base cr h1 h2 h3 h4 h5;obtain⟨p1,q1,q2,_⟩:=get id o1 h1;obtain⟨p2,r1,_⟩:=get kt o2 h2;exact hI.inj id kt p1 p2 b base cr q1 r1 (by rw[q2];exact h3) h4 h5
 ·intro id o1 b base h1 h2;obtain⟨p1,q1,_⟩:=get id o1 h1;exact hI.apart id p1 b base q1 h2
theorem iL{o:Obj}{pre post:List V} (k sz:Nat) {K:V->List Obj->Prop} (ho:s[k]?=some o) (oA:o.aI=[pre++.fu []::post]) (gf:pre.length+1+post.length=o.sz)
  (h:au P f args (s.set k { o with aI:=[pre++.so s.length 0 0 0::post] }++[⟨0,true,sz,[]⟩]) K):au P f args s K:=by
 refine⟨h.1,λσ w vals hI hl hv=>?_⟩;have hk:=(List.getElem?_eq_some_iff.1 ho).1;have hp:=lE (p:=none) (o':=⟨0,true,sz,[]⟩) (w':=w) hI rfl rfl rfl (adB _) (λ_ _=>rfl) (λ_ _ h'=>by cases h') (λ_=>.inl (.inl ⟨rfl,rfl⟩));have Vw:(s++[(⟨0,true,sz,[]⟩:Obj)])[k]?=some o:=by rw[adM hk];exact ho
 have hr:=Pj hp.2 (els':=[pre++.so s.length 0 0 0::post]) Vw (by intro e he;rw[List.mem_singleton.1 he];simp;omega) (by rw[oA];rfl) (by
  intro es he;rw[oA]at he;have hm:(pre++.fu []::post)∈kI es:=by rw[<- he];exact List.mem_singleton.2 rfl
  unfold kI at hm;obtain⟨x,_,hx⟩:=List.mem_map.1 hm;have hf:V.fu []∈[V.d (.sc x.key),V.d (.sc x.val)]:=by rw[hx];simp
  simp at hf) (λi j x' hx=>by
  rw[oA];cases i with
  |succ i=>simp at hx
  |zero =>
   simp only[adU,Option.bind_some]at hx ⊢;by_cases hj:j=pre.length
   ·subst hj;rw[adN (adB _),Nat.sub_self]at hx ⊢;simp only[adU,adp]at hx ⊢;subst hx;refine⟨_,rfl,λu hu=>?_⟩;cases hu with|fu hx=>?_
    exact .so ⟨0,true,sz,[]⟩ (by simp) (adB _) rfl (λ_=>.inl ⟨cg _ _ _,⟨_,rfl⟩,rfl,rfl⟩)
   ·refine⟨x',?_,λu hu=>hu⟩;rcases adV j pre.length with aH|iP
    ·rw[adM aH]at hx ⊢;exact hx
    ·rw[adN iP]at hx ⊢;cases hm:j-pre.length with
     |zero=>omega
     |succ m=>rw[hm]at hx;simpa using hx)
 have cC:(s++[(⟨0,true,sz,[]⟩:Obj)]).set k { o with aI:=[pre++.so s.length 0 0 0::post] }=s.set k { o with aI:=[pre++.so s.length 0 0 0::post] }++[⟨0,true,sz,[]⟩]:=by rw[List.set_append_left _ _ hk]
 rw[cC]at hr;have hE:=hp.1.trans hr.1;exact(h.2 _ w vals hr.2 hl (λi x hx=>(hv i x hx).bF hE)).mono λ_ _ ⟨u,v,σ',s',a,b,c,d,e⟩=>⟨u,v,σ',s',a,hE.trans b,c,d,e⟩
theorem aG.W4 {σ σ':Gh}{w':World} (h:aG σ s w (.d (.sc c)) u):aG σ' s' w' (.d (.sc c)) u:=by
 cases h with|d h=>?_
 cases h with|sc _ hc=>exact .d (.sc _ hc)
theorem eP{K:V->List Obj->Prop} (ids:List Nat) (h:ba P f cargs (.d (.sc c)))
  (hc:bf.go (bg s ids).length (bg s ids) args=some cargs) (x8:ak.go 0 cargs=true) (hk:K (.d (.sc c)) s):au P f args s K:=by
 refine⟨h.1,λσ w vals hI hl hv=>?_⟩;obtain⟨Ov,Um⟩:=qJ ids s hI;obtain⟨k1,k2⟩:=pX hc;have e1:∀b,Own ⟨λ_=>none,Own σ (bg s ids)⟩ [] b->Own σ (bg s ids) b:=by
  rintro b (h|⟨id,o,base,h1,_⟩)
  ·exact h
  ·simp at h1
 refine(h.2 ⟨λ_=>none,Own σ (bg s ids)⟩ w vals ⟨λid o ho=>by simp at ho,λid _ o _ _ _ _ ho=>by simp at ho,λb hb=>ud Um hb,λid o _ _ ho=>by simp at ho⟩ (by omega)
  (λi x hx=>by
   obtain⟨y,hy,hf⟩:=k2 i x hx;have:=iM Um ((hv i y hy).bF Ov) hf;rw[adZ]at this;exact this.move (dz x8 i x hx) e1)).mono λe w' ⟨u,v,σ',s',he,hE,gS,hR,RW,ng⟩=>?_
 subst RW;subst ng;have same:=qI (w':=w') hI hE.os hE.tape hE.output hE.size λb hb=>by
  by_cases ho:Own σ (bg s ids) b
  ·exact hE.ga b hb ho
  ·exact hE.bO b hb λh'=>ho (e1 b h')
 exact⟨u,_,σ,s,he,same.1,same.2,hR.W4,hk⟩
theorem cU.WG{e':Env} (h:ca e s e' s'):cU L e s e' s':=λσ0 s0 w0 σ w N a _ hE hI hR=>h σ0 s0 w0 σ w N a hE hI hR
theorem cU.freeze (ids pe:List Nat):cU L e s (iI (bg s ids) pe e) (bg s ids):=.WG (.freeze ids pe)
def dS (bO:List Nat):V->V
 |.so id g lo n=>match bO.idxOf? id with|some k=>.so k g lo n|none=>.any
 |.rf id g i off=>match bO.idxOf? id with|some k=>.rf k g i off|none=>.any
 |.pp id g i off b a=>match bO.idxOf? id with|some k=>.pp k g i off b a|none=>.any
 |.mp id g=>match bO.idxOf? id with|some k=>.mp k g|none=>.any
 |.ag cs=>.ag (go cs)
 |.tu cs=>.tu (go cs)
 |.bx v=>.bx (dS bO v)
 |.cl fn first ah=>.cl fn (go first) (go ah)
 |.d x=>.d x
 |.fu aI=>.fu aI
 |.un=>.un
 |.any=>.any
where go:List V->List V
 |[]=>[]
 |v::vs=>dS bO v::go vs
theorem mI (bO:List Nat):∀(l:List V),dS.go bO l=l.map (dS bO)
 |[]=>rfl
 |v::vs=>by simp [dS.go,mI bO vs]
def fh (bO:List Nat) (o:Obj):Obj:={ o with aI:=o.aI.map (dS.go bO) }
def ur (bO:List Nat) (s:List Obj):List Obj:=bO.map λid=>fh bO (s.getD id hole)
def Of (bO:List Nat) (σ:Gh):Gh:=⟨λk=>match bO[k]? with|some id=>σ id|none=>none,σ.base⟩
section Mm
variable {σ:Gh}{s:List Obj}{w:World}{bO:List Nat}
variable{k:Nat}{id:Nat}
theorem Hv{o:Obj} (h:(ur bO s)[k]?=some o):∃id,bO[k]?=some id/\o=fh bO (s.getD id hole):=by unfold ur at h;rw[adL]at h;obtain⟨id,h1,h2⟩:=Option.map_eq_some_iff.1 h;exact⟨id,h1,h2.symm⟩
theorem uR{o:Obj} (h:bO[k]?=some id) (ho:s[id]?=some o):(ur bO s)[k]?=some (fh bO o):=by unfold ur;rw[adL,h];simp [List.getD,ho]
theorem lk (h:bO[k]?=some id):Of bO σ k=σ id:=by show (match bO[k]? with|some id=>σ id|none=>none)=σ id;rw[h]
theorem yB (aH:∀id∈bO,id<s.length) {b:Nat} (h:Own (Of bO σ) (ur bO s) b):Own σ s b:=by
 rcases h with h|⟨k,o,base,h1,h2,h3⟩
 ·exact .inl h
 ·obtain⟨id,k1,rfl⟩:=Hv h1;have hi:=aH id (adw k1);rw[lk k1]at h3;have hg:s.getD id hole=s[id]:=by simp [List.getD,adn hi]
  rw[hg]at h2;exact .inr ⟨id,s[id],base,by simp [hi],h2,h3⟩
theorem sb (h:bO.idxOf? id=some k):bO[k]?=some id:=by rw[List.idxOf?_eq_some_iff]at h;obtain⟨h1,h2,_⟩:=h;rw[adn h1];simpa using h2
theorem aG.Mm (aH:∀id∈bO,id<s.length) {x:V}{u:Value} (hr:aG σ s w x u):aG (Of bO σ) (ur bO s) w (dS bO x) u:=by
 have g:∀(cs:List V) (i:Nat) (y:V),(cs.map (dS bO))[i]?=some y->∃x,cs[i]?=some x/\dS bO x=y:=λcs i y hy=>by rw[adL]at hy;exact Option.map_eq_some_iff.1 hy
 induction hr with
 |d hx=>exact .d (hx.own λb hb=>yB aH hb)
 |fu hx=>exact .fu (hx.own λb hb=>yB aH hb)
 |un=>exact .un
 |any=>exact .any
 |ag h1 h2 _ ih =>
  simp only[dS,mI];refine .ag (by simpa using h1) (λi y hy=>?_) (λi y hy=>?_)
  ·obtain⟨x,hx,rfl⟩:=g _ i y hy;exact h2 i x hx
  ·obtain⟨x,hx,rfl⟩:=g _ i y hy;exact ih i x hx
 |tu h1 _ ih =>
  simp only[dS,mI];refine .tu (by simpa using h1) (λi y hy=>?_);obtain⟨x,hx,rfl⟩:=g _ i y hy;exact ih i x hx
 |bx h1 h2 h3 hu _ ih=>simp only[dS];exact .bx h1 h2 (λh'=>h3 (yB aH h')) hu ih
 |cl h1 _ h3 _ uI ie =>
  simp only[dS,mI];refine .cl (by simpa using h1) (λi y hy=>?_) (by simpa using h3) (λi y hy=>?_)
  ·obtain⟨x,hx,rfl⟩:=g _ i y hy;exact uI i x hx
  ·obtain⟨x,hx,rfl⟩:=g _ i y hy;exact ie i x hx
 |so o ho hg hu hk =>
  simp only[dS];split
  ·rename_i k iZ;have iZ:=sb iZ;refine .so (fh bO o) (uR iZ ho) hg hu λuF=>?_;have:=hk uF;unfold Bs at this ⊢;rw[lk iZ];exact this
  ·exact .any
 |rf o ho hg hu hk =>
  simp only[dS];split
  ·rename_i k iZ;have iZ:=sb iZ;refine .rf (fh bO o) (uR iZ ho) hg hu λuF=>?_;rw[lk iZ];exact hk uF
  ·exact .any
 |pp o ho hg hk =>
  simp only[dS];split
  ·rename_i k iZ;have iZ:=sb iZ;refine .pp (fh bO o) (uR iZ ho) hg λuF=>?_;rw[lk iZ];exact hk uF
  ·exact .any
 |mp o ho hg hu hk =>
  simp only[dS];split
  ·rename_i k iZ;have iZ:=sb iZ;refine .mp (fh bO o) (uR iZ ho) hg hu λuF=>?_;rw[lk iZ];exact hk uF
  ·exact .any
theorem Inv.Mm (hI:Inv σ s w) (aH:∀id∈bO,id<s.length) (hnd:bO.Nodup):Inv (Of bO σ) (ur bO s) w:=by
 have get:∀(k:Nat) (o:Obj),(ur bO s)[k]?=some o->∃id o',bO[k]?=some id/\s[id]?=some o'/\o=fh bO o':=by intro k o h;obtain⟨id,k1,rfl⟩:=Hv h;have hi:=aH id (adw k1);exact⟨id,s[id],k1,by simp [hi],by simp [List.getD,adn hi]⟩
 refine⟨λk o ho=>?_,λk k' o o' b base cr h1 h2 h3 h4 h5=>?_,hI.low,λk o b base h1 h2=>?_⟩
 ·obtain⟨id,o',k1,k2,rfl⟩:=get k o ho;rw[lk k1];rcases hI.content id o' k2 with (⟨h1,h2⟩|⟨b,es,c,h1,h2,h3⟩)|⟨b,base,arr,E,h1,h2,h3,h4,h5⟩
  ·exact .inl (.inl ⟨h1,by simp [fh,h2]⟩)
  ·refine .inl (.inr ⟨b,es,c,h1,h2,?_⟩);simp only[fh,h3,kI,List.map_map];apply aei;intro e _;rfl
  ·refine .inr ⟨b,base,arr,E,h1,h2,λc hc=>?_,by simpa [fh]using h4,λi j x hx=>?_⟩
   ·obtain⟨c',UJ,rfl⟩:=List.mem_map.1 hc;rw[mI];simpa [fh]using h3 c' UJ
   ·simp only[fh,adL]at hx;cases hi:o'.aI[i]? with
    |none=>simp [hi]at hx
    |some c =>
     simp only[hi,ad9,Option.bind_some,mI,adL]at hx;obtain⟨y,hy,rfl⟩:=Option.map_eq_some_iff.1 hx;obtain⟨u,g1,g2,g3⟩:=h5 i j y (by simp [hi,hy]);exact⟨u,g1,g2,g3.Mm aH⟩
 ·obtain⟨id,p,k1,k2,rfl⟩:=get k o h1;obtain⟨kt,p',l1,l2,rfl⟩:=get k' o' h2;rw[lk k1]at h4;rw[lk l1]at h5;have e:=hI.inj id kt p p' b base cr k2 l2 h3 h4 h5;subst e;obtain⟨a1,a2⟩:=List.getElem?_eq_some_iff.1 k1;obtain⟨b1,b2⟩:=List.getElem?_eq_some_iff.1 l1;exact(List.getElem_inj hnd).1 (a2.trans b2.symm)
 ·obtain⟨id,p,k1,k2,rfl⟩:=get k o h1;rw[lk k1]at h2;exact hI.apart id p b base k2 h2
theorem aW.Mm {σ0:Gh}{s0:List Obj}{w0:World} (hE:aW σ0 s0 w0 σ s w) (aH:∀id∈bO,id<s.length) (S0:∀id,id<s0.length->bO[id]?=some id):aW σ0 s0 w0 (Of bO σ) (ur bO s) w:=by refine⟨hE.os,hE.tape,hE.output,hE.size,hE.bO,hE.shape,hE.rG,λb hb=>hE.own b (yB aH hb),λid o ho=>?_,hE.base,hE.ga⟩;obtain⟨o',h1,h2,h3⟩:=hE.aB id o ho;have hk:=S0 id (List.getElem?_eq_some_iff.1 ho).1;exact⟨fh bO o',uR hk h1,h2,λhe=>⟨(h3 he).1,by rw[lk hk];exact(h3 he).2⟩⟩
end Mm
variable{bO:List Nat}{L:Nat}{e:Env}{s:List Obj}{f:FuncId}{P:Program}{args:List V}{ck:Nat}{σ:Gh}{w:World}{x:Operand}{t:TypeId}{ty:TypeId}{N:Nat}{rest:List Oper}{d:Option Nat}{full:List Oper}{pos:String}{af:Array Edge}{R:List Nat}{M:Nat}{id:Nat}{ops:Array Oper}{a:Operand}{b:Code}{c:Code}{g:Option (Nat×Bool)}{t':TypeId}
def AM (L:Nat) (bO:List Nat) (n:Nat):Bool:=bO.Nodup&&bO.all (λid=>decide (id<n))&&((List.range L).all λid=>bO[id]? == some id)
theorem xP {n:Nat} (h:AM L bO n=true):bO.Nodup/\(∀id∈bO,id<n)/\∀id,id<L->bO[id]?=some id:=by unfold AM at h;simp only[adD,adC,adE,beq_iff_eq,List.mem_range]at h;exact⟨h.1.1,h.1.2,h.2⟩
def Ud (bO pe:List Nat) (e:Env):Env:=λt=>if pe.contains t then dS bO (e t) else .any
theorem ON {pe:List Nat}{t:Nat}:Ud bO pe e t=if pe.contains t then dS bO (e t) else .any:=(rfl)
theorem cU.Mm (bO pe:List Nat) (h:AM L bO s.length=true):cU L e s (Ud bO pe e) (ur bO s):=by
 intro σ0 s0 w0 σ w N a fW hE hI hR;obtain⟨h1,h2,h3⟩:=xP h;refine⟨_,hE.Mm h2 (λid dB=>h3 id (by omega)),hI.Mm h2 h1,hR.1,hR.2.1,λt=>?_⟩;unfold Ud;split
 ·exact(hR.2.2 t).Mm h2
 ·exact .any
def JV (L:Nat) (s:List Obj) (r:V) (K:V->List Obj->Prop):Prop:=∃bO,AM L bO s.length=true/\K (dS bO r) (ur bO s)
def Qz (P:Program) (rs:List ResultVar) (L:Nat) (K:V->List Obj->Prop) (ex:Exit) (e:Env) (s:List Obj):Prop:=yl ex/\An P rs e s λr=>JV L s r K
theorem IU {P : Program} {f : FuncId} {fn : Func} {c : Code} {args : List V} {exts : List Obj} {K : V → List Obj → Prop} (hf : P.funcs[f]? = some fn) (hb : fn.body = some c) {N : Nat} (hN : fn.ntmps = N) {rs : Array ResultVar} (Tq : fn.results = rs) (hn : (fn.name != "runtime.NumGoroutine") = true)
  (ck M:Nat) (hl:exts.length<=ck) (ha:args.length<=N)
  (h:codeWp P N ck M c (Qz P rs.toList ck K) (iQ args) exts):au P f args exts K:=by
 subst hN;subst Tq;refine⟨by simp only[Iq,hf,hn,hb,Option.isSome_some,Bool.and_self],λσ w vals hI Un hv=>?_⟩;refine calls_of_wp hf hb ?_;have hR:fj σ exts w fn.ntmps (iQ args) { tmps:=vals++Array.replicate (fn.ntmps-vals.size) undef,defers:=[] }:=by
  refine⟨rfl,by simp;omega,λt=>?_⟩;rw[oC];by_cases ht:t<args.length
  ·have h1:=hv t args[t] (by simp [ht]);have:(vals++Array.replicate (fn.ntmps-vals.size) undef).getD t undef=vals.getD t undef:=by rw[adH,Array.getElem?_append_left (by omega),adH]
   rw[this];simpa [ht]using h1
  ·have:(vals++Array.replicate (fn.ntmps-vals.size) undef).getD t undef=undef:=by rw[adH,Array.getElem?_append_right (by omega),Array.getElem?_replicate];split <;> rfl
   rw[this];simp [ht];exact .un
 refine wp_mono (dC hl c _ (iQ args) exts σ w _ (aW.refl _ _ _) hI hR h) λex a' w' ⟨e',σ',s',hE,gS,jb,hex,hq⟩=>?_;obtain⟨v,u,k1,k2,k3⟩:=nF gS jb hq;obtain⟨bO,h0,hK⟩:=k3;obtain⟨h1,h2,h3⟩:=xP h0;have fin:a'.defers=[]/\∃v,(results fn a'.tmps).run P w'=.ok v w'/\∃u Ob uj pP,Ending.returned v=.returned u/\aW σ exts w uj pP w'/\Inv uj pP w'/\aG uj pP w' Ob u/\K Ob pP:=by refine⟨jb.1,u,k1,?_⟩;exact⟨u,_,_,_,rfl,hE.Mm h2 (λid dB=>h3 id (by omega)),gS.Mm h2 h1,k2.Mm h2,hK⟩
 rcases rM hex with rfl|rfl
 ·exact fin
 ·exact fin
def qv (ρ:List Nat) (s exts s':List Obj):List Nat:=ρ++List.range' s.length (s'.length-exts.length)
theorem qW:∀(ρ ρ':List Nat) (A B:List Obj) (s:List Obj),A.length=ρ.length->aZ s (ρ++ρ') (A++B)=aZ (aZ s ρ A) ρ' B
 |[],ρ',[],B,s,_=>by simp [aZ]
 |[],_,_::_,_,_,h=>by simp at h
 |_::_,_,[],_,_,h=>by simp at h
 |r::ρ,ρ',a::A,B,s,h=>by simp only[adr,aZ];exact qW ρ ρ' A B _ (by simpa using h)
theorem uZ:∀(ρ:List Nat) (A:List Obj) (s t:List Obj),(∀id∈ρ,id<s.length)->aZ (s++t) ρ A=aZ s ρ A++t
 |[],_,s,t,_=>by simp [aZ]
 |r::ρ,[],s,t,_=>by simp [aZ]
 |r::ρ,a::A,s,t,h=>by simp only[aZ];rw[List.set_append_left _ _ (h r (by simp))];exact uZ ρ A _ t (λid dB=>by simpa using h id (by simp [dB]))
theorem xy:∀(m:Nat) (B s:List Obj),B.length=m->aZ (s++List.replicate m hole) (List.range' s.length m) B=s++B
 |0,B,s,h=>by have:B=[]:=adJ h;subst this;simp [aZ]
 |m+1,[],s,h=>by simp at h
 |m+1,b::B,s,h=>by rw[List.range'_succ,List.replicate_succ];simp only[aZ];rw[List.set_append_right _ _ (adB _),Nat.sub_self,ad0];have:=xy m B (s++[b]) (by simpa using h);simpa using this
theorem mS{cargs:List V}{exts:List Obj}{Kc K:V->List Obj->Prop} (h:au P f cargs exts Kc) (ρ:List Nat) (hρ:ρ.length=exts.length) (hnd:ρ.Nodup)
  (hs:∀(k:Nat) (o:Obj),exts[k]?=some o->s[ρ.getD k 0]?=some (bp ρ o)) (jF:args=cargs.map (aX ρ)) (x8:ak.go exts.length cargs=true) (PM:exts.all (bJ exts.length)=true)
  (hk:∀v s',Kc v s'->exts.length<=s'.length->K (aX (qv ρ s exts s') v) (aZ s ρ ((s'.take exts.length).map (bp (qv ρ s exts s')))++(s'.drop exts.length).map (bp (qv ρ s exts s')))):au P f args s K:=by
 refine⟨h.1,λσ w vals hI hl hv=>?_⟩;have Sr:∀k,k<exts.length->ρ[k]?=some (ρ.getD k 0):=λk hk=>by simp [List.getD,show k<ρ.length by omega]
 have XO:∀k k',k<exts.length->k'<exts.length->ρ.getD k 0=ρ.getD k' 0->k=k':=by intro k k' h1 h2 he;have e1:=Sr k h1;have e2:=Sr k' h2;rw[he]at e1;obtain⟨l1,g1⟩:=List.getElem?_eq_some_iff.1 e1;obtain⟨l2,g2⟩:=List.getElem?_eq_some_iff.1 e2;exact(List.getElem_inj hnd).1 (g1.trans g2.symm)
 have Ef:∀k,(hk:k<exts.length)->s[ρ.getD k 0]?=some (bp ρ exts[k]):=λk hk=>hs k exts[k] (by simp [hk]);let rn:Nat->Prop:=λb=>∃k base,k<exts.length/\σ (ρ.getD k 0)=some (b,base);let σc:Gh:=⟨λk=>if k<exts.length then σ (ρ.getD k 0) else none,λb=>Own σ s b/\¬rn b⟩
 have CH:∀k,k<exts.length->σc k=σ (ρ.getD k 0):=λk hk=>ap hk;have wu:∀b,Own σc exts b->Own σ s b:=by
  rintro b (hb|⟨k,o,base,h1,h2,h3⟩)
  ·exact hb.1
  ·have aH:=(List.getElem?_eq_some_iff.1 h1).1;rw[CH k aH]at h3;exact .inr ⟨ρ.getD k 0,bp ρ o,base,hs k o h1,h2,h3⟩
 have Nb:∀b,Own σ s b->Own σc exts b:=by
  intro b hb;by_cases he:rn b
  ·obtain⟨k,base,aH,h3⟩:=he;refine .inr ⟨k,exts[k],base,by simp [aH],?_,by rw[CH k aH];exact h3⟩;rcases hb with hb|⟨id,o,cr,g1,g2,g3⟩
   ·exact absurd hb (hI.apart _ _ b base (Ef k aH) h3)
   ·have:=hI.inj id _ o _ b cr base g1 (Ef k aH) g2 g3 h3;subst this;rw[Ef k aH]at g1;cases g1;exact g2
  ·exact .inl ⟨hb,he⟩
 have Zl:Inv σc exts w:=by
  refine⟨λk o ho=>?_,λk k' o o' b base cr h1 h2 h3 h4 h5=>?_,λb hb=>ud hI hb.1,λk o b base h1 h2 hb=>?_⟩
  ·have aH:=(List.getElem?_eq_some_iff.1 ho).1;rw[CH k aH];rcases hI.content _ _ (hs k o ho) with g1|⟨b,base,arr,E,g1,g2,g3,g4,g5⟩
   ·exact .inl g1.down
   ·refine .inr ⟨b,base,arr,E,g1,g2,λe he=>?_,by simpa [bp]using g4,λi j x hx=>?_⟩
    ·have:=g3 (aX.go ρ e) (List.mem_map.2 ⟨e,he,rfl⟩);rw[ia]at this;simpa [bp]using this
    ·obtain⟨u,k1,k2,k3⟩:=g5 i j _ (Cp hx);refine⟨u,k1,k2,u9 wu hs CH k3 rfl ?_⟩;have hobj:=List.all_eq_true.1 PM o (adw ho);cases Ab:o.aI[i]? with
     |none=>rw[Ab]at hx;cases hx
     |some e =>
      rw[Ab]at hx;exact List.all_eq_true.1 (List.all_eq_true.1 hobj e (adw Ab)) x (adw hx)
  ·have l1:=(List.getElem?_eq_some_iff.1 h1).1;have l2:=(List.getElem?_eq_some_iff.1 h2).1;rw[CH k l1]at h4;rw[CH k' l2]at h5;exact XO k k' l1 l2 (hI.inj _ _ _ _ b base cr (hs k o h1) (hs k' o' h2) h3 h4 h5)
  ·have l1:=(List.getElem?_eq_some_iff.1 h1).1;rw[CH k l1]at h2;exact hb.2 ⟨k,base,l1,h2⟩
 refine(h.2 σc w vals Zl (by rw[hl,jF];simp) (λi x hx=>u9 wu hs CH (hv i _ (by rw[jF,adL,hx];rfl)) rfl (dz x8 i x hx))).mono λe w' ⟨u,v,σ',s',he,hE,gS,hR,hK⟩=>?_;have hle:exts.length<=s'.length:=by
  rcases Nat.eq_zero_or_pos exts.length with h0|h0
  ·omega
  ·obtain⟨o',g1,_⟩:=hE.aB (exts.length-1) exts[exts.length-1] (adn (by omega));have:=(List.getElem?_eq_some_iff.1 g1).1;omega
 have hK:=hk v s' hK hle;have V3:∀id∈ρ,id<s.length:=by
  intro id dB;obtain⟨k,hk⟩:=List.mem_iff_getElem?.1 dB;have aH:k<exts.length:=by have:=(List.getElem?_eq_some_iff.1 hk).1;omega
  have h1:=(List.getElem?_eq_some_iff.1 (Ef k aH)).1;have:ρ.getD k 0=id:=by simp [List.getD,hk]
  omega
 obtain⟨R,US⟩:∃R,R=qv ρ s exts s':=⟨_,rfl⟩
 rw[<- US]at hK;have hRl:R.length=s'.length:=by rw[US];simp [qv];omega
 have Z5:R.Nodup:=by rw[US];unfold qv;rw[List.nodup_append];refine⟨hnd,List.nodup_range',λa ha b hb he=>?_⟩;subst he;have h1:=V3 a ha;have h2:=List.mem_range'.1 hb;omega
 have Nz:∀k,k<exts.length->R.getD k 0=ρ.getD k 0:=λk hk=>by rw[US];unfold qv;simp only[List.getD];rw[adM (by omega)]
 have Ue:∀k,exts.length<=k->k<s'.length->R.getD k 0=s.length+(k-exts.length):=λk h1 h2=>by rw[US];unfold qv;simp only[List.getD];rw[adN (by omega),List.getElem?_range' (by omega)];simp;omega
 have Xo:∀k,k<s'.length->R[k]?=some (R.getD k 0):=λk hk=>by simp [List.getD,show k<R.length by omega]
 have YA:∀k,k<s'.length->R.getD k 0<s.length+(s'.length-exts.length):=λk hk=>by
  rcases adV k exts.length with h1|h1
  ·rw[Nz k h1];have:=(List.getElem?_eq_some_iff.1 (Ef k h1)).1;omega
  ·rw[Ue k h1 hk];omega
 have Sk:aZ s ρ ((s'.take exts.length).map (bp R))++(s'.drop exts.length).map (bp R)=aZ (s++List.replicate (s'.length-exts.length) hole) R (s'.map (bp R)):=by
  have du:s'.map (bp R)=(s'.take exts.length).map (bp R)++(s'.drop exts.length).map (bp R):=by rw[<- List.map_append,List.take_append_drop]
  rw[du,US];unfold qv;generalize bp (ρ++List.range' s.length (s'.length-exts.length))=F;rw[qW _ _ _ _ _ (by simp;omega),uZ _ _ _ _ V3];have MQ:(aZ s ρ ((s'.take exts.length).map F)).length=s.length:=mG _ _ _;generalize aZ s ρ ((s'.take exts.length).map F)=T at *;rw[<- MQ,xy (s'.length-exts.length) _ T (by simp)]
 rw[Sk]at hK;clear Sk
 -- back
 let σn:Gh:=⟨λid=>match R.idxOf? id with|some k=>σ' k|none=>σ id,σ.base⟩
 have T6:∀k,k<s'.length->R.idxOf? (R.getD k 0)=some k:=by
  intro k hk;have e1:=Xo k hk;obtain⟨l1,g1⟩:=List.getElem?_eq_some_iff.1 e1;rw[List.idxOf?_eq_some_iff];refine⟨l1,by simp [g1],λj hj=>?_⟩;have OK:j<R.length:=by omega
  intro hb;have HO:R[j]=R.getD k 0:=by simpa using hb
  have:=(List.getElem_inj Z5).1 (HO.trans g1.symm);omega
 have DM:∀k,k<s'.length->σn (R.getD k 0)=σ' k:=λk hk=>by show (match R.idxOf? (R.getD k 0) with|some k=>σ' k|none=>σ (R.getD k 0))=σ' k;rw[T6 k hk]
 have Fs:∀id,id ∉ R->σn id=σ id:=λid dB=>by show (match R.idxOf? id with|some k=>σ' k|none=>σ id)=σ id;rw[List.idxOf?_eq_none_iff.2 dB]
 have mw:∀id,id∈R->∃k,k<s'.length/\id=R.getD k 0:=by intro id dB;obtain⟨k,hk⟩:=List.mem_iff_getElem?.1 dB;have aH:=(List.getElem?_eq_some_iff.1 hk).1;exact⟨k,by omega,by simp [List.getD,hk]⟩
 have sO:(s++List.replicate (s'.length-exts.length) hole).length=s.length+(s'.length-exts.length):=by simp
 have Jq:∀(k:Nat) (o:Obj),s'[k]?=some o->(aZ (s++List.replicate (s'.length-exts.length) hole) R (s'.map (bp R)))[R.getD k 0]?=some (bp R o):=by intro k o ho;have aH:k<s'.length:=(List.getElem?_eq_some_iff.1 ho).1;exact uo R _ _ k _ _ Z5 (Xo k aH) (by rw[adL,ho];rfl) (by rw[sO];exact YA k aH)
 have qM:∀id,id ∉ R->(aZ (s++List.replicate (s'.length-exts.length) hole) R (s'.map (bp R)))[id]?=s[id]?:=λid dB=>by
  rw[fV R _ _ id dB];rcases adV id s.length with h1|h1
  ·rw[adM h1]
  ·rw[List.getElem?_eq_none h1];refine List.getElem?_eq_none ?_;rw[sO];rcases adV id (s.length+(s'.length-exts.length)) with h2|h2
   ·exfalso;apply dB;have e1:=Ue (exts.length+(id-s.length)) (by omega) (by omega);have e2:=Xo (exts.length+(id-s.length)) (by omega);rw[e1]at e2;have e3:s.length+(exts.length+(id-s.length)-exts.length)=id:=by omega
    rw[e3]at e2;exact adw e2
   ·exact h2
 have UI:∀id o,id∈R->s[id]?=some o->∃k,k<exts.length/\id=R.getD k 0/\id=ρ.getD k 0:=by
  intro id o dB ho;obtain⟨k,hk,rfl⟩:=mw id dB;rcases adV k exts.length with h1|h1
  ·exact⟨k,h1,rfl,Nz k h1⟩
  ·rw[Ue k h1 hk]at ho;have:=(List.getElem?_eq_some_iff.1 ho).1;omega
 have ug:∀(k:Nat) (o:Obj),k<s'.length->(aZ (s++List.replicate (s'.length-exts.length) hole) R (s'.map (bp R)))[R.getD k 0]?=some o->∃o',s'[k]?=some o'/\o=bp R o':=by
  intro k o aH ho;have bo:k<s'.length:=by omega
  have:=Jq k s'[k] (by simp [bo]);rw[ho]at this;exact⟨s'[k],by simp [bo],by simpa using this⟩
 have ga:∀b,b<w.heap.size->Own σ s b->¬rn b->w'.heap[b]?=w.heap[b]?:=λb hb h1 h2=>hE.ga b hb ⟨h1,h2⟩;have Ah:∀b,σ.base b->¬rn b:=by rintro b hb ⟨k,base,aH,h3⟩;exact hI.apart _ _ b base (Ef k aH) h3 hb
 have ph:∀id o b base,id ∉ R->s[id]?=some o->σ id=some (b,base)->o.live=true->¬rn b:=by rintro id o b base dB ho h1 x9 ⟨k,cr,aH,h3⟩;have:=hI.inj id _ o _ b base cr ho (Ef k aH) x9 h1 h3;exact dB (by rw[this,<- Nz k aH];exact adw (Xo k (by omega)))
 have Ox:∀b,Own σn (aZ (s++List.replicate (s'.length-exts.length) hole) R (s'.map (bp R))) b->Own σ' s' b:=by
  rintro b (hb|⟨id,o,base,h1,h2,h3⟩)
  ·left;rw[hE.base];exact⟨.inl hb,Ah b hb⟩
  ·by_cases dB:id∈R
   ·obtain⟨k,aH,rfl⟩:=mw id dB;obtain⟨o',g1,rfl⟩:=ug k o aH h1;rw[DM k aH]at h3;exact .inr ⟨k,o',base,g1,h2,h3⟩
   ·rw[qM id dB]at h1;rw[Fs id dB]at h3;left;rw[hE.base];exact⟨.inr ⟨id,o,base,h1,h2,h3⟩,ph id o b base dB h1 h3 h2⟩
 have SN:aW σ s w σn (aZ (s++List.replicate (s'.length-exts.length) hole) R (s'.map (bp R))) w':=by
  refine⟨hE.os,hE.tape,hE.output,hE.size,λb hb ho=>hE.bO b hb λh'=>ho (wu b h'),λb arr E ho hh=>hE.shape b arr E (Nb b ho) hh,λb ho hm=>hE.rG b (Nb b ho) hm,λb hb=>?_,λid o ho=>?_,rfl,
   λb hb hf=>ga b hb (.inl hf) (Ah b hf)⟩
  ·rcases hE.own b (Ox b hb) with h'|h'
   ·exact .inl (wu b h')
   ·exact .inr h'
  ·by_cases dB:id∈R
   ·obtain⟨k,aH,oG,AT⟩:=UI id o dB ho;rw[AT,Ef k aH]at ho;simp only[adp]at ho;subst ho;obtain⟨o',g1,g2,g3⟩:=hE.aB k exts[k] (by simp [aH]);refine⟨bp R o',by rw[oG];exact Jq k o' g1,g2,λhe=>?_⟩;obtain⟨e1,e2⟩:=g3 he;refine⟨e1,?_⟩;have e3:σn id=σ' k:=by rw[oG];exact DM k (by omega)
    rw[e3,e2,CH k aH,AT]
   ·exact⟨o,by rw[qM id dB];exact ho,adB _,λ_=>⟨rfl,Fs id dB⟩⟩
 have up:∀{x:V}{u:Value},aG σ' s' w' x u->aG σn (aZ (s++List.replicate (s'.length-exts.length) hole) R (s'.map (bp R))) w' (aX R x) u:=λhr =>
  Oh Ox Jq (λk hk=>DM k (by omega)) hr
 have hIn:Inv σn (aZ (s++List.replicate (s'.length-exts.length) hole) R (s'.map (bp R))) w':=by
  refine⟨λid o ho=>?_,λid kt o o' b base cr h1 h2 h3 h4 h5=>?_,λb hb=>Nat.lt_of_lt_of_le (hI.low b hb) hE.size,λid o b base h1 h2 hb=>?_⟩
  ·by_cases dB:id∈R
   ·obtain⟨k,aH,rfl⟩:=mw id dB;obtain⟨o',g1,rfl⟩:=ug k o aH ho;rw[DM k aH];rcases gS.content k o' g1 with c1|⟨b,base,arr,E,c1,c2,c3,c4,c5⟩
    ·exact .inl c1.up
    ·refine .inr ⟨b,base,arr,E,c1,c2,λe he=>?_,by simpa [bp]using c4,λi j y hy=>?_⟩
     ·obtain⟨e',lu,rfl⟩:=List.mem_map.1 he;rw[ia];simpa [bp]using c3 e' lu
     ·obtain⟨x,hx,rfl⟩:=EF hy;obtain⟨u,k1,k2,k3⟩:=c5 i j x hx;exact⟨u,k1,k2,up k3⟩
   ·rw[qM id dB]at ho;rw[Fs id dB];refine tB.bF (p:=σ id) SN (λb base hb=>?_) (hI.content id o ho);have aH:=hI.lt ho hb;by_cases hO:Own σ s b
    ·by_cases x9:o.live=true
     ·exact ga b aH hO (ph id o b base dB ho hb x9)
     ·exfalso;rcases hO with hO|⟨kt,o',cr,g1,g2,g3⟩
      ·exact hI.apart id o b base ho hb hO
      ·have:=hI.inj kt id o' o b cr base g1 ho g2 g3 hb;subst this;rw[ho]at g1;cases g1;exact x9 g2
    ·exact hE.bO b aH λh'=>hO (wu b h')
  ·by_cases dB:id∈R <;> by_cases uC:kt∈R
   ·obtain⟨k,aH,rfl⟩:=mw id dB;obtain⟨k',bo,rfl⟩:=mw kt uC;obtain⟨p,g1,rfl⟩:=ug k o aH h1;obtain⟨p',Tl,rfl⟩:=ug k' o' bo h2;rw[DM k aH]at h4;rw[DM k' bo]at h5;rw[gS.inj k k' p p' b base cr g1 Tl h3 h4 h5]
   ·exfalso;obtain⟨k,aH,rfl⟩:=mw id dB;obtain⟨p,g1,rfl⟩:=ug k o aH h1;rw[DM k aH]at h4;rw[qM kt uC]at h2;rw[Fs kt uC]at h5;have za:=hI.lt h2 h5;have hO:Own σ s b:=by
     rcases hE.own b (.inr ⟨k,p,base,g1,h3,h4⟩) with h'|h'
     ·exact wu b h'
     ·omega
    by_cases x9:o'.live=true
    ·exact gS.apart k p b base g1 h4 (by rw[hE.base];exact⟨hO,ph kt o' b cr uC h2 h5 x9⟩)
    ·rcases hO with hO|⟨YN,o2,PE,q1,q2,q3⟩
     ·exact hI.apart kt o' b cr h2 h5 hO
     ·have:=hI.inj YN kt o2 o' b PE cr q1 h2 q2 q3 h5;subst this;rw[h2]at q1;cases q1;exact x9 q2
   ·exfalso;obtain⟨k',bo,rfl⟩:=mw kt uC;obtain⟨p',Tl,rfl⟩:=ug k' o' bo h2;rw[DM k' bo]at h5;rw[qM id dB]at h1;rw[Fs id dB]at h4;exact gS.apart k' p' b cr Tl h5 (by rw[hE.base];exact⟨.inr ⟨id,o,base,h1,h3,h4⟩,ph id o b base dB h1 h4 h3⟩)
   ·rw[qM id dB]at h1;rw[qM kt uC]at h2;rw[Fs id dB]at h4;rw[Fs kt uC]at h5;exact hI.inj id kt o o' b base cr h1 h2 h3 h4 h5
  ·by_cases dB:id∈R
   ·obtain⟨k,aH,rfl⟩:=mw id dB;obtain⟨p,g1,rfl⟩:=ug k o aH h1;rw[DM k aH]at h2;exact gS.apart k p b base g1 h2 (by rw[hE.base];exact⟨.inl hb,Ah b hb⟩)
   ·rw[qM id dB]at h1;rw[Fs id dB]at h2;exact hI.apart id o b base h1 h2 hb
 exact⟨u,aX R v,σn,_,he,SN,hIn,up hR,hK⟩
def nh (ck:Nat) (s:List Obj) (o:Obj):Option Obj:=(o.aI.mapM (bf.go ck s)).map λaI=>{ o with aI:=aI }
theorem v8 {α β:Type}{f:α->Option β}:∀{l:List α}{r:List β},l.mapM f=some r->r.length=l.length/\(∀(i:Nat) (y:β),r[i]?=some y->∃x,l[i]?=some x/\f x=some y)/\∀(i:Nat) (x:α),l[i]?=some x->∃y,r[i]?=some y/\f x=some y
 |[],r,h=>by simp at h;subst h;simp
 |a::l,r,h=>by
  simp only[List.mapM_cons,Option.bind_eq_bind,Option.pure_def]at h;cases ha:f a with
  |none=>rw[ha]at h;simp at h
  |some b =>
   rw[ha]at h;cases hl:l.mapM f with
   |none=>rw[hl]at h;simp at h
   |some bs =>
    rw[hl]at h;simp only[Option.bind_some,adp]at h;subst h;obtain⟨k1,k2,k3⟩:=v8 hl;refine⟨by simp [k1],λi y hy=>?_,λi x hx=>?_⟩
    ·cases i with
     |zero=>simp at hy;subst hy;exact⟨a,rfl,ha⟩
     |succ i=>simpa using k2 i y (by simpa using hy)
    ·cases i with
     |zero=>simp at hx;subst hx;exact⟨b,rfl,ha⟩
     |succ i=>simpa using k3 i x (by simpa using hx)
theorem sf{o o':Obj} (h:nh ck s o=some o'):o'.g=o.g/\o'.live=o.live/\o'.sz=o.sz/\o.aI.mapM (bf.go ck s)=some o'.aI:=by unfold nh at h;obtain⟨aI,h1,rfl⟩:=Option.map_eq_some_iff.1 h;exact⟨rfl,rfl,rfl,h1⟩
theorem PU{sF:List Obj} (hI:Inv σ s w) (h:(s.take ck).mapM (nh ck s)=some sF):aW σ (s.take ck) w σ sF w/\Inv σ sF w:=by
 obtain⟨m1,m2,m3⟩:=v8 h;have xb:∀b,Own σ sF b->Own σ (s.take ck) b:=by
  rintro b (hb|⟨id,o,base,h1,h2,h3⟩)
  ·exact .inl hb
  ·obtain⟨o0,k1,k2⟩:=m2 id o h1;obtain⟨_,e2,_,_⟩:=sf k2;exact .inr ⟨id,o0,base,k1,by rw[<- e2];exact h2,h3⟩
 have hE:aW σ (s.take ck) w σ sF w:=by refine⟨rfl,rfl,rfl,adB _,λ_ _ _=>rfl,λ_ arr _ _ h=>⟨arr,h,rfl⟩,λ_ _ h=>h,λb hb=>.inl (xb b hb),λid o ho=>?_,rfl,λ_ _ _=>rfl⟩;obtain⟨o',k1,k2⟩:=m3 id o ho;obtain⟨e1,_,e3,_⟩:=sf k2;exact⟨o',k1,by omega,λ_=>⟨e3,rfl⟩⟩
 have get:∀(id:Nat) (o:Obj),(s.take ck)[id]?=some o->s[id]?=some o:=by
  intro id o hh;rw[ad1]at hh;split at hh
  ·exact hh
  ·cases hh
 refine⟨hE,λid o ho=>?_,λid kt o o' b base cr h1 h2 h3 h4 h5=>?_,hI.low,λid o b base h1 h2=>?_⟩
 ·obtain⟨o0,k1,k2⟩:=m2 id o ho;obtain⟨e1,e2,e3,e4⟩:=sf k2;obtain⟨n1,n2,n3⟩:=v8 e4;rcases hI.content id o0 (get _ _ k1) with (⟨h1,h2⟩|⟨b,es,c,h1,h2,h3⟩)|⟨b,base,arr,E,h1,h2,h3,h4,h5⟩
  ·exact .inl (.inl ⟨h1,adJ (by rw[n1,h2];rfl)⟩)
  ·refine .inl (.inr ⟨b,es,c,h1,h2,?_⟩);rw[<- h3];refine List.ext_getElem? λi=>?_;cases hi:o0.aI[i]? with
   |none =>
    have:=List.getElem?_eq_none_iff.1 hi;exact List.getElem?_eq_none (by omega)
   |some x =>
    obtain⟨y,y1,y2⟩:=n3 i x hi;rw[y1];have hx:=hi;rw[h3]at hx;unfold kI at hx;rw[adL]at hx;obtain⟨en,_,rfl⟩:=Option.map_eq_some_iff.1 hx;simp only[bf.go,bf,adp]at y2;rw[<- y2]
  ·refine .inr ⟨b,base,arr,E,h1,h2,λe he=>?_,by rw[n1,e3];exact h4,λi j y hy=>?_⟩
   ·obtain⟨i,hi⟩:=List.mem_iff_getElem?.1 he;obtain⟨x,x1,x2⟩:=n2 i e hi;rw[(pX x2).1,e3];exact h3 x (adw x1)
   ·cases Ab:o.aI[i]? with
    |none=>rw[Ab]at hy;cases hy
    |some e =>
     rw[Ab]at hy;obtain⟨x,x1,x2⟩:=n2 i e Ab;obtain⟨v,v1,v2⟩:=(pX x2).2 j y hy;obtain⟨u,u1,u2,u3⟩:=h5 i j v (by rw[x1];exact v1);exact⟨u,by rw[e3];exact u1,u2,(iM hI u3 v2).bF hE⟩
 ·obtain⟨a,k1,k2⟩:=m2 id o h1;obtain⟨a',k1',XA⟩:=m2 kt o' h2;exact hI.inj id kt a a' b base cr (get _ _ k1) (get _ _ k1') (by rw[<- (sf k2).2.1];exact h3) h4 h5
 ·obtain⟨a,k1,k2⟩:=m2 id o h1;exact hI.apart id a b base (get _ _ k1) h2
def wQ (ck:Nat) (s:List Obj) (r:V) (K:V->List Obj->Prop):Prop :=
 match (s.take ck).mapM (nh ck s),bf ck s r with
 |some sF,some r'=>K r' sF
 |_,_=>False
def tj (P:Program) (rs:List ResultVar) (ck:Nat) (K:V->List Obj->Prop) (ex:Exit) (e:Env) (s:List Obj):Prop:=yl ex/\An P rs e s λr=>wQ ck s r K
theorem Ai {P : Program} {f : FuncId} {fn : Func} {c : Code} {args : List V} {exts : List Obj} {K : V → List Obj → Prop} (hf : P.funcs[f]? = some fn) (hb : fn.body = some c) {N : Nat} (hN : fn.ntmps = N) {rs : Array ResultVar} (Tq : fn.results = rs) (hn : (fn.name != "runtime.NumGoroutine") = true)
  (ck M:Nat) (hl:exts.length<=ck) (ha:args.length<=N)
  (h:codeWp P N ck M c (tj P rs.toList ck K) (iQ args) exts):au P f args exts K:=by
 subst hN;subst Tq;refine⟨by simp only[Iq,hf,hn,hb,Option.isSome_some,Bool.and_self],λσ w vals hI Un hv=>?_⟩;refine calls_of_wp hf hb ?_;have hR:fj σ exts w fn.ntmps (iQ args) { tmps:=vals++Array.replicate (fn.ntmps-vals.size) undef,defers:=[] }:=by
  refine⟨rfl,by simp;omega,λt=>?_⟩;rw[oC];by_cases ht:t<args.length
  ·have h1:=hv t args[t] (by simp [ht]);have:(vals++Array.replicate (fn.ntmps-vals.size) undef).getD t undef=vals.getD t undef:=by rw[adH,Array.getElem?_append_left (by omega),adH]
   rw[this];simpa [ht]using h1
  ·have:(vals++Array.replicate (fn.ntmps-vals.size) undef).getD t undef=undef:=by rw[adH,Array.getElem?_append_right (by omega),Array.getElem?_replicate];split <;> rfl
   rw[this];simp [ht];exact .un
 refine wp_mono (dC hl c _ (iQ args) exts σ w _ (aW.refl _ _ _) hI hR h) λex a' w' ⟨e',σ',s',hE,gS,jb,hex,hq⟩=>?_;obtain⟨v,u,k1,k2,k3⟩:=nF gS jb hq;unfold wQ at k3;have fin:a'.defers=[]/\∃v,(results fn a'.tmps).run P w'=.ok v w'/\∃u Ob uj pP,Ending.returned v=.returned u/\aW σ exts w uj pP w'/\Inv uj pP w'/\aG uj pP w' Ob u/\K Ob pP:=by
  refine⟨jb.1,u,k1,?_⟩;split at k3
  ·rename_i sF r' hsF Qi;obtain⟨q1,q2⟩:=PU gS hsF;exact⟨u,r',σ',sF,rfl,(hE.take hl).trans q1,q2,(iM gS k2 Qi).bF q1,k3⟩
  ·exact k3.elim
 rcases rM hex with rfl|rfl
 ·exact fin
 ·exact fin
def QZ:V->V
 |.pp _ _ _ _ b a=>.d (.sc (.pointer (some ⟨b,a,none⟩)))
 |v=>v
theorem Ls{x:V}{u:Value} (h:aG σ s w x u):aG σ s w (QZ x) u:=by
 unfold QZ;split
 ·rw[h.Ay];exact .d (.sc _ rfl)
 ·exact h
theorem Ow{K:V->List Obj->Prop} (h:au P f (args.map QZ) s K):au P f args s K:=by refine⟨h.1,λσ w vals hI hl hv=>h.2 σ w vals hI (by simpa using hl) λi x hx=>?_⟩;rw[adL]at hx;obtain⟨y,hy,rfl⟩:=Option.map_eq_some_iff.1 hx;exact Ls (hv i y hy)
def oZ (P:Program) (t:TypeId) (a x:V) (s:List Obj) (K:V->List Obj->Prop):Prop :=
 match lS P t with
 |none=>False
 |some (_,i)=>match iX s x with
  |none=>False
  |some ns=>((∀e∈ns,e.length=i.sz)/\0<i.sz/\0<i.F2/\0<ns.length)/\match a with
   |.so id g lo n=>sh s id g λo=>(o.live=true/\o.sz=i.sz/\lo+n<=o.aI.length/\(n+ns.length)*i.F2<=140737488355328) /\
     K (.so id g lo (n+ns.length)) (s.set id ⟨g,true,i.sz,o.aI.take (lo+n)++ns++o.aI.drop (lo+n+ns.length)⟩) /\
     K (.so s.length 0 0 (n+ns.length)) (s++[⟨0,true,i.sz,(o.aI.drop lo).take n++ns⟩])
   |_=>False
theorem Bh{a x:V}{ua ux:Value}{K:V->List Obj->Prop} (hI:Inv σ s w) (ha:aG σ s w a ua) (hx:aG σ s w x ux)
  (h:oZ P t a x s K):∃v r σ' s' w',(Builtin.append_ #[t,t] ty #[ua,ux]).run P w=.ok r w'/\aW σ s w σ' s' w'/\Inv σ' s' w'/\aG σ' s' w' v r/\K v s':=by
 unfold oZ at h;split at h
 ·exact h.elim
 rename_i e i Nw;obtain⟨hu,hi⟩:=mA Nw;split at h
 ·exact h.elim
 rename_i ns xA;obtain⟨⟨hz,dx,Ys,Wa⟩,h⟩:=h;obtain⟨ti,d,z,k1,k2,k3,k4,k5,k6,k7,k8,k9⟩:=iC hi;obtain⟨ax,yj,rfl,Eg,VJ,news,n1,n2,n3,n4⟩:=kM hI hx xA hz;have Te:z.cells.size=i.sz:=by rw[<- Array.length_toList,k6,k7]
 have tP:Src P ti.size t (.slice ax ns.length yj) ns.length news w:=by
  rw[k4];cases ax with
  |none =>
   have:ns=[]:=Eg rfl;subst this;simp at Wa
  |some ad=>exact Src.ofSlice w hu ad ns.length yj news n1 (n3 ad rfl) n2
 obtain⟨Tv,Wc⟩:=qY hI;split at h
 case h_2=>exact h.elim
 rename_i id g lo n;obtain⟨o,ho,hg,⟨qX,Lb,hlo,hb⟩,hA,hB⟩:=ep h;have oA:iX s (.so id g lo n)=some ((o.aI.drop lo).take n):=by simp [iX,ho,hg,hlo]
 have m9:((o.aI.drop lo).take n).length=n:=by simp;omega
 have YJ:∀e∈o.aI,e.length=i.sz:=by
  intro e lu;rcases hI.content _ o ho with h0|⟨b,base,arr,E,h1,h2,h3,h4,h5⟩
  ·cases ha with|so o' mo CP Q2 hk=>?_
   rw[ho]at mo;cases mo;rcases hk hg with ⟨fW,_⟩|⟨b,bs,cp,E,arr,eC,hh,_⟩
   ·rw[h0.KI fW]at lu;cases lu
   ·exact(h0.CW eC ⟨arr,E,hh⟩).elim
  ·rw[<- Lb];exact h3 e lu
 have TE:∀e∈(o.aI.drop lo).take n,e.length=i.sz:=λe he=>YJ e (List.mem_of_mem_drop (List.mem_of_mem_take he));obtain⟨base,cap,Ec,a1,a2,kH,o1,o2,o3,o4⟩:=kM hI ha oA TE;rw[m9]at Ec a2;cases ha with|so o' mo CP Q2 hk=>?_
 rw[ho]at mo;cases mo;have uB:=hk hg;by_cases fS:cap<n+ns.length
 ·-- it Sq
  have hold:(Builtin.firstCells ti.size n (.slice base n cap)).run P w.drew=.ok kH.toArray w.drew:=by
   rw[k4];cases base with
   |none =>
    have he:(o.aI.drop lo).take n=[]:=a1 rfl;rw[he]at o1 m9;have nq:n=0:=by simpa using m9.symm
    have hn:kH=[]:=adJ (by simpa using o1);subst nq hn;exact run_firstCells_none w.drew i.sz 0 0 cap
   |some ad=>exact run_firstCells_some w.drew i.sz n ad n cap kH (by rw[o1,m9]) (by simpa using o3 ad rfl)
  have hle:n+ns.length<=(n+ns.length)*i.F2:=Nat.le_mul_of_pos_right _ Ys;have dJ:=run_append_grow_src (P:=P) w t t ty e ti z hu k1 k3 base n cap kH hold (.slice ax ns.length yj) ns.length news tP fS (by omega) (growslice_fits fS (by rw[k5];exact hb));have iP:=grownCap_ge w (n+ns.length) cap e;subst Ec;generalize grownCap w (n+ns.length) cap e=np at *;have gf:((kH++news).toArray++Builtin.zeroCells z.cells (np - (n+ns.length))).size=np*i.sz:=by simp only[Array.size_append,List.size_toArray,size_zeroCells,adx,o1,n1,Te,m9];rw[<- Nat.add_mul,<- Nat.add_mul];congr 1;omega
  have kK:∀(i' j:Nat) (y:V),(((o.aI.drop lo).take n++ns)[i']?.bind (·[j]?))=some y->∃c,((kH++news).toArray++Builtin.zeroCells z.cells (np - (n+ns.length)))[i'*i.sz+j]?=some c/\c.oneCell'=true/\aG σ s w y c:=by intro i' j y hy;obtain⟨c,c1,c2,c3⟩:=rp o1 o4 n4 i' j y hy;exact⟨c,Ca c1,c2,c3⟩
  generalize (kH++news).toArray++Builtin.zeroCells z.cells (np - (n+ns.length))=arr at *;have:=sd (aI:=(o.aI.drop lo).take n++ns) (sz:=i.sz) (arr:=arr) Wc e (λe he=>(List.mem_append.1 he).elim (TE e) (hz e)) (by rw[gf,adx,m9];exact aeb _ iP)
   (λi' j y hy=>let ⟨c,c1,c2,c3⟩:=kK i' j y hy;⟨c,c1,c2,c3.bF Tv⟩)
  refine⟨_,_,_,_,_,dJ,Tv.trans this.1,this.2,?_,hB⟩;exact .so ⟨0,true,i.sz,(o.aI.drop lo).take n++ns⟩ (by simp) (adB _) rfl (λ_=>.inr ⟨w.heap.size,0,np,e,arr,cg _ _ _,heap_alloc_new w.drew _,by simp,iP,by simp [gf]⟩)
 ·-- there is room
  have qF:n+ns.length<=cap:=by omega
  rcases uB with ⟨fW,⟨aa,vH⟩,rfl,rfl⟩|⟨b,bs,cp,E,arr,eC,hh,vH,uA,hfit⟩
  ·rw[Ec]at vH;simp only[Value.slice.injEq]at vH;omega
  rw[Ec]at vH;simp only[Value.slice.injEq]at vH;obtain⟨rfl,_,rfl⟩:=vH;subst Ec;generalize i.sz=Z at *;subst Lb;obtain⟨bb,bs',abV,E2,q1,q2,q3,q4,q5⟩:∃b base arr E,σ id=some (b,base)/\w.heap[b]?=some (.cells arr E (0,0))/\(∀e∈o.aI,e.length=o.sz)/\base+o.aI.length*o.sz<=arr.size /\
    ∀i j x,(o.aI[i]?.bind (·[j]?))=some x->∃u,arr[base+i*o.sz+j]?=some u/\u.oneCell'=true/\aG σ s w x u:=by
   rcases hI.content _ o ho with h0|h0
   ·exact(h0.CW eC ⟨arr,E,hh⟩).elim
   ·exact h0
  rw[eC]at q1;simp only[adp,ad3]at q1;obtain⟨rfl,rfl⟩:=q1;rw[hh]at q2;simp only[adp,Go.Obj.cells.injEq]at q2;obtain⟨rfl,rfl,_⟩:=q2;generalize hS:bs+(lo+n)*o.sz=S at *;have Zr:bs+lo*o.sz+n*o.sz=S:=by rw[<- hS,Nat.add_mul];omega
  have hq:S+news.length<=arr.size:=by rw[n1,<- hS];have e1:(lo+cap)*o.sz=lo*o.sz+cap*o.sz:=Nat.add_mul _ _ _;have e2:=aeb o.sz qF;rw[Nat.add_mul]at e2;rw[Nat.add_mul];omega
  have aU:=run_storeCells_at P b S E news 0 arr w hh (by omega) n2;simp only[Nat.add_zero]at aU;generalize nr:(arr.toList.take S++news++arr.toList.drop (S+news.length)).toArray=cH at aU;have iA:cH.size=arr.size:=by rw[<- nr];simp;omega
  have Z4:(arr.toList.take S).length=S:=by simp;omega
  have aH:∀p,p<S->cH[p]?=arr[p]?:=by intro p hp;rw[<- nr,List.getElem?_toArray,adX,adM (by simp;omega),ad1,ap hp,aed]
  have tD:∀q,q<news.length->cH[S+q]?=news[q]?:=by intro q Io;rw[<- nr,List.getElem?_toArray,adX,adN (by omega),Z4,adM (by omega)];congr 1;omega
  have Yn:∀p,S+news.length<=p->cH[p]?=arr[p]?:=by intro p hp;rw[<- nr,List.getElem?_toArray,adX,adN (by omega),Z4,adN (by omega),List.getElem?_drop,aed];congr 1;omega
  have hEl:∀e∈o.aI.take (lo+n)++ns++o.aI.drop (lo+n+ns.length),e.length=o.sz:=by
   intro e he;rcases List.mem_append.1 he with he|he
   ·rcases List.mem_append.1 he with he|he
    ·exact YJ e (List.mem_of_mem_take he)
    ·exact hz e he
   ·exact YJ e (List.mem_of_mem_drop he)
  have SN:bs+(o.aI.take (lo+n)++ns++o.aI.drop (lo+n+ns.length)).length*o.sz<=arr.size:=by
   have hl:(o.aI.take (lo+n)++ns++o.aI.drop (lo+n+ns.length)).length=max (lo+n+ns.length) o.aI.length:=by simp only[adx,ad5,List.length_drop];omega
   rw[hl];rcases Nat.le_total (lo+n+ns.length) o.aI.length with h'|h'
   ·rw[Nat.max_eq_right h'];exact q4
   ·rw[Nat.max_eq_left h'];have e3:(lo+n+ns.length)*o.sz<=(lo+cap)*o.sz:=aeb _ (by omega);omega
  have:=la (p:=some (b,bs)) (o':=⟨g,true,o.sz,o.aI.take (lo+n)++ns++o.aI.drop (lo+n+ns.length)⟩) (w':=w.setRow b cH) hI ho qX rfl rfl rfl (by simp)
   (λb1 _ fG=>setRow_other w b b1 cH (λe=>fG bs (by rw[eC,e])))
   (λb1 jk TY E1 he P8=>by
    rw[eC]at he;cases he;rw[hh]at P8;cases P8;exact⟨cH,setRow_heap w b arr cH E (0,0) hh,iA⟩)
   (λb1 jk he hm=>by
    rw[eC]at he;cases he;exact(HP.notM ⟨arr,E,hh⟩ hm).elim)
   (by simp only;omega) (λ_=>⟨rfl,eC.symm⟩) (λb1 jk he=>by cases he;exact .inl ⟨bs,eC⟩)
   (λhE=>.inr ⟨b,bs,cH,E,rfl,setRow_heap w b arr cH E (0,0) hh,hEl,by rw[iA];exact SN,λi' j y hy=>by
    simp only at hy ⊢;obtain⟨el,G5,hj⟩:∃el,(o.aI.take (lo+n)++ns++o.aI.drop (lo+n+ns.length))[i']?=some el/\el[j]?=some y:=by
     cases Io:(o.aI.take (lo+n)++ns++o.aI.drop (lo+n+ns.length))[i']? with
     |none=>rw[Io]at hy;cases hy
     |some el=>rw[Io]at hy;exact⟨el,rfl,hy⟩
    have Xj:j<o.sz:=by have:=(List.getElem?_eq_some_iff.1 hj).1;rwa [hEl el (adw G5)]at this
    have Up:(o.aI.take (lo+n)).length=lo+n:=by simp;omega
    by_cases c1:i'<lo+n
    ·rw[adX,adM (by omega),ad1,ap c1]at G5;obtain⟨u,u1,u2,u3⟩:=q5 i' j y (by rw[G5];exact hj);have rm:(i'+1)*o.sz<=(lo+n)*o.sz:=aeb _ (by omega);rw[Nat.add_mul,Nat.one_mul]at rm;exact⟨u,by rw[aH _ (by omega)];exact u1,u2,u3.bF hE⟩
    ·by_cases c2:i'<lo+n+ns.length
     ·rw[adX,adN (by omega),Up,adM (by omega)]at G5;obtain⟨c,d1,d2,d3⟩:=n4 (i' - (lo+n)) j y (by rw[G5];exact hj);have hql:=(List.getElem?_eq_some_iff.1 d1).1;have hix:bs+i'*o.sz+j=S+((i' - (lo+n))*o.sz+j):=by
       rw[<- hS,Nat.add_assoc bs,<- Nat.add_assoc bs,Nat.add_assoc,Nat.add_assoc];have:i'*o.sz=(lo+n)*o.sz+(i' - (lo+n))*o.sz:=by rw[<- Nat.add_mul];congr 1;omega
       omega
      exact⟨c,by rw[hix,tD _ hql];exact d1,d2,d3.bF hE⟩
     ·rw[adN (by simp only[adx,Up];omega),List.getElem?_drop]at G5;have ym:o.aI[i']?=some el:=by rw[<- G5];congr 1;simp only[adx,Up];omega
      obtain⟨u,u1,u2,u3⟩:=q5 i' j y (by rw[ym];exact hj);have rm:(lo+n+ns.length)*o.sz<=i'*o.sz:=aeb _ (by omega);rw[Nat.add_mul]at rm;exact⟨u,by rw[Yn _ (by rw[n1];omega)];exact u1,u2,u3.bF hE⟩⟩)
  have hup:m7 σ id (some (b,bs)) id=some (b,bs):=cg _ _ _;refine⟨_,.slice (some ⟨b,bs+lo*o.sz,none⟩) (n+ns.length) cap,_,_,w.setRow b cH,?_,this.1,this.2,?_,hA⟩
  ·have lT:=tP.cells;rw[k4]at lT;rw[<- Zr]at aU;simp [Builtin.append_,run_underlying hu,sizeOf,typeInfo,k1,Builtin.lenOf,qF,lT,k4,Addr.add_lit,aU]
  ·exact .so ⟨g,true,o.sz,o.aI.take (lo+n)++ns++o.aI.drop (lo+n+ns.length)⟩ (by simp [(List.getElem?_eq_some_iff.1 ho).1]) (adB _) rfl
    (λ_=>.inr ⟨b,bs,cap,E,cH,hup,setRow_heap w b arr cH E (0,0) hh,rfl,qF,by rw[iA];exact hfit⟩)
def ki (P:Program) (o:Oper) (e:Env) (s:List Obj) (K:V->List Obj->Prop):Prop :=
 match o.op with
 |.call c=>match c.callee,c.args.toList,c.argTypes.toList with
  |.builtin .append,[a,x],[t,t']=>t=t'/\oZ P t (ev e a) (ev e x) s K
  |_,_,_=>cP P o e s K
 |_=>cP P o e s K
theorem Gx{o:Oper}{e:Nat->V}{a:Act}{K:V->List Obj->Prop} (hI:Inv σ s w) (hR:fj σ s w N e a) (h:ki P o e s K):qE P o σ s w a K:=by
 unfold ki at h;split at h
 ·rename_i c hc;split at h
  ·rename_i x y t t' h0 h1 h2;obtain⟨dst,op,ty,pos,after,guard⟩:=o;simp only at hc;subst hc;obtain⟨callee,args,argTypes⟩:=c;simp only at h0 h1 h2;subst h0;have e1:args=#[x,y]:=by rw[<- h1]
   have e2:argTypes=#[t,t']:=by rw[<- h2]
   subst e1 e2;obtain⟨rfl,h⟩:=h;obtain⟨v,r,σ',s',w',k1,k2,k3,k4,k5⟩:=Bh (ty:=ty) hI (hR.ev x) (hR.ev y) h;exact fB (by simp [execOp,resolve,invoke,builtin,k1]) k2 k3 k4 k5
  ·exact qc hI hR h
 ·exact qc hI hR h
def mU (P:Program) (N:Nat) (full:List Oper):List Oper->Env->List Obj->(Env->List Obj->Prop)->Prop
 |[],e,s,K=>K e s
 |o::rest,e,s,K=>dY N o.dst/\match o.guard with
  |none=>ki P o e s λv s'=>mU P N full rest (fZ e o.dst v) s' K
  |some (g,want)=>jq (jR full g) e want (λe=>ki P o e s λv s'=>mU P N full rest (fZ e o.dst v) s' K) (λe=>mU P N full rest (fZ e o.dst .un) s K)
theorem py {P:Program}{N:Nat}{full:List Oper}{σ0:Gh}{s0:List Obj}{w0:World}{Q:Exit->Env->List Obj->Prop}:∀(l:List Oper) (e:Env) (s:List Obj) (σ:Gh) (w:World) (a:Act),
  aW σ0 s0 w0 σ s w->Inv σ s w->fj σ s w N e a->mU P N full l e s (λe s=>Q .normal e s)->wpList P full.toArray (QX σ0 s0 w0 N Q) l a w
 |[],e,s,σ,w,a,hE,hI,hR,h=>⟨e,σ,s,hE,hI,hR,h⟩
 |o::rest,e,s,σ,w,a,hE,hI,hR,h=>by
  obtain⟨hd,h⟩:=h;have run:∀e,fj σ s w N e a->(ki P o e s λv s'=>mU P N full rest (fZ e o.dst v) s' λe s=>Q .normal e s)->o.wp P a w (wpList P full.toArray (QX σ0 s0 w0 N Q) rest) (QX σ0 s0 w0 N Q):=by intro e hR h;refine Oper.wp_mono (λa' w' ⟨u,v,σ',s',ha,oI,gS,jb,hK⟩=>?_) (Oper.C9 (Gx hI hR h));subst ha;exact py rest _ s' σ' w' _ (hE.trans oI) gS ((hR.bF oI).put hd jb) hK
  unfold wpList;split at h
  ·rename_i hg;rw[ap (by simp [Region.wanted,hg])];exact .inl (run e hR h)
  ·rename_i g want hg;obtain⟨e',jb,⟨h1,h2⟩|⟨h1,h2⟩⟩:=pR hR hg h
   ·rw[ap h1];exact .inl (run e' jb h2)
   ·rw[am (by rw[h1];decide)];exact py rest _ s σ w _ hE hI (jb.put hd .un) h2
def dh (P:Program) (N L M:Nat) (R:List Nat):Code->(Exit->Env->List Obj->Prop)->Env->List Obj->Prop
 |.skip,Q,e,s=>Q .normal e s
 |.region id ops draw,Q,e,s=>match draw with
  |false=>if R.contains id=true then mU P N ops.toList ops.toList e s λe s=>Q .normal e s else ma P N ops.toList ops.toList e s λe s=>Q .normal e s
  |true=>qG P N ops.toList e s λe s=>Q .normal e s
 |.seq a b,Q,e,s=>dh P N L M R a (sY (dh P N L M R b Q) Q) e s
 |.cond c a b,Q,e,s=>n7 (ev e c) (dh P N L M R a Q (lJ M e) s) (dh P N L M R b Q (lJ M e) s)
 |.block id c,Q,e,s=>dh P N L M R c (DF id Q) e s
 |.loop c,Q,e,s=>O0 L (dh P N L M R c) Q e s
 |.exit id,Q,e,s=>Q (.exit id) e s
 |.ret,Q,e,s=>Q .ret e s
 |_,_,_,_=>False
def R7 (P:Program) (N:Nat) (full rest:List Oper) (e:Env) (d:Option Nat) (K:Env->List Obj->Prop) (v:V) (s:List Obj):Prop:=mU P N full rest (fZ e d v) s K
theorem Ck{K:Env->List Obj->Prop}{v:V}:R7 P N full rest e d K v s=mU P N full rest (fZ e d v) s K:=(rfl)
theorem EA{K:Env->List Obj->Prop}:mU P N full [] e s K=K e s:=(rfl)
theorem Ci{op:Op}{K:Env->List Obj->Prop}:mU P N full (⟨d,op,ty,pos,af,none⟩::rest) e s K=(dY N d/\ki P ⟨d,op,ty,pos,af,none⟩ e s (R7 P N full rest e d K)):=(rfl)
theorem Av{Q:Exit->Env->List Obj->Prop}:dh P N L M R .skip Q e s=Q .normal e s:=(rfl)
theorem pY{Q:Exit->Env->List Obj->Prop}:dh P N L M R (.region id ops false) Q e s=(if R.contains id=true then mU P N ops.toList ops.toList e s (Qn Q) else ma P N ops.toList ops.toList e s (Qn Q)):=(rfl)
theorem zw{Q:Exit->Env->List Obj->Prop}:dh P N L M R (.region id ops true) Q e s=qG P N ops.toList e s (Qn Q):=(rfl)
theorem wT{Q:Exit->Env->List Obj->Prop}{a:Code}:dh P N L M R (.seq a b) Q e s=dh P N L M R a (sY (dh P N L M R b Q) Q) e s:=(rfl)
theorem AP{Q:Exit->Env->List Obj->Prop}{c:Operand}{a:Code}:dh P N L M R (.cond c a b) Q e s=lz (ev e c) (dh P N L M R a Q) (dh P N L M R b Q) (lJ M e) s:=(rfl)
theorem xR{Q:Exit->Env->List Obj->Prop}:dh P N L M R (.block id c) Q e s=dh P N L M R c (DF id Q) e s:=(rfl)
theorem zc{Q:Exit->Env->List Obj->Prop}:dh P N L M R (.exit id) Q e s=Q (.exit id) e s:=(rfl)
theorem Cq{Q:Exit->Env->List Obj->Prop}:dh P N L M R .ret Q e s=Q .ret e s:=(rfl)
theorem G8{e:Nat->V}{K:V->List Obj->Prop}:ki P ⟨d,.move x,ty,pos,af,g⟩ e s K=cP P ⟨d,.move x,ty,pos,af,g⟩ e s K:=(rfl)
theorem At{e:Nat->V}{K:V->List Obj->Prop}:ki P ⟨d,.assign x,ty,pos,af,g⟩ e s K=cP P ⟨d,.assign x,ty,pos,af,g⟩ e s K:=(rfl)
theorem JI{e:Nat->V}{K:V->List Obj->Prop}:ki P ⟨d,.nilCheck x,ty,pos,af,g⟩ e s K=cP P ⟨d,.nilCheck x,ty,pos,af,g⟩ e s K:=(rfl)
theorem ts{e:Nat->V}{K:V->List Obj->Prop}{f:Nat}:ki P ⟨d,.fieldAddr t x f,ty,pos,af,g⟩ e s K=cP P ⟨d,.fieldAddr t x f,ty,pos,af,g⟩ e s K:=(rfl)
theorem EV{e:Nat->V}{K:V->List Obj->Prop}:ki P ⟨d,.load t a,ty,pos,af,g⟩ e s K=cP P ⟨d,.load t a,ty,pos,af,g⟩ e s K:=(rfl)
theorem rl{e:Nat->V}{K:V->List Obj->Prop}{n:Nat}{parts:Array (Nat×Operand)}:ki P ⟨d,.buildSlice t n parts,ty,pos,af,g⟩ e s K=cP P ⟨d,.buildSlice t n parts,ty,pos,af,g⟩ e s K:=(rfl)
theorem tq{e:Nat->V}{K:V->List Obj->Prop}{i:Operand}:ki P ⟨d,.indexAddr t x i,ty,pos,af,g⟩ e s K=cP P ⟨d,.indexAddr t x i,ty,pos,af,g⟩ e s K:=(rfl)
theorem K2{e:Nat->V}{K:V->List Obj->Prop}{op:BinOp}{y:Operand}:ki P ⟨d,.binOp op t x y t',ty,pos,af,g⟩ e s K=cP P ⟨d,.binOp op t x y t',ty,pos,af,g⟩ e s K:=(rfl)
theorem GZ{e:Nat->V}{K:V->List Obj->Prop}{op:UnOp}:ki P ⟨d,.unOp op t x,ty,pos,af,g⟩ e s K=cP P ⟨d,.unOp op t x,ty,pos,af,g⟩ e s K:=(rfl)
theorem B8{e:Nat->V}{K:V->List Obj->Prop}:ki P ⟨d,.store t a x,ty,pos,af,g⟩ e s K=cP P ⟨d,.store t a x,ty,pos,af,g⟩ e s K:=(rfl)
theorem ET{e:Nat->V}{K:V->List Obj->Prop}{f:Operand}{args:Array Operand}{L0:Array TypeId}:ki P ⟨d,.call ⟨.value f,args,L0⟩,ty,pos,af,g⟩ e s K=cP P ⟨d,.call ⟨.value f,args,L0⟩,ty,pos,af,g⟩ e s K:=(rfl)
theorem Jz{e:Nat->V}{K:V->List Obj->Prop}:ki P ⟨d,.call ⟨.builtin .len,#[x],#[t]⟩,ty,pos,af,g⟩ e s K=cP P ⟨d,.call ⟨.builtin .len,#[x],#[t]⟩,ty,pos,af,g⟩ e s K:=(rfl)
theorem AN{e:Nat->V}{K:V->List Obj->Prop}:ki P ⟨d,.call ⟨.builtin .append,#[a,x],#[t,t']⟩,ty,pos,af,g⟩ e s K=(t=t'/\oZ P t (ev e a) (ev e x) s K):=(rfl)
def A7:=ac @Ck @EA @Ci @Av @pY @zw @wT<|ac @AP @xR @zc @Cq @G8 @At @JI<|ac @ts @EV @rl @tq @K2 @GZ @B8<|And.intro @ET<|And.intro @Jz @AN
theorem MC{a:Code}{Q:Exit->Env->List Obj->Prop} (J:Env->List Obj->Prop) (h1:∀(B:Env->List Obj->Prop),(∀e s,J e s->B e s)->dh P N L M R a (sY B Q) e s) (h2:∀e s,J e s->dh P N L M R b Q e s):dh P N L M R (.seq a b) Q e s:=h1 _ h2
theorem AJ{Q:Exit->Env->List Obj->Prop} (I:Nat->Env->List Obj->Prop) (h0:∃n e1 s1,cU L e s e1 s1/\I n e1 s1) (h:∀n e s,I n e s->dh P N L M R c (sY (M5 L I n) Q) e s) :
  dh P N L M R (.loop c) Q e s:=⟨I,h0,h⟩
theorem eD {P:Program}{N L M:Nat}{R:List Nat}{σ0:Gh}{s0:List Obj}{w0:World} (hL:s0.length<=L):∀(c:Code) (Q:Exit->Env->List Obj->Prop) (e:Env) (s:List Obj) (σ:Gh) (w:World) (a:Act),
  aW σ0 s0 w0 σ s w->Inv σ s w->fj σ s w N e a->dh P N L M R c Q e s->c.wp P (QX σ0 s0 w0 N Q) a w
 |.skip,Q,e,s,σ,w,a,hE,hI,hR,h=>wp_skip ⟨e,σ,s,hE,hI,hR,h⟩
 |.region id ops false,Q,e,s,σ,w,a,hE,hI,hR,h=>by
  refine wp_region_list ?_;simp only[dh]at h;split at h
  ·have:=py (Q:=Q) ops.toList e s σ w a hE hI hR h;simpa using this
  ·have:=nz (Q:=Q) ops.toList e s σ w a hE hI hR h;simpa using this
 |.region id ops true,Q,e,s,σ,w,a,hE,hI,hR,h=>by have:=h σ0 s0 w0 Q (λ_ _ h=>h) σ w a id hE hI hR;simpa using this
 |.seq x y,Q,e,s,σ,w,a,hE,hI,hR,h=>by
  refine wp_seq (wp_mono (eD hL x _ e s σ w a hE hI hR h) λex a' w' ⟨e',σ',s',oI,gS,jb,hq⟩=>?_);cases ex with
  |normal=>exact eD hL y Q e' s' σ' w' a' oI gS jb hq
  |_=>exact⟨e',σ',s',oI,gS,jb,hq⟩
 |.cond c x y,Q,e,s,σ,w,a,hE,hI,hR,h=>by
  simp only[dh,n7]at h;split at h
  ·rename_i hb;have hc:=hR.ev c;rw[hb]at hc;generalize sg:a.eval c=QA at hc;cases hc with|d hc=>?_
   cases hc with|ub b=>?_
   refine wp_cond_split sg (λht=>?_) (λhf=>?_)
   ·exact eD hL x Q _ s σ w a hE hI hR.trim h.1
   ·exact eD hL y Q _ s σ w a hE hI hR.trim h.2
  unfold fU at h;split at h
  ·rename_i b hb;have hc:=hR.ev c;rw[hb]at hc;generalize sg:a.eval c=QA at hc;cases hc with|d hc=>?_
   cases hc with|sc _ _=>?_
   refine wp_cond_split sg (λht=>?_) (λhf=>?_)
   ·exact eD hL x Q _ s σ w a hE hI hR.trim (h.1 ht)
   ·exact eD hL y Q _ s σ w a hE hI hR.trim (h.2 hf)
  ·exact h.elim
 |.block id c,Q,e,s,σ,w,a,hE,hI,hR,h=>by
  refine wp_block (wp_mono (eD hL c _ e s σ w a hE hI hR h) λex a' w' ⟨e',σ',s',oI,gS,jb,hq⟩=>?_);cases ex with
  |exit i =>
   simp only[Exit.inBlock];simp only[DF]at hq;split
   ·rename_i hi;rw[ap hi]at hq;exact⟨e',σ',s',oI,gS,jb,hq⟩
   ·rename_i hi;rw[am hi]at hq;exact⟨e',σ',s',oI,gS,jb,hq⟩
  |_=>exact⟨e',σ',s',oI,gS,jb,hq⟩
 |.loop c,Q,e,s,σ,w,a,hE,hI,hR,h=>by
  obtain⟨I,⟨n0,e0,YU,KG,h0⟩,oK⟩:=h;obtain⟨σ,hE,hI,hR⟩:=KG σ0 s0 w0 σ w N a hL hE hI hR;let J:Nat->Act->World->Prop:=λn a w=>∃e σ s,aW σ0 s0 w0 σ s w/\Inv σ s w/\fj σ s w N e a/\I n e s;have least:∀a w,(∃n,J n a w)->∃n,J n a w/\∀m,J m a w->n<=m:=by
   intro a w ⟨n,hn⟩;induction n using Nat.strongRecOn with
   |_ n ih =>
    by_cases hm:∃m,m<n/\J m a w
    ·obtain⟨m,oa,A0⟩:=hm;exact ih m oa A0
    ·exact⟨n,hn,λm hj=>by
      rcases adV m n with h'|h'
      ·exact absurd ⟨m,h',hj⟩ hm
      ·exact h'⟩
  classical
  let μ:Act->World->Nat:=λa w=>if h:∃n,J n a w then Classical.choose (least a w h) else 0;have hμ:∀a w,(∃n,J n a w)->J (μ a w) a w/\∀m,J m a w->μ a w<=m:=by intro a w h;simp only[μ,dif_pos h];exact Classical.choose_spec (least a w h)
  refine wp_loop (λa w=>∃n,J n a w) μ ⟨n0,e0,σ,YU,hE,hI,hR,h0⟩ λa w hJ=>?_;obtain⟨⟨e1,σ1,s1,U5,YH,Y6,hi⟩,_⟩:=hμ a w hJ;refine wp_mono (eD hL c _ e1 s1 σ1 w a U5 YH Y6 (oK _ _ _ hi)) λex a' w' ⟨e',σ',s',oI,gS,jb,hq⟩=>?_;cases ex with
  |normal =>
   obtain⟨m,e2,s2,hm,hc,hi'⟩:=hq;obtain⟨σ',oI,gS,jb⟩:=hc σ0 s0 w0 σ' w' N a' hL oI gS jb;have hj:J m a' w':=⟨e2,σ',s2,oI,gS,jb,hi'⟩
   exact⟨⟨m,hj⟩,Nat.lt_of_le_of_lt ((hμ a' w' ⟨m,hj⟩).2 m hj) hm⟩
  |_=>exact⟨e',σ',s',oI,gS,jb,hq⟩
 |.exit id,Q,e,s,σ,w,a,hE,hI,hR,h=>wp_exit ⟨e,σ,s,hE,hI,hR,h⟩
 |.ret,Q,e,s,σ,w,a,hE,hI,hR,h=>wp_ret ⟨e,σ,s,hE,hI,hR,h⟩
 |.rangeFunc ..,_,_,_,_,_,_,_,_,_,h=>h.elim
 |.scope _,_,_,_,_,_,_,_,_,_,h=>h.elim
 |.label _,_,_,_,_,_,_,_,_,_,h=>h.elim
 |.goto _,_,_,_,_,_,_,_,_,_,h=>h.elim
 |.refuse _,_,_,_,_,_,_,_,_,_,h=>h.elim
theorem S1 {P : Program} {f : FuncId} {fn : Func} {c : Code} {args : List V} {exts : List Obj} {K : V → List Obj → Prop} (hf : P.funcs[f]? = some fn) (hb : fn.body = some c) {N : Nat} (hN : fn.ntmps = N) {rs : Array ResultVar} (Tq : fn.results = rs) (hn : (fn.name != "runtime.NumGoroutine") = true)
  (ck M:Nat) (R:List Nat) (hl:exts.length<=ck) (ha:args.length<=N)
  (h:dh P N ck M R c (Ut P rs.toList ck K) (iQ args) exts):au P f args exts K:=by
 subst hN;subst Tq;refine⟨by simp only[Iq,hf,hn,hb,Option.isSome_some,Bool.and_self],λσ w vals hI Un hv=>?_⟩;refine calls_of_wp hf hb ?_;have hR:fj σ exts w fn.ntmps (iQ args) { tmps:=vals++Array.replicate (fn.ntmps-vals.size) undef,defers:=[] }:=by
  refine⟨rfl,by simp;omega,λt=>?_⟩;rw[oC];by_cases ht:t<args.length
  ·have h1:=hv t args[t] (by simp [ht]);have:(vals++Array.replicate (fn.ntmps-vals.size) undef).getD t undef=vals.getD t undef:=by rw[adH,Array.getElem?_append_left (by omega),adH]
   rw[this];simpa [ht]using h1
  ·have:(vals++Array.replicate (fn.ntmps-vals.size) undef).getD t undef=undef:=by rw[adH,Array.getElem?_append_right (by omega),Array.getElem?_replicate];split <;> rfl
   rw[this];simp [ht];exact .un
 refine wp_mono (eD hl c _ (iQ args) exts σ w _ (aW.refl _ _ _) hI hR h) λex a' w' ⟨e',σ',s',hE,gS,jb,hex,hq⟩=>?_;obtain⟨v,u,k1,k2,k3⟩:=nF gS jb hq;obtain⟨h1,h2⟩:=k3;have fin:a'.defers=[]/\∃v,(results fn a'.tmps).run P w'=.ok v w'/\∃u Ob uj pP,Ending.returned v=.returned u/\aW σ exts w uj pP w'/\Inv uj pP w'/\aG uj pP w' Ob u/\K Ob pP:=by
  refine⟨jb.1,u,k1,?_⟩;split at h2
  ·rename_i r' Qi;exact⟨u,r',σ',s'.take ck,rfl,hE.take hl,gS.take h1,iM gS k2 Qi,h2⟩
  ·exact h2.elim
 rcases rM hex with rfl|rfl
 ·exact fin
 ·exact fin
open Go.ChangeShapes Go.WideShapes Go.ChangeAt Go.RowKit
variable{W:World}
def S3:Gh:=⟨λ_=>none,λ_=>False⟩
theorem VH (b:Nat):¬Own S3 [] b:=by
 rintro (h|⟨id,o,base,h1,_⟩)
 ·exact h
 ·simp at h1
theorem Zj (w:World):Inv S3 [] w :=
 ⟨λid o h=>by simp at h,λid kt o o' b base cr h=>by simp at h,λb h=>h.elim,λid o b base h=>by simp at h⟩
theorem run_pure {P:Program}{f:FuncId}{args:List V}{r:Bool}{vals:Array Value} (h:ba P f args (.d (.sc (.bool r)))) (hv:vals.size=args.length) (hrep:∀(i:Nat) (x:V),args[i]?=some x->aG S3 [] W x (vals.getD i undef)) :
  Calls P f vals W λe w'=>e=.returned (.bool r)/\Below W.heap.size W w':=by
 refine(h.2 S3 W vals (Zj W) hv hrep).mono λe w' ⟨u,v,σ',s',h1,h2,h3,h4,h5,h6⟩=>?_;subst h5;cases h4 with|d h4=>?_
 cases h4 with|sc _ _=>?_
 exact⟨h1,h2.os,h2.tape,h2.output,h2.size,λb hb=>h2.bO b hb (VH b)⟩
theorem MY{a:Addr}{len cap:Nat}{zs:List Int}{k:IntKind} (hl:len<=cap) (hz:zs.length=cap) (xp:∀i,i<zs.length->W.cell? (a.add i)=some (.int k (zs.getD i 0))) :
  aG S3 [] W (.d (.sl ((zs.take len).map λx=>[D.sc (.int k x)]))) (.slice (some a) len cap):=by
 have hlen:((zs.take len).map λx=>[D.sc (Value.int k x)]).length=len:=by simp;omega
 have FH:=dt.sl (O:=Own S3 []) (w:=W) ((zs.take len).map λx=>[D.sc (.int k x)]) a cap 1 (λi _=>.int k (zs.getD i 0)) (by rw[hlen];exact hl)
  (λfG=>by
   have:0<len:=by
    rcases Nat.eq_zero_or_pos len with h|h
    ·subst h;simp at fG
    ·exact h
   have:=World.cell?_spot (xp 0 (by omega));simpa [Addr.add]using this)
  (λe he=>by obtain⟨x,_,rfl⟩:=List.mem_map.1 he;rfl)
  (λi j x hx=>by
   simp only[adL]at hx;cases hi:(zs.take len)[i]? with
   |none=>simp [hi]at hx
   |some y =>
    simp only[hi,ad9,Option.bind_some]at hx;have hj:j=0:=by cases j with|zero=>rfl|succ j=>simp at hx
    subst hj;have YF:i<len/\i<zs.length:=by have:=(List.getElem?_eq_some_iff.1 hi).1;simp at this;omega
    refine⟨?_,VH _⟩;have du:=World.cell?_spot (xp 0 (by omega));have hc:=xp i YF.2;obtain⟨b,off,sp⟩:=a;have Yj:sp=none:=by simpa [Addr.add]using du
    subst Yj;rw[add_plain]at hc;simpa using hc)
  (λi j x hx=>by
   simp only[adL]at hx;cases hi:(zs.take len)[i]? with
   |none=>simp [hi]at hx
   |some y =>
    simp only[hi,ad9,Option.bind_some]at hx;have hj:j=0:=by cases j with|zero=>rfl|succ j=>simp at hx
    subst hj;simp only[adU,adp]at hx;subst hx;have YF:i<len/\i<zs.length:=by have:=(List.getElem?_eq_some_iff.1 hi).1;simp at this;omega
    have hy:zs.getD i 0=y:=by rw[ad1,ap YF.1]at hi;simp [List.getD,hi]
    rw[hy];exact .sc _ rfl)
 rw[hlen]at FH;exact .d FH
open Go.ChangeShapes Go.WideShapes Go.ChangeAt Go.RowKit
theorem Hc {H:Type}{enc:TypeId×Value->H}{P:Program}{W:World}{t e:TypeId}{k:IntKind}{a0:Option Addr}{len cap:Nat}{d:DataW H}{ps:List MemPlace} (ht:P.underlying t=some (.slice e)) (he:P.underlying e=some (.int k)) (hc:P.cellsOf e=1)
  (h:DataW.Trod enc P W 0 (λ_=>true) true t (.slice a0 len cap) d ps) :
  ∃l:List Int,(∀x∈l,(Lit.int k x).wf=true)/\aG S3 [] W (.d (.sl (l.map λx=>[D.sc (.int k x)]))) (.slice a0 len cap):=by
 obtain⟨aau,hf⟩:=h;rcases open_ints ht he hc hf with ⟨nn,hx⟩|⟨a,ab2,np,zs,nn,_,hl,hm,hz,hx,xp,hwz⟩
 ·simp [Value.cells]at nn;obtain⟨rfl,rfl,rfl⟩:=nn;exact⟨[],λx hx=>by (cases hx),.d .nil⟩
 ·simp [Value.cells]at nn;obtain⟨rfl,rfl,rfl⟩:=nn;simp only[if_true]at hz;exact⟨zs.take len,λx hx=>hwz x (List.mem_of_mem_take hx),MY hl hz xp⟩
section
variable {H:Type}{enc:TypeId×Value->H}{P:Program}{w:World}{base:Nat}{spare:Nat->Bool}{held:Bool}
end
end Go.VL
