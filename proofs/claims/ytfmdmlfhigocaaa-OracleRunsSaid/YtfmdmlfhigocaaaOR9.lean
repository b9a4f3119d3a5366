/- A part of the proof (Vn). -/
import Derived.Test.YtfmdmlfhigocaaaOR7
set_option linter.unusedSimpArgs false
set_option linter.unusedVariables false
set_option maxRecDepth 100000
set_option maxHeartbeats 80000000
namespace Go.VL
variable{i:Nat}{e':Nat->V}{e:Env}{s:List Obj}{P:Program}{K:V->List Obj->Prop}{o:Oper}{full:List Oper}{bB:Array Bool}
def RV (acc:List Nat) (es:List Edge):Nat :=
 es.foldl (λm e=>if Region.binds .any e then m ||| 2 ^ e.on ||| acc.getD e.on 0 else m) 0
def HO:List Oper->List Nat->List Nat
 |[],acc=>acc
 |o::rest,acc=>HO rest (acc++[RV acc o.after.toList])
def XO (ms:List Nat) (i j:Nat):Bool:=(ms.getD j 0).testBit i
def mf (full:List Oper) (L:Nat->Prop):Prop:=∀j o,full[j]?=some o->L j->∀e∈o.after.toList,Region.binds .any e=true->L e.on
theorem xD {L:Nat->Prop}{acc:List Nat} (iz:∀j i,(acc.getD j 0).testBit i=true->L j->L i):∀(es:List Edge) (m:Nat),(∀e∈es,Region.binds .any e=true->L e.on)->(∀i,m.testBit i=true->L i) ->
  ∀i,(es.foldl (λm e=>if Region.binds .any e then m ||| 2 ^ e.on ||| acc.getD e.on 0 else m) m).testBit i=true->L i
 |[],m,_,hm,i,h=>hm i h
 |e::es,m,he,hm,i,h=>by
  simp only[akg]at h;refine xD iz es _ (λe' h'=>he e' (List.mem_cons_of_mem _ h')) (λi' h'=>?_) i h;split at h'
  ·rename_i hb;have hon:=he e (List.mem_cons_self ..) hb;rw[Nat.testBit_or,Nat.testBit_or,Nat.testBit_two_pow]at h';simp only[Bool.or_eq_true,decide_eq_true_eq]at h';rcases h' with (h'|h')|h'
   ·exact hm i' h'
   ·rw[<- h'];exact hon
   ·exact iz _ _ h' hon
  ·exact hm i' h'
theorem DG {full:List Oper}{L:Nat->Prop} (hL:mf full L):∀(l:List Oper) (acc:List Nat),(∀j,l[j]?=full[acc.length+j]?)->(∀j i,(acc.getD j 0).testBit i=true->L j->L i) ->
  ∀j i,XO (HO l acc) i j=true->L j->L i
 |[],acc,_,iz,j,i,h,hj=>iz j i h hj
 |o::rest,acc,hl,iz,j,i,h,hj=>by
  simp only[HO]at h;refine DG hL rest _ (λk=>by have:=hl (k+1);simpa [ajI,Nat.add_comm 1 k]using this) (λk i' hk hLk=>?_) j i h hj;by_cases aB:k<acc.length
  ·rw[aja,ajj aB,<- aja]at hk;exact iz k i' hk hLk
  ·by_cases heq:k=acc.length
   ·subst heq;rw[aja,ajh (ajc _)]at hk;simp only[akp,ajv,akl]at hk;have ho:full[acc.length]?=some o:=by have:=hl 0;simpa using this.symm
    exact xD iz _ 0 (λe he hb=>hL _ o ho hLk e he hb) aj i' hk
   ·rw[aja,ajH cG]at hk;simp at hk
abbrev cI:=List (Nat×List Nat×List Nat)
def iP:cI->Nat->Option (List Nat×List Nat)
 |[],_=>none
 |(k,f)::l,i=>if k=i then some f else iP l i
def oL (fs:cI) (i:Nat):List Nat :=
 match iP fs i with
 |some (_,w)=>w
 |none=>[]
def I6:cI->List Nat
 |[]=>[]
 |(_,_,w)::l=>w++I6 l
theorem LM:∀{fs:cI}{i id:Nat},id∈oL fs i->id∈I6 fs
 |[],i,id,h=>by simp [oL,iP]at h
 |(k,r,w)::l,i,id,h=>by
  unfold oL at h;simp only[iP]at h;simp only[I6,List.mem_append];by_cases hk:k=i
  ·rw[be hk]at h;exact .inl h
  ·rw[ap hk]at h;exact .inr (LM h)
def Sr (fs:cI) (i id:Nat):Prop :=
 match iP fs i with
 |some (r,_)=>id∈r
 |none=>id ∉ I6 fs
def vk (fs:cI) (i j:Nat):Bool :=
 match iP fs i,iP fs j with
 |some (r,w),some (r',w')=>w.all (λid=>!r'.contains id&&!w'.contains id)&&w'.all λid=>!r.contains id
 |_,_=>true
def DR (full:List Oper) (ms:List Nat) (bars:List Nat) (fs:cI) (i j:Nat) (oi oj:Oper):Bool :=
 XO ms i j||(oi.apart full.toArray oj&&oj.apart full.toArray oi&&!bars.contains i&&!bars.contains j&&vk fs i j)
def Xl (o:Oper):Bool:=(match o.op with|.select ..=>false|_=>true)&&!(o.dst == some 0)
def lp (full:List Oper) (bars:List Nat) (fs:cI):Bool :=
 let ms:=HO full []
 full.zipIdx.all (λ(oi,i)=>Xl oi&&oi.after.toList.all (λe=>!Region.binds .any e||decide (e.on<i))&&full.zipIdx.all λ(oj,j)=>!decide (i<j)||DR full ms bars fs i j oi oj)
theorem uU {fs:cI}{j:Nat} (h:vk fs i j=true) {id:Nat} (hw:id∈oL fs i):¬Sr fs j id/\id ∉ oL fs j:=by
 have ha:=LM hw;unfold vk at h;unfold oL at hw ⊢;unfold Sr;cases hi:iP fs i with
 |none=>rw[hi]at hw;cases hw
 |some x =>
  obtain⟨r,w⟩:=x;rw[hi]at hw h;simp only at hw;cases hj:iP fs j with
  |none=>exact⟨λh=>h ha,aj⟩
  |some y =>
   obtain⟨r',w'⟩:=y;rw[hj]at h;simp only[aji,ajo]at h;have:=h.1 id hw;simp only[aji,Bool.not_eq_true',List.contains_eq_mem,decide_eq_false_iff_not]at this;exact this
theorem B8 {fs:cI}{j:Nat} (h:vk fs i j=true):vk fs j i=true:=by
 unfold vk at *;cases hi:iP fs i with
 |none=>cases iP fs j <;> rfl
 |some x =>
  cases hj:iP fs j with
  |none=>rfl
  |some y =>
   obtain⟨r,w⟩:=x;obtain⟨r',w'⟩:=y;rw[hi,hj]at h;simp only[aji,ajo,Bool.not_eq_true',List.contains_eq_mem,decide_eq_false_iff_not]at h ⊢;exact⟨λid du=>⟨h.2 id du,λhw=>(h.1 id hw).2 du⟩,λid du=>(h.1 id du).1⟩
theorem EF{c:Call}{e:Nat->V} (h0:e 0=e' 0) (h:∀x∈c.operands,ev e x=ev e' x):iJ P c e s K=iJ P c e' s K:=by
 have kF:∀x∈c.args.toList,ev e x=ev e' x:=λx hx=>h x (by simp [Call.operands];exact .inr (by simpa using hx));have hm:c.args.toList.map (ev e)=c.args.toList.map (ev e'):=ajK kF;unfold iJ;rw[hm];cases hc:c.callee with
 |value f =>
  have hf:ev e f=ev e' f:=h f (by simp [Call.operands,hc]);cases f <;> simp only[hf,h0]
 |invoke r m=>rfl
 |builtin b =>
  cases b
  case len=>rcases hl:c.args.toList with _|⟨x,_|⟨y,l⟩⟩ <;> rcases ht:c.argTypes.toList with _|⟨t,_|⟨t',l'⟩⟩ <;> simp_all
  case cap=>rcases hl:c.args.toList with _|⟨x,_|⟨y,l⟩⟩ <;> rcases ht:c.argTypes.toList with _|⟨t,_|⟨t',l'⟩⟩ <;> simp_all
  case append=>rcases hl:c.args.toList with _|⟨x,_|⟨y,_|⟨z,l⟩⟩⟩ <;> rcases ht:c.argTypes.toList with _|⟨t,_|⟨t',_|⟨t'',l'⟩⟩⟩ <;> simp_all
  case copy=>rcases hl:c.args.toList with _|⟨x,_|⟨y,_|⟨z,l⟩⟩⟩ <;> rcases ht:c.argTypes.toList with _|⟨t,_|⟨t',_|⟨t'',l'⟩⟩⟩ <;> simp_all
  case clear=>rcases hl:c.args.toList with _|⟨x,_|⟨y,l⟩⟩ <;> rcases ht:c.argTypes.toList with _|⟨t,_|⟨t',l'⟩⟩ <;> simp_all
  case min=>rcases hl:c.args.toList with _|⟨x,l⟩ <;> rw[hl]at kF <;> simp only[ajK λy hy=>kF y (List.mem_cons_of_mem _ hy),kF _ (List.mem_cons_self ..)]
  case max=>rcases hl:c.args.toList with _|⟨x,l⟩ <;> rw[hl]at kF <;> simp only[ajK λy hy=>kF y (List.mem_cons_of_mem _ hy),kF _ (List.mem_cons_self ..)]
  all_goals rfl
theorem Ni{e:Nat->V} (h0:e 0=e' 0) (h:∀x∈o.op.operands,ev e x=ev e' x):dg P o e s K=dg P o e' s K:=by
 obtain⟨dst,op,ty,pos,after,guard⟩:=o;have WT:∀ps:Array (Nat×Operand),(∀x∈ps.map (·.2),ev e x=ev e' x)->(ps.toList.map λp=>(p.1,ev e p.2))=(ps.toList.map λp=>(p.1,ev e' p.2)):=λps hp =>
  ajK λp hm=>by obtain⟨i,x⟩:=p;simp only[hp x (Array.mem_map.2 ⟨(i,x),by simpa using hm,rfl⟩)]
 cases op <;> simp only[Op.operands]at h <;> simp only[dg]
 case build t ps=>rw[WT ps λx hx=>h x (by simpa using hx)]
 case buildSlice t n ps=>rw[WT ps λx hx=>h x (by simpa using hx)]
 case makeFunc fn first captured =>
  rw[ajK (l:=first.toList) λx hx=>h x (by simp;exact .inl (by simpa using hx)),ajK (l:=captured.toList) λx hx=>h x (by simp;exact .inr (by simpa using hx))]
 case call c=>exact EF h0 h
 case slice t x lo hi mx=>cases lo <;> cases hi <;> cases mx <;> simp_all
 all_goals (first|rfl|(simp_all;done))
def pJ (full:List Oper) (o:Oper) (e:Env):Env:=λt=>if t∈o.looksAt full.toArray\/t=0 then e t else .any
theorem eC.mask {σ s w N e a} (h:eC σ s w N e a) (full:List Oper) (o:Oper):eC σ s w N (pJ full o e) a :=
 ⟨h.1,h.2.1,λt=>by unfold pJ;split;exact h.2.2 t;exact .any⟩
theorem Lg{e':Env} (h0:e 0=e' 0) (h:∀t∈o.looksAt full.toArray,e t=e' t):pJ full o e=pJ full o e':=by
 funext t;unfold pJ;split
 ·rename_i ht;rcases ht with ht|rfl
  ·exact h t ht
  ·exact h0
 ·rfl
def OB (P:Program) (full:List Oper) (o:Oper) (e:Env) (s:List Obj) (v:V) (s1:List Obj):Prop :=
 ∀(σ:Gh) (w:World) (N:Nat) (a:Act),Inv σ s w->eC σ s w N (pJ full o e) a->xu P o σ s w a λv' s'=>v'=v/\s'=s1
def ml (P:Program) (o:Oper) (e:Env) (s:List Obj) (v:V) (s1:List Obj):Prop:=dg P o e s λv' s'=>v'=v/\s'=s1
theorem kt{v:V}{s1:List Obj} (h:ml P o e s v s1):OB P full o e s v s1:=by
 intro σ w N a hI hR;refine Fa hI hR ?_;have:dg P o e s (λv' s'=>v'=v/\s'=s1)=dg P o (pJ full o e) s (λv' s'=>v'=v/\s'=s1):=Ni (by simp [pJ]) λx hx=>by
  cases x with
  |tmp t =>
   have ht:t∈o.looksAt full.toArray:=List.mem_append_left _ (List.mem_filterMap.2 ⟨.tmp t,by simpa using hx,rfl⟩);simp [ev,pJ,ht]
  |_=>rfl
 rw[<- this];exact h
structure I7 where
 val:Option V
 tf:List Obj->List Obj
def pw (x:I7):V:=x.val.getD .un
def Ou (fs:cI) (k:Nat) (f:List Obj->List Obj):Prop :=
 ∀s,(f s).length=s.length/\(∀id,id ∉ oL fs k->(f s)[id]?=s[id]?)/\∀s',s'.length=s.length->∀id,id∈oL fs k->s'[id]?=s[id]?->(f s)[id]?=(f s')[id]?
def OV (P:Program) (full:List Oper) (bars:List Nat) (fs:cI) (i:Nat) (o:Oper) (x:I7) (e:Env) (s:List Obj):Prop :=
 (bars.contains i=false->Ou fs i x.tf) /\
 match x.val with
 |none=>(∀s,x.tf s=s)/\∃g want d,o.guard=some (g,want)/\mN full g=some d/\(e d=.d (.sc (.bool (!want)))\/e d=.un)
 |some v=>(∀g want,o.guard=some (g,want)->∃d,mN full g=some d/\e d=.d (.sc (.bool want))) /\
   ∀s',s'.length=s.length->(bars.contains i=true->s'=s)->(∀id,Sr fs i id->s'[id]?=s[id]?)->OB P full o e s' v (x.tf s')
def Trace (P:Program) (N:Nat) (full:List Oper) (bars:List Nat) (fs:cI):Nat->List Oper->List I7->Env->List Obj->Env->List Obj->Prop
 |_,[],[],e,s,e',s'=>e'=e/\s'=s
 |i,o::rest,x::tr,e,s,e',s'=>eP N o.dst/\OV P full bars fs i o x e s/\Trace P N full bars fs (i+1) rest tr (jJ e o.dst (pw x)) (x.tf s) e' s'
 |_,_,_,_,_,_,_=>False
def eR:List Oper->List I7->(Nat->Bool)->Nat->Env->Env
 |o::l,x::tr,L,k,e=>eR l tr L (k+1) (if L k then jJ e o.dst (pw x) else e)
 |_,_,_,_,e=>e
theorem G7{d:Nat}{v:V} (h:e d=v):bX e d v=e:=by
 funext t;unfold bX;split
 ·rename_i ht;subst ht;exact h.symm
 ·rfl
theorem pS:∀(l:List Oper) (tr:List I7) (L:Nat->Bool) (k:Nat) (e:Env),(∀j,k<=j->L j=false)->eR l tr L k e=e
 |[],_,_,_,_,_=>by simp [eR]
 |_::_,[],_,_,_,_=>by simp [eR]
 |o::l,x::tr,L,k,e,h=>by simp only[eR,h k (ajc _)];exact pS l tr L (k+1) e λj hj=>h j ae
theorem Ks:∀(m:Nat) (l:List Oper) (tr:List I7) (k:Nat) (e:Env) (o:Oper) (x:I7),l[m]?=some o->tr[m]?=some x ->
  eR l tr (λj=>decide (j<k+m+1)) k e=jJ (eR l tr (λj=>decide (j<k+m)) k e) o.dst (pw x)
 |_,[],_,_,_,_,_,h,_=>by simp at h
 |_,_::_,[],_,_,_,_,_,h=>by simp at h
 |0,o'::l,x'::tr,k,e,o,x,h1,h2=>by simp only[ajv,ai5]at h1 h2;subst h1;subst h2;simp only[eR,aj5,aj7,decide_false,ajf,if_false,show k<k+1 by omega,decide_true,if_true];rw[pS _ _ _ _ _ (λj hj=>cG),pS _ _ _ _ _ (λj hj=>cG)]
 |m+1,o'::l,x'::tr,k,e,o,x,h1,h2=>by have h3:decide (k<k+(m+1)+1)=true:=cG;have h4:decide (k<k+(m+1))=true:=aj;simp only[eR,h3,h4,if_true];have:=Ks m l tr (k+1) (jJ e o'.dst (pw x')) o x (by simpa using h1) (by simpa using h2);rw[show k+(m+1)+1=k+1+m+1 by omega,show k+(m+1)=k+1+m by omega];exact this
theorem rm (e:Env) (d:Option Nat) (v:V) (t:Nat):jJ e d v t=if d=some t then v else e t:=by
 cases d with
 |none=>simp [jJ]
 |some d =>
  simp only[jJ,bX,ai5];by_cases h:t=d
  ·rw[be h,be h.symm]
  ·rw[ap h,ap (Ne.symm h)]
theorem ly (t:Nat):∀(l:List Oper) (tr:List I7) (L L':Nat->Bool) (k:Nat) (e e':Env),e t=e' t->(∀m o,l[m]?=some o->o.dst=some t->L (k+m)=L' (k+m)) ->
  eR l tr L k e t=eR l tr L' k e' t
 |[],_,_,_,_,_,_,he,_=>by simpa [eR]using he
 |_::_,[],_,_,_,_,_,he,_=>by simpa [eR]using he
 |o::l,x::tr,L,L',k,e,e',he,h=>by
  simp only[eR];refine ly t l tr L L' (k+1) _ _ ?_ λm o' jV hd=>by have:=h (m+1) o' (by simpa using jV) hd;simpa [ajI,Nat.add_comm 1 m]using this
  by_cases hd:o.dst=some t
  ·have:=h 0 o rfl hd;simp only[aj5]at this;rw[this];split
   ·rw[rm,rm,be hd,be hd]
   ·exact he
  ·have h1:∀(b:Bool) (f:Env),(if b=true then jJ f o.dst (pw x) else f) t=f t:=λb f=>by cases b <;> simp [rm,hd]
   rw[h1,h1];exact he
def il:List I7->(Nat->Bool)->Nat->List Obj->List Obj
 |x::tr,L,k,s=>il tr L (k+1) (if L k then x.tf s else s)
 |[],_,_,s=>s
theorem rA:∀(tr:List I7) (L:Nat->Bool) (k:Nat) (s:List Obj),(∀j,k<=j->L j=false)->il tr L k s=s
 |[],_,_,_,_=>rfl
 |x::tr,L,k,s,h=>by simp only[il];rw[rA tr L (k+1) _ λj hj=>h j ae];simp [h k (ajc _)]
theorem sA:∀(tr:List I7) (L L':Nat->Bool) (k:Nat) (s:List Obj),(∀m,m<tr.length->L (k+m)=L' (k+m))->il tr L k s=il tr L' k s
 |[],_,_,_,_,_=>rfl
 |x::tr,L,L',k,s,h=>by
  simp only[il];have h0:L k=L' k:=by have:=h 0 aj;simpa using this
  rw[h0];exact sA tr L L' (k+1) _ λm hm=>by have:=h (m+1) (by simpa using hm);rw[show k+(m+1)=k+1+m by omega]at this;exact this
theorem Po:∀(m:Nat) (tr:List I7) (k:Nat) (s:List Obj) (x:I7),tr[m]?=some x ->
  il tr (λj=>decide (j<k+m+1)) k s=x.tf (il tr (λj=>decide (j<k+m)) k s)
 |_,[],_,_,_,h=>by simp at h
 |0,x'::tr,k,s,x,h=>by simp only[ajv,ai5]at h;subst h;simp only[il,aj5,aj7,decide_false,ajf,if_false,show k<k+1 by omega,decide_true,if_true];rw[rA _ _ _ _ (λj hj=>cG),rA _ _ _ _ (λj hj=>cG)]
 |m+1,x'::tr,k,s,x,h=>by have h3:decide (k<k+(m+1)+1)=true:=cG;have h4:decide (k<k+(m+1))=true:=aj;simp only[il,h3,h4,if_true];have:=Po m tr (k+1) (x'.tf s) x (by simpa using h);rw[show k+(m+1)+1=k+1+m+1 by omega,show k+(m+1)=k+1+m by omega];exact this
theorem rV {bars:List Nat}{fs:cI}{R:Nat->Prop}:∀(tr:List I7) (L L':Nat->Bool) (k:Nat) (s s':List Obj),
  (∀m x,tr[m]?=some x->bars.contains (k+m)=false->Ou fs (k+m) x.tf) ->
  (∀m,m<tr.length->L (k+m)=L' (k+m)/\(bars.contains (k+m)=true->L (k+m)=true->s=s'/\∀m',m'<m->L (k+m')=L' (k+m'))\/(bars.contains (k+m)=false/\∀id,R id->id ∉ oL fs (k+m))) ->
  s.length=s'.length->(∀id,R id->s[id]?=s'[id]?) ->
  (il tr L k s).length=(il tr L' k s').length/\∀id,R id->(il tr L k s)[id]?=(il tr L' k s')[id]?
 |[],_,_,_,s,s',_,_,hl,h=>⟨hl,h⟩
 |x::tr,L,L',k,s,s',OZ,hd,hl,h=>by
  simp only[il];have adI:∀m y,tr[m]?=some y->bars.contains (k+1+m)=false->Ou fs (k+1+m) y.tf:=λm y hy hb=>by have:=OZ (m+1) y (by simpa using hy) (by rw[show k+(m+1)=k+1+m by omega];exact hb);rwa [show k+(m+1)=k+1+m by omega]at this
  have next:∀t t':List Obj,t.length=t'.length->(∀id,R id->t[id]?=t'[id]?)->(s=s'->L k=L' k->t=t') ->
    (il tr L (k+1) t).length=(il tr L' (k+1) t').length/\∀id,R id->(il tr L (k+1) t)[id]?=(il tr L' (k+1) t')[id]?:=by
   intro t t' h1 h2 h3;refine rV tr L L' (k+1) t t' adI (λm hm=>?_) h1 h2;have:=hd (m+1) (by simpa using hm);rw[show k+(m+1)=k+1+m by omega]at this;rcases this with ⟨g1,g2⟩|g
   ·refine .inl ⟨g1,λhb MP=>?_⟩;obtain⟨g3,g4⟩:=g2 hb MP;have g0:=g4 0 ae;rw[aj5]at g0;exact⟨h3 g3 g0,λm' mD=>by
     have:=g4 (m'+1) ae;rwa [show k+(m'+1)=k+1+m' by omega]at this⟩
   ·exact .inr g
  have d0:=hd 0 aj;rw[aj5]at d0;have tf0:=OZ 0 x rfl;rw[aj5]at tf0;cases hL:L k with
  |false =>
   cases YD:L' k with
   |false =>
    simp only[ajf,if_false];exact next s s' hl h λh _=>h
   |true =>
    simp only[ajf,if_false,if_true];rcases d0 with ⟨d0,_⟩|⟨d1,d2⟩
    ·rw[hL,YD]at d0;cases d0
    ·obtain⟨f1,f2,_⟩:=tf0 d1 s';exact next s (x.tf s') (by rw[f1];exact hl) (λid du=>by rw[f2 id (d2 id du)];exact h id du) λ_ h'=>by rw[hL,YD]at h';cases h'
  |true =>
   cases YD:L' k with
   |false =>
    simp only[ajf,if_false,if_true];rcases d0 with ⟨d0,_⟩|⟨d1,d2⟩
    ·rw[hL,YD]at d0;cases d0
    ·obtain⟨f1,f2,_⟩:=tf0 d1 s;exact next (x.tf s) s' (by rw[f1];exact hl) (λid du=>by rw[f2 id (d2 id du)];exact h id du) λ_ h'=>by rw[hL,YD]at h';cases h'
   |true =>
    simp only[if_true];cases hb:bars.contains k with
    |true =>
     rcases d0 with ⟨_,d0⟩|⟨d1,_⟩
     ·obtain⟨rfl,_⟩:=d0 hb hL;exact next _ _ rfl (λ_ _=>rfl) λ_ _=>rfl
     ·rw[hb]at d1;cases d1
    |false =>
     obtain⟨f1,f2,f3⟩:=tf0 hb s;obtain⟨f1',f2',_⟩:=tf0 hb s';refine next _ _ (by rw[f1,f1'];exact hl) (λid du=>?_) λh _=>by rw[h]
     by_cases hw:id∈oL fs k
     ·exact f3 s' hl.symm id hw (h id du).symm
     ·rw[f2 id hw,f2' id hw];exact h id du
theorem KN {P:Program}{N:Nat}{full:List Oper}{bars:List Nat}{fs:cI}:∀(l:List Oper) (tr:List I7) (i:Nat) (e:Env) (s:List Obj) (e':Env) (s':List Obj),Trace P N full bars fs i l tr e s e' s' ->
  tr.length=l.length/\e'=eR l tr (λ_=>true) i e/\s'=il tr (λ_=>true) i s /\
  ∀(m:Nat) (o:Oper) (x:I7),l[m]?=some o->tr[m]?=some x->eP N o.dst/\OV P full bars fs (i+m) o x (eR l tr (λj=>decide (j<i+m)) i e) (il tr (λj=>decide (j<i+m)) i s)
 |[],[],i,e,s,e',s',h=>by obtain⟨rfl,rfl⟩:=h;exact⟨rfl,by simp [eR],rfl,λm o x h=>by simp at h⟩
 |[],_::_,_,_,_,_,_,h=>h.elim
 |_::_,[],_,_,_,_,_,h=>h.elim
 |o::l,x::tr,i,e,s,e',s',h=>by
  obtain⟨hd,hx,ht⟩:=h;obtain⟨h0,h1,h2,h3⟩:=KN l tr (i+1) _ _ e' s' ht;refine⟨by simp [h0],by simp only[eR,if_true];exact h1,by simp only[il,if_true];exact h2,λm o1 x1 ho x4=>?_⟩;cases m with
  |zero =>
   simp only[ajv,ai5]at ho x4;subst ho;subst x4;have e1:eR (o::l) (x::tr) (λj=>decide (j<i+0)) i e=e:=pS _ _ _ _ _ λj hj=>cG;have e2:il (x::tr) (λj=>decide (j<i+0)) i s=s:=rA _ _ _ _ λj hj=>cG;rw[e1,e2];exact⟨hd,hx⟩
  |succ m =>
   have:=h3 m o1 x1 (by simpa using ho) (by simpa using x4);rw[show i+(m+1)=i+1+m by omega];have aB:decide (i<i+1+m)=true:=cG;have e1:eR (o::l) (x::tr) (λj=>decide (j<i+1+m)) i e=eR l tr (λj=>decide (j<i+1+m)) (i+1) (jJ e o.dst (pw x)):=by simp only[eR,aB,if_true]
   have e2:il (x::tr) (λj=>decide (j<i+1+m)) i s=il tr (λj=>decide (j<i+1+m)) (i+1) (x.tf s):=by simp only[il,aB,if_true]
   rw[e1,e2];exact this
def wY (bB:Array Bool) (j:Nat):Bool:=bB.getD j false
def X5 (bB:Array Bool):Nat:=(bB.toList.filter (!·)).length
theorem VQ (h:bB.getD i true=false):X5 (bB.setIfInBounds i true)<X5 bB:=by
 have hi:i<bB.size:=by
  rcases ajr i bB.size with h'|h'
  ·exact h'
  ·simp [Array.getElem?_eq_none h']at h
 have hv:bB.toList[i]?=some false:=by rw[ajl]at h;rw[ajN];rw[Array.getElem?_eq_getElem hi]at h ⊢;simpa using h
 unfold X5;rw[Array.toList_setIfInBounds];generalize bB.toList=l at hv;clear h hi;induction l generalizing i with
 |nil=>simp at hv
 |cons b l ih =>
  cases i with
  |zero =>
   simp only[ajv,ai5]at hv;subst hv;simp
  |succ i =>
   have:=ih (i:=i) (by simpa using hv);simp only[ajw,List.filter_cons];cases b
   ·simp only[ajd,if_true,ai8];omega
   ·simpa using this
theorem Tz (h:X5 bB=0) (hi:i<bB.size):bB.getD i false=true:=by unfold X5 at h;rw[List.length_eq_zero_iff,List.filter_eq_nil_iff]at h;have:=h bB[i] aj;simpa [Array.getD,hi]using this
section
variable {P:Program}{N:Nat}{full:List Oper}{bars:List Nat}{fs:cI}{tr:List I7}{e0:Env}{s0:List Obj}
variable{i:Nat}{oi:Oper}{L:Nat->Bool}{L':Nat->Bool}{s:List Obj}{s1:List Obj}{e1:Env}
theorem pW (hd:lp full bars fs=true) {j:Nat}{oj:Oper} (hi:full[i]?=some oi) (hj:full[j]?=some oj) (Zi:i<j):DR full (HO full []) bars fs i j oi oj=true:=by simp only[lp,ajo]at hd;have h1:=hd (oi,i) (by rw[List.mem_zipIdx_iff_getElem?];exact hi);simp only[aji,ajo]at h1;have h2:=h1.2 (oj,j) (by rw[List.mem_zipIdx_iff_getElem?];exact hj);simpa [Zi]using h2
theorem ug (hd:lp full bars fs=true) (hi:full[i]?=some oi) {x:Edge} (hx:x∈oi.after) (hb:Region.binds .any x=true):x.on<i:=by simp only[lp,ajo]at hd;have h1:=hd (oi,i) (by rw[List.mem_zipIdx_iff_getElem?];exact hi);simp only[aji,ajo]at h1;have:=h1.1.2 x (by simpa using hx);simpa [hb]using this
theorem rj {L:Nat->Prop} (hL:mf full L) {j:Nat} (h:XO (HO full []) i j=true) (hj:L j):L i :=
 DG hL full [] aj aj j i h hj
theorem Fl (hd:lp full bars fs=true) (hL:mf full λj=>L j=true) (hi:full[i]?=some oi) (C0:L i=false)
  (hready:∀x∈oi.after.toList,Region.binds .any x=true->L x.on=true) {m:Nat}{om:Oper} (hm:full[m]?=some om) (dP:m≠i) :
  L m=decide (m<i)\/((om.apart full.toArray oi=true/\oi.apart full.toArray om=true)/\bars.contains m=false/\bars.contains i=false/\vk fs m i=true):=by
 have YD:mf full λj=>L j=true\/j=i:=by
  intro j o ho hj x hx hb;rcases hj with hj|rfl
  ·exact .inl (hL j o ho hj x hx hb)
  ·rw[hi]at ho;cases ho;exact .inl (hready x hx hb)
 rcases Nat.lt_or_gt_of_ne dP with aB|hgt
 ·have hp:=pW hd hm hi aB;simp only[DR,Bool.or_eq_true]at hp;rcases hp with hp|hp
  ·rcases rj YD hp (.inr rfl) with h|h
   ·exact .inl (by rw[h];simp [aB])
   ·exact absurd h dP
  ·simp only[aji,Bool.not_eq_true']at hp;obtain⟨⟨⟨⟨a1,a2⟩,a3⟩,a4⟩,a5⟩:=hp;exact .inr ⟨⟨a1,a2⟩,a3,a4,a5⟩
 ·have hp:=pW hd hi hm hgt;simp only[DR,Bool.or_eq_true]at hp;rcases hp with hp|hp
  ·cases Ob:L m with
   |false=>exact .inl cG
   |true=>have:=rj hL hp Ob;rw[C0]at this;cases this
  ·simp only[aji,Bool.not_eq_true']at hp;obtain⟨⟨⟨⟨a1,a2⟩,a3⟩,a4⟩,a5⟩:=hp;exact .inr ⟨⟨a2,a1⟩,a4,a3,B8 a5⟩
theorem yb (hd:lp full bars fs=true) (hL:mf full λj=>L j=true) {k m:Nat} (hk:bars.contains k=true) (hLk:L k=true) (Db:k<full.length) (hm:m<k):L m=true:=by
 have hp:=pW hd (ajg (by omega:m<full.length)) (ajg Db) hm;simp only[DR,Bool.or_eq_true]at hp;rcases hp with hp|hp
 ·exact rj hL hp hLk
 ·simp only[aji,Bool.not_eq_true']at hp;rw[hk]at hp;exact absurd hp.1.2 aj
theorem mf.add (hL:mf full λj=>L j=true) (hi:full[i]?=some oi) (hready:∀x∈oi.after.toList,Region.binds .any x=true->L x.on=true)
  (h':∀j,L' j=(L j||decide (j=i))):mf full λj=>L' j=true:=by
 intro j o ho hj x hx hb;have hj:L' j=true:=hj;show L' x.on=true;rw[h',Bool.or_eq_true]at hj ⊢;rcases hj with hj|hj
 ·exact .inl (hL j o ho hj x hx hb)
 ·rw[decide_eq_true_eq]at hj;subst hj;rw[hi]at ho;cases ho;exact .inl (hready x hx hb)
theorem Ax (hd:lp full bars fs=true) (hL:mf full λj=>L j=true) (hi:full[i]?=some oi) (C0:L i=false)
  (hready:∀x∈oi.after.toList,Region.binds .any x=true->L x.on=true) {t:Nat} (ht:t∈oi.looksAt full.toArray):eR full tr L 0 e0 t=eR full tr (λj=>decide (j<0+i)) 0 e0 t:=by
 refine ly t full tr _ _ 0 _ _ rfl λm om hm FG=>?_;simp only[ai7];by_cases dP:m=i
 ·subst dP;simp [C0]
 ·rcases Fl hd hL hi C0 hready hm dP with h|⟨⟨h,_⟩,_⟩
  ·exact h
  ·exact absurd ht ((Oper.apart_spec h).1 t FG)
theorem Td (hd:lp full bars fs=true) (L L':Nat->Bool):eR full tr L 0 e0 0=eR full tr L' 0 e0 0:=by refine ly 0 full tr _ _ 0 _ _ rfl λm om hm FG=>?_;unfold lp at hd;have:=List.all_eq_true.1 hd (om,m) (List.mem_zipIdx_iff_getElem?.2 hm);simp [Xl,FG]at this
theorem Wr (hd:lp full bars fs=true) (hL:mf full λj=>L j=true) (hi:full[i]?=some oi) (C0:L i=false)
  (hready:∀x∈oi.after.toList,Region.binds .any x=true->L x.on=true) {x:I7} (hx:tr[i]?=some x) (h':∀j,L' j=(L j||decide (j=i))) :
  eR full tr L' 0 e0=jJ (eR full tr L 0 e0) oi.dst (pw x):=by
 funext t;by_cases hdt:oi.dst=some t
 ·rw[rm,be hdt];have h1:eR full tr L' 0 e0 t=eR full tr (λj=>decide (j<0+i+1)) 0 e0 t:=by
   refine ly t full tr _ _ 0 _ _ rfl λm om hm FG=>?_;simp only[ai7];rw[h'];by_cases dP:m=i
   ·subst dP;simp
   ·rcases Fl hd hL hi C0 hready hm dP with h|⟨⟨h,_⟩,_⟩
    ·rw[h];simp only[dP,decide_false,akq];rw[decide_eq_decide];omega
    ·exact absurd hdt ((Oper.apart_spec h).2.1 t FG)
  rw[h1,Ks i full tr 0 e0 oi x hi hx,rm,be hdt]
 ·rw[rm,ap hdt];refine ly t full tr _ _ 0 _ _ rfl λm om hm FG=>?_;simp only[ai7];rw[h'];by_cases dP:m=i
  ·subst dP;rw[hi]at hm;cases hm;exact absurd FG hdt
  ·simp [dP]
theorem Ae (hd:lp full bars fs=true) (hl:tr.length=full.length) (OZ:∀m x,tr[m]?=some x->bars.contains m=false->Ou fs m x.tf) (hL:mf full λj=>L j=true) (hi:full[i]?=some oi) (C0:L i=false)
  (hready:∀x∈oi.after.toList,Region.binds .any x=true->L x.on=true) {R:Nat->Prop} (hR:∀m,bars.contains i=false->vk fs m i=true->∀id,R id->id ∉ oL fs m) :
  (il tr L 0 s0).length=(il tr (λj=>decide (j<0+i)) 0 s0).length/\∀id,R id->(il tr L 0 s0)[id]?=(il tr (λj=>decide (j<0+i)) 0 s0)[id]?:=by
 have hif:i<full.length:=(List.getElem?_eq_some_iff.1 hi).1;refine rV (bars:=bars) (fs:=fs) tr _ _ 0 s0 s0 (λm x hx hb=>by rw[ai7]at hb ⊢;exact OZ m x hx hb) (λm hm=>?_) rfl λ_ _=>rfl;simp only[ai7];have YY:bars.contains m=true->L m=true->m<i->∀m',m'<m->L m'=decide (m'<i):=by intro hb Ob hmi m' mD;rw[yb hd hL hb Ob ae mD];simp;omega
 by_cases dP:m=i
 ·subst dP;exact .inl ⟨by simp [C0],λ_ h=>by rw[C0]at h;cases h⟩
 ·rcases Fl hd hL hi C0 hready (ajg (by omega:m<full.length)) dP with h|⟨_,h1,h2,h3⟩
  ·exact .inl ⟨h,λhb Ob=>⟨trivial,YY hb Ob (by rw[Ob]at h;simpa using h.symm)⟩⟩
  ·exact .inr ⟨h1,hR m h2 h3⟩
theorem YL (hd:lp full bars fs=true) (hl:tr.length=full.length) (OZ:∀m x,tr[m]?=some x->bars.contains m=false->Ou fs m x.tf) (hL:mf full λj=>L j=true) (hi:full[i]?=some oi) (C0:L i=false)
  (hready:∀x∈oi.after.toList,Region.binds .any x=true->L x.on=true) {x:I7} (hx:tr[i]?=some x) (h':∀j,L' j=(L j||decide (j=i))) :
  il tr L' 0 s0=x.tf (il tr L 0 s0):=by
 have hif:i<full.length:=(List.getElem?_eq_some_iff.1 hi).1;have aB:=Po i tr 0 s0 x hx;rw[ai7]at aB;have YY:∀m,m<tr.length->bars.contains m=true->L m=true->m<i->∀m',m'<m->L m'=decide (m'<i):=by intro m hm hb Ob hmi m' mD;rw[yb hd hL hb Ob ae mD];simp;omega
 by_cases hb:bars.contains i=true
 ·
  have bK:∀m,m<tr.length->L m=decide (m<i):=by
   intro m hm;by_cases dP:m=i
   ·subst dP;simp [C0]
   ·rcases Fl hd hL hi C0 hready (ajg (by omega:m<full.length)) dP with h|⟨_,_,h2,_⟩
    ·exact h
    ·rw[hb]at h2;cases h2
  rw[sA tr L (λj=>decide (j<i)) 0 s0 λm hm=>by rw[ai7];exact bK m hm,<- aB];refine sA tr _ _ 0 s0 λm hm=>?_;rw[ai7,h',bK m hm];by_cases dP:m=i
  ·subst dP;simp
  ·simp only[dP,decide_false,akq];rw[decide_eq_decide];omega
 ·have hb:bars.contains i=false:=by simpa using hb
  obtain⟨f1,f2,f3⟩:=OZ i x hx hb (il tr L 0 s0);have ad3:=rV (bars:=bars) (fs:=fs) (R:=λid=>id ∉ oL fs i) tr L' L 0 s0 s0 (λm y hy hb=>by rw[ai7]at hb ⊢;exact OZ m y hy hb) (λm hm=>by
    simp only[ai7];by_cases dP:m=i
    ·subst dP;exact .inr ⟨hb,λid du=>du⟩
    ·have e1:L' m=L m:=by rw[h'];simp [dP]
     refine .inl ⟨e1,λZC Ob=>⟨trivial,λm' mD=>?_⟩⟩;rw[e1]at Ob;have:=yb hd hL ZC Ob ae mD;rw[h',this];rfl) rfl λ_ _=>rfl
  have onW:=rV (bars:=bars) (fs:=fs) (R:=λid=>id∈oL fs i) tr L' (λj=>decide (j<i+1)) 0 s0 s0 (λm y hy hb=>by rw[ai7]at hb ⊢;exact OZ m y hy hb) (λm hm=>by
    simp only[ai7];by_cases dP:m=i
    ·subst dP;refine .inl ⟨by rw[h'];simp,λZC _=>by rw[hb]at ZC;cases ZC⟩
    ·have e1:L' m=L m:=by rw[h'];simp [dP]
     rcases Fl hd hL hi C0 hready (ajg (by omega:m<full.length)) dP with h|⟨_,h1,_,h3⟩
     ·refine .inl ⟨by rw[e1,h,decide_eq_decide];omega,λZC Ob=>⟨trivial,λm' mD=>?_⟩⟩;rw[e1]at Ob;have hmi:m<i:=by rw[Ob]at h;simpa using h.symm
      rw[h',YY m hm ZC Ob hmi m' mD];simp only[show m'≠i by omega,decide_false,akq];rw[decide_eq_decide];omega
     ·exact .inr ⟨h1,λid du=>(uU (B8 h3) du).2⟩) rfl λ_ _=>rfl
  refine ajX λid=>?_;by_cases hw:id∈oL fs i
  ·have:=Ae (s0:=s0) hd hl OZ hL hi C0 hready (R:=λid=>id∈oL fs i) (λm _ hc id du hm=>(uU hc hm).2 du);rw[ai7]at this;rw[onW.2 id hw,aB,f3 _ this.1.symm id hw (this.2 id hw).symm]
  ·rw[ad3.2 id hw,f2 id hw]
theorem Ma {σ:Gh}{w:World}{e:Env}{a:Act}{o:Oper}{g:Nat}{want:Bool}{d:Nat} (hR:eC σ s w N e a) (ho:o.guard=some (g,want)) (hg:mN full g=some d) :
  (e d=.d (.sc (.bool want))->Region.wanted o (yielded full.toArray a.tmps)=true)/\(e d=.d (.sc (.bool (!want)))\/e d=.un->Region.wanted o (yielded full.toArray a.tmps)=false):=by
 constructor
 ·intro h;have hw:mh (mN full g) e want (λ_=>True) (λ_=>False):=by rw[hg];simp [mh,h]
  obtain⟨_,_,h|h⟩:=yn hR ho hw
  ·exact h.1
  ·exact h.2.elim
 ·intro h;have hw:mh (mN full g) e want (λ_=>False) (λ_=>True):=by rw[hg];rcases h with h|h <;> simp [mh,h]
  obtain⟨_,_,h|h⟩:=yn hR ho hw
  ·exact h.2.elim
  ·exact h.1
theorem Rl (hd:lp full bars fs=true) (ht:Trace P N full bars fs 0 full tr e0 s0 e1 s1)
  {σ00:Gh}{Z2:List Obj}{ZA:World}{Q:Exit->Env->List Obj->Prop}{r:Option Nat}{D:List Deferred}{ws:World} (hQ:Q .normal e1 s1):∀(fuel:Nat) (bB:Array Bool) (σ:Gh) (w:World) (a:Act),bB.size=full.length->X5 bB<=fuel ->
  (mf full λj=>wY bB j=true)->qd ws w->aG σ00 Z2 ZA σ (il tr (wY bB) 0 s0) w->Inv σ (il tr (wY bB) 0 s0) w->eC σ (il tr (wY bB) 0 s0) w N (eR full tr (wY bB) 0 e0) a ->
  wpAnyIn (GD r) 0 P .any full.toArray (QR ws D (QX σ00 Z2 ZA N Q)) fuel bB (Act.wD a D) w:=by
 intro fuel;obtain⟨hl,t1,t2,t3⟩:=KN full tr 0 e0 s0 e1 s1 ht;have OZ:∀m x,tr[m]?=some x->bars.contains m=false->Ou fs m x.tf:=by
  intro m x hx hb;have hm:m<full.length:=by have:=(List.getElem?_eq_some_iff.1 hx).1;omega
  have:=(t3 m full[m] x (ajg hm) hx).2.1;rw[ai7]at this;exact this hb
 have IY:∀bB:Array Bool,bB.size=full.length->Region.ready .any full.toArray bB=[]->∀j,j<full.length->wY bB j=true:=by
  intro bB fY hr j;induction j using Nat.strongRecOn with
  |_ j ih =>
   intro hj;cases hlj:wY bB j with
   |true=>rfl
   |false =>
    exfalso;have:j∈Region.ready .any full.toArray bB:=by
     rw[mem_ready];refine⟨?_,full[j],by simp [hj],λx hx hb=>?_⟩
     ·unfold wY at hlj;have:j<bB.size:=ae;simpa [Array.getD,this]using hlj
     ·exact ih x.on (ug hd (ajg hj) hx hb) (by
       have:=ug hd (ajg hj) hx hb;omega)
    rw[hr]at this;cases this
 have fin:∀(bB:Array Bool) (σ:Gh) (w:World) (a:Act),(∀j,j<full.length->wY bB j=true)->qd ws w->aG σ00 Z2 ZA σ (il tr (wY bB) 0 s0) w->Inv σ (il tr (wY bB) 0 s0) w ->
   eC σ (il tr (wY bB) 0 s0) w N (eR full tr (wY bB) 0 e0) a->QR ws D (QX σ00 Z2 ZA N Q) .normal (Act.wD a D) w:=by
  intro bB σ w a bK hk hE hI hR;have he:eR full tr (wY bB) 0 e0=e1:=by rw[t1];funext t;refine ly t full tr _ _ 0 _ _ rfl λm om hm _=>?_;rw[ai7];exact bK m (List.getElem?_eq_some_iff.1 hm).1
  have hs:il tr (wY bB) 0 s0=s1:=by rw[t2];refine sA tr _ _ 0 _ λm hm=>?_;rw[ai7];exact bK m ae
  rw[he,hs]at hR;rw[hs]at hE hI;exact HT hk hR.1 ⟨e1,σ,s1,hE,hI,hR,hQ⟩
 have LH:∀bB:Array Bool,(∀j,j<full.length->wY bB j=true)->Region.ready .any full.toArray bB=[]:=by
  intro bB bK;rw[List.eq_nil_iff_forall_not_mem];intro j hj;rw[mem_ready]at hj;obtain⟨h0,o,ho,_⟩:=hj;have QE:j<full.length:=by simpa using (Array.getElem?_eq_some_iff.1 ho).1
  have:=bK j QE;unfold wY at this;rw[ajl]at this h0;cases hx:bB[j]? with
  |none=>rw[hx]at h0;cases h0
  |some b=>rw[hx]at this h0;simp only[akl]at this h0;rw[this]at h0;cases h0
 induction fuel with
 |zero =>
  intro bB σ w a fY hu hL hk hE hI hR;have bK:∀j,j<full.length->wY bB j=true:=λj hj=>Tz ae ae;exact⟨LH bB bK,fin bB σ w a bK hk hE hI hR⟩
 |succ fuel ih =>
  intro bB σ w a fY hu hL hk hE hI hR;refine⟨λhr=>fin bB σ w a (IY bB fY hr) hk hE hI hR,λi hir=>?_⟩;rw[mem_ready]at hir;obtain⟨h0,o,ho,Xt⟩:=hir;have hif:i<full.length:=by simpa using (Array.getElem?_eq_some_iff.1 ho).1
  have UD:full[i]?=some o:=by simpa using ho
  have C0:wY bB i=false:=by unfold wY;have:i<bB.size:=ae;simp only[Array.getD,this,dif_pos]at h0 ⊢;exact h0
  have hready:∀x∈o.after.toList,Region.binds .any x=true->wY bB x.on=true:=λx hx hb=>Xt x (by simpa using hx) hb;have hx:∃x,tr[i]?=some x:=⟨tr[i],ajg ae⟩
  obtain⟨x,hx⟩:=hx;have h':∀j,wY (bB.setIfInBounds i true) j=(wY bB j||decide (j=i)):=by
   intro j;unfold wY;by_cases XA:j=i
   ·subst XA;have:j<bB.size:=ae;simp [this]
   ·rw[getD_set_ne false (Ne.symm XA)];simp [XA]
  have ON:=ih (bB.setIfInBounds i true);have heP:=Wr (tr:=tr) (e0:=e0) hd hL UD C0 hready hx h';have hsP:=YL (s0:=s0) hd hl OZ hL UD C0 hready hx h';have iy:=mf.add hL UD hready h';have hul:=VQ h0;obtain⟨FG,_,wZ⟩:=t3 i o x UD hx;unfold wpOpIn;rw[ho];simp only;cases hv:x.val with
  |none =>
   rw[hv]at wZ;obtain⟨ck,g,want,d,hg,Y4,UJ⟩:=wZ;have Yi:d∈o.looksAt full.toArray:=by
    unfold mN at Y4;split at Y4
    ·rename_i og YC;simp [Oper.looksAt,hg,YC,Y4]
    ·cases Y4
   rw[<- Ax (tr:=tr) (e0:=e0) hd hL UD C0 hready Yi]at UJ;rw[show Region.wanted o (yielded full.toArray (Act.wD a D).tmps)=false from (Ma hR hg Y4).2 UJ];simp only[ajf,if_false];rw[ck]at hsP;rw[A6];refine⟨λ_ _=>trivial,?_⟩;refine ON σ w _ (by simpa using fY) ae iy hk (by rw[hsP];exact hE) (by rw[hsP];exact hI) ?_;rw[hsP,heP];have:pw x=.un:=by simp [pw,hv]
   rw[this];exact hR.put FG .un
  |some v =>
   rw[hv]at wZ;obtain⟨Y4,Is⟩:=wZ;have aah:Region.wanted o (yielded full.toArray a.tmps)=true:=by
    cases hg:o.guard with
    |none=>simp [Region.wanted,hg]
    |some gw =>
     obtain⟨g,want⟩:=gw;obtain⟨d,UJ,hgv⟩:=Y4 g want hg;have Yi:d∈o.looksAt full.toArray:=by
      unfold mN at UJ;split at UJ
      ·rename_i og YC;simp [Oper.looksAt,hg,YC,UJ]
      ·cases UJ
     rw[<- Ax (tr:=tr) (e0:=e0) hd hL UD C0 hready Yi]at hgv;exact(Ma hR hg UJ).1 hgv
   rw[be (show Region.wanted o (yielded full.toArray (Act.wD a D).tmps)=true from aah)];have Z7:OB P full o (eR full tr (wY bB) 0 e0) (il tr (wY bB) 0 s0) v (il tr (wY (bB.setIfInBounds i true)) 0 s0):=by
    have hm:pJ full o (eR full tr (wY bB) 0 e0)=pJ full o (eR full tr (λj=>decide (j<0+i)) 0 e0):=Lg (Td hd _ _) λt ht=>Ax hd hL UD C0 hready ht;unfold OB;rw[hm,hsP];refine Is _ ?_ ?_ ?_
    ·exact(Ae (s0:=s0) hd hl OZ hL UD C0 hready (R:=λ_=>False) (λ_ _ _ _ h=>h.elim)).1
    ·intro hb;rw[ai7]at hb;have:=Ae (s0:=s0) hd hl OZ hL UD C0 hready (R:=λ_=>True) (λ_ h=>by rw[hb]at h;cases h);exact ajX λid=>this.2 id trivial
    ·intro id du;rw[ai7]at du;exact(Ae (s0:=s0) hd hl OZ hL UD C0 hready (R:=λid=>Sr fs i id) (λm _ hc id du hw=>(uU hc hw).1 du)).2 id du
   refine Oper.wpIn_mono (λa' w' ⟨a0,h1,u,v',σ',s',ha,yd,ko,qp,hK⟩=>?_) (Pz (λa' w' ⟨u,_,_,_,ha,_⟩=>⟨u,ha⟩) (Z7 σ w N a hI (hR.mask full o)));obtain⟨rfl,rfl⟩:=hK;subst ha h1;refine ON σ' w' _ (by simpa using fY) ae iy (hk.trans (.of hI yd)) (hE.trans yd) ko ?_;rw[heP];have:pw x=v':=by simp [pw,hv]
   rw[this];exact(hR.aZ yd).put FG qp
theorem Lw (hm:P.follows .mixedOrders=true) (hd:lp full bars fs=true) {e:Env} (ht:Trace P N full bars fs 0 full tr e s e1 s1) {K:Env->List Obj->Prop} (hK:K e1 s1):ve P N full e s K:=by
 intro σ0 Z2 w0 Q hKQ σ w a id hE hI hR;intro r D;refine wpIn_region_any hm ?_;have hf:∀j,wY (Array.replicate full.toArray.size false) j=false:=by intro j;unfold wY;rw[ajl,Array.getElem?_replicate];split <;> rfl
 have hs:il tr (wY (Array.replicate full.toArray.size false)) 0 s=s:=rA _ _ _ _ λj _=>hf j;have he:eR full tr (wY (Array.replicate full.toArray.size false)) 0 e=e:=pS _ _ _ _ _ λj _=>hf j;refine Rl hd ht (hKQ e1 s1 hK) _ _ σ _ a aj ?_ (λj o _ hj=>by have hj:wY _ j=true:=hj;rw[hf j]at hj;cases hj) (λ_ _ h _=>h) ?_ ?_ ?_
 ·unfold X5;refine aj0 (List.length_filter_le _ _) aj
 ·rw[hs];exact hE.trans (pP hI).1
 ·rw[hs];exact(pP hI).2
 ·rw[hs,he];exact hR.aZ (pP hI).1
end
end Go.VL
