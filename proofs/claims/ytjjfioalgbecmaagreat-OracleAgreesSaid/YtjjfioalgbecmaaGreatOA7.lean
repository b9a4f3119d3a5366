/- A part of the proof. -/
import Derived.Test.YtjjfioalgbecmaaGreatOA6
set_option linter.unusedSimpArgs false
set_option linter.unusedVariables false
set_option maxRecDepth 100000
set_option maxHeartbeats 80000000
namespace Go.VL
variable{i:Nat}{e':Nat->V}{e:Env}{s:List Obj}{P:Program}{K:V->List Obj->Prop}{o:Oper}{full:List Oper}{bJ:Array Bool}
def SA (acc:List Nat) (es:List Edge):Nat :=
 es.foldl (λm e=>if Region.binds .any e then m ||| 2 ^ e.on ||| acc.getD e.on 0 else m) 0
def Im:List Oper->List Nat->List Nat
 |[],acc=>acc
 |o::rest,acc=>Im rest (acc++[SA acc o.after.toList])
def Zv (ms:List Nat) (i j:Nat):Bool:=(ms.getD j 0).testBit i
def ma (full:List Oper) (L:Nat->Prop):Prop:=∀j o,full[j]?=some o->L j->∀e∈o.after.toList,Region.binds .any e=true->L e.on
theorem xH {L:Nat->Prop}{acc:List Nat} (kf:∀j i,(acc.getD j 0).testBit i=true->L j->L i):∀(es:List Edge) (m:Nat),(∀e∈es,Region.binds .any e=true->L e.on)->(∀i,m.testBit i=true->L i) ->
  ∀i,(es.foldl (λm e=>if Region.binds .any e then m ||| 2 ^ e.on ||| acc.getD e.on 0 else m) m).testBit i=true->L i
 |[],m,_,hm,i,h=>hm i h
 |e::es,m,he,hm,i,h=>by
  simp only[aml]at h;refine xH kf es _ (λe' h'=>he e' (List.mem_cons_of_mem _ h')) (λi' h'=>?_) i h;split at h'
  ·rename_i hb;have hon:=he e (List.mem_cons_self ..) hb;rw[Nat.testBit_or,Nat.testBit_or,Nat.testBit_two_pow]at h';simp only[Bool.or_eq_true,decide_eq_true_eq]at h';rcases h' with (h'|h')|h'
   ·exact hm i' h'
   ·rw[<- h'];exact hon
   ·exact kf _ _ h' hon
  ·exact hm i' h'
theorem DC {full:List Oper}{L:Nat->Prop} (hL:ma full L):∀(l:List Oper) (acc:List Nat),(∀j,l[j]?=full[acc.length+j]?)->(∀j i,(acc.getD j 0).testBit i=true->L j->L i) ->
  ∀j i,Zv (Im l acc) i j=true->L j->L i
 |[],acc,_,kf,j,i,h,hj=>kf j i h hj
 |o::rest,acc,hl,kf,j,i,h,hj=>by
  simp only[Im]at h;refine DC hL rest _ (λk=>by have:=hl (k+1);simpa [alL,Nat.add_comm 1 k]using this) (λk i' hk hLk=>?_) j i h hj;by_cases aE:k<acc.length
  ·rw[List.getD_eq_getElem?_getD,List.getElem?_append_left aE,<- List.getD_eq_getElem?_getD]at hk;exact kf k i' hk hLk
  ·by_cases heq:k=acc.length
   ·subst heq;rw[List.getD_eq_getElem?_getD,List.getElem?_append_right (ale _)]at hk;simp only[ame,List.getElem?_cons_zero,amk]at hk;have ho:full[acc.length]?=some o:=by have:=hl 0;simpa using this.symm
    exact xH kf _ 0 (λe he hb=>hL _ o ho hLk e he hb) aq i' hk
   ·rw[List.getD_eq_getElem?_getD,List.getElem?_eq_none cV]at hk;simp at hk
abbrev cT:=List (Nat×List Nat×List Nat)
def iK:cT->Nat->Option (List Nat×List Nat)
 |[],_=>none
 |(k,f)::l,i=>if k=i then some f else iK l i
def oJ (fs:cT) (i:Nat):List Nat :=
 match iK fs i with
 |some (_,w)=>w
 |none=>[]
def Jy:cT->List Nat
 |[]=>[]
 |(_,_,w)::l=>w++Jy l
theorem Md:∀{fs:cT}{i id:Nat},id∈oJ fs i->id∈Jy fs
 |[],i,id,h=>by simp [oJ,iK]at h
 |(k,r,w)::l,i,id,h=>by
  unfold oJ at h;simp only[iK]at h;simp only[Jy,alN];by_cases hk:k=i
  ·rw[be hk]at h;exact .inl h
  ·rw[ap hk]at h;exact .inr (Md h)
def S8 (fs:cT) (i id:Nat):Prop :=
 match iK fs i with
 |some (r,_)=>id∈r
 |none=>id ∉ Jy fs
def vo (fs:cT) (i j:Nat):Bool :=
 match iK fs i,iK fs j with
 |some (r,w),some (r',w')=>w.all (λid=>!r'.contains id&&!w'.contains id)&&w'.all λid=>!r.contains id
 |_,_=>true
def DQ (full:List Oper) (ms:List Nat) (bars:List Nat) (fs:cT) (i j:Nat) (oi oj:Oper):Bool :=
 Zv ms i j||(oi.apart full.toArray oj&&oj.apart full.toArray oi&&!bars.contains i&&!bars.contains j&&vo fs i j)
def YX (o:Oper):Bool:=(match o.op with|.select ..=>false|_=>true)&&!(o.dst == some 0)
def kt (full:List Oper) (bars:List Nat) (fs:cT):Bool :=
 let ms:=Im full []
 full.zipIdx.all (λ(oi,i)=>YX oi&&oi.after.toList.all (λe=>!Region.binds .any e||decide (e.on<i))&&full.zipIdx.all λ(oj,j)=>!decide (i<j)||DQ full ms bars fs i j oi oj)
theorem uY {fs:cT}{j:Nat} (h:vo fs i j=true) {id:Nat} (hw:id∈oJ fs i):¬S8 fs j id/\id ∉ oJ fs j:=by
 have ha:=Md hw;unfold vo at h;unfold oJ at hw ⊢;unfold S8;cases hi:iK fs i with
 |none=>rw[hi]at hw;cases hw
 |some x =>
  obtain⟨r,w⟩:=x;rw[hi]at hw h;simp only at hw;cases hj:iK fs j with
  |none=>exact⟨λh=>h ha,aq⟩
  |some y =>
   obtain⟨r',w'⟩:=y;rw[hj]at h;simp only[alo,als]at h;have:=h.1 id hw;simp only[alo,Bool.not_eq_true',List.contains_eq_mem,decide_eq_false_iff_not]at this;exact this
theorem Cg {fs:cT}{j:Nat} (h:vo fs i j=true):vo fs j i=true:=by
 unfold vo at *;cases hi:iK fs i with
 |none=>cases iK fs j <;> rfl
 |some x =>
  cases hj:iK fs j with
  |none=>rfl
  |some y =>
   obtain⟨r,w⟩:=x;obtain⟨r',w'⟩:=y;rw[hi,hj]at h;simp only[alo,als,Bool.not_eq_true',List.contains_eq_mem,decide_eq_false_iff_not]at h ⊢;exact⟨λid dA=>⟨h.2 id dA,λhw=>(h.1 id hw).2 dA⟩,λid dA=>(h.1 id dA).1⟩
theorem Ew{c:Call}{e:Nat->V} (h0:e 0=e' 0) (h:∀x∈c.operands,ev e x=ev e' x):iB P c e s K=iB P c e' s K:=by
 have kJ:∀x∈c.args.toList,ev e x=ev e' x:=λx hx=>h x (by simp [Call.operands];exact .inr (by simpa using hx));have hm:c.args.toList.map (ev e)=c.args.toList.map (ev e'):=alK kJ;unfold iB;rw[hm];cases hc:c.callee with
 |value f =>
  have hf:ev e f=ev e' f:=h f (by simp [Call.operands,hc]);cases f <;> simp only[hf,h0]
 |invoke r m=>rfl
 |builtin b =>
  cases b
  case len=>rcases hl:c.args.toList with _|⟨x,_|⟨y,l⟩⟩ <;> rcases ht:c.argTypes.toList with _|⟨t,_|⟨t',l'⟩⟩ <;> simp_all
  case cap=>rcases hl:c.args.toList with _|⟨x,_|⟨y,l⟩⟩ <;> rcases ht:c.argTypes.toList with _|⟨t,_|⟨t',l'⟩⟩ <;> simp_all
  case append=>rcases hl:c.args.toList with _|⟨x,_|⟨y,_|⟨z,l⟩⟩⟩ <;> rcases ht:c.argTypes.toList with _|⟨t,_|⟨t',_|⟨t'',l'⟩⟩⟩ <;> simp_all
  case copy=>rcases hl:c.args.toList with _|⟨x,_|⟨y,_|⟨z,l⟩⟩⟩ <;> rcases ht:c.argTypes.toList with _|⟨t,_|⟨t',_|⟨t'',l'⟩⟩⟩ <;> simp_all
  case clear=>rcases hl:c.args.toList with _|⟨x,_|⟨y,l⟩⟩ <;> rcases ht:c.argTypes.toList with _|⟨t,_|⟨t',l'⟩⟩ <;> simp_all
  case min=>rcases hl:c.args.toList with _|⟨x,l⟩ <;> rw[hl]at kJ <;> simp only[alK λy hy=>kJ y (List.mem_cons_of_mem _ hy),kJ _ (List.mem_cons_self ..)]
  case max=>rcases hl:c.args.toList with _|⟨x,l⟩ <;> rw[hl]at kJ <;> simp only[alK λy hy=>kJ y (List.mem_cons_of_mem _ hy),kJ _ (List.mem_cons_self ..)]
  all_goals rfl
theorem NC{e:Nat->V} (h0:e 0=e' 0) (h:∀x∈o.op.operands,ev e x=ev e' x):du P o e s K=du P o e' s K:=by
 obtain⟨dst,op,ty,pos,after,guard⟩:=o;have Yo:∀ps:Array (Nat×Operand),(∀x∈ps.map (·.2),ev e x=ev e' x)->(ps.toList.map λp=>(p.1,ev e p.2))=(ps.toList.map λp=>(p.1,ev e' p.2)):=λps hp =>
  alK λp hm=>by obtain⟨i,x⟩:=p;simp only[hp x (Array.mem_map.2 ⟨(i,x),by simpa using hm,rfl⟩)]
 cases op <;> simp only[Op.operands]at h <;> simp only[du]
 case build t ps=>rw[Yo ps λx hx=>h x (by simpa using hx)]
 case buildSlice t n ps=>rw[Yo ps λx hx=>h x (by simpa using hx)]
 case makeFunc fn first captured =>
  rw[alK (l:=first.toList) λx hx=>h x (by simp;exact .inl (by simpa using hx)),alK (l:=captured.toList) λx hx=>h x (by simp;exact .inr (by simpa using hx))]
 case call c=>exact Ew h0 h
 case slice t x lo hi mx=>cases lo <;> cases hi <;> cases mx <;> simp_all
 all_goals (first|rfl|(simp_all;done))
def pK (full:List Oper) (o:Oper) (e:Env):Env:=λt=>if t∈o.looksAt full.toArray\/t=0 then e t else .any
theorem eE.mask {σ s w N e a} (h:eE σ s w N e a) (full:List Oper) (o:Oper):eE σ s w N (pK full o e) a :=
 ⟨h.1,h.2.1,λt=>by unfold pK;split;exact h.2.2 t;exact .any⟩
theorem LF{e':Env} (h0:e 0=e' 0) (h:∀t∈o.looksAt full.toArray,e t=e' t):pK full o e=pK full o e':=by
 funext t;unfold pK;split
 ·rename_i ht;rcases ht with ht|rfl
  ·exact h t ht
  ·exact h0
 ·rfl
def OL (P:Program) (full:List Oper) (o:Oper) (e:Env) (s:List Obj) (v:V) (s1:List Obj):Prop :=
 ∀(σ:Gh) (w:World) (N:Nat) (a:Act),Inv σ s w->eE σ s w N (pK full o e) a->xx P o σ s w a λv' s'=>v'=v/\s'=s1
def mh (P:Program) (o:Oper) (e:Env) (s:List Obj) (v:V) (s1:List Obj):Prop:=du P o e s λv' s'=>v'=v/\s'=s1
theorem jY{v:V}{s1:List Obj} (h:mh P o e s v s1):OL P full o e s v s1:=by
 intro σ w N a hI hR;refine E6 hI hR ?_;have:du P o e s (λv' s'=>v'=v/\s'=s1)=du P o (pK full o e) s (λv' s'=>v'=v/\s'=s1):=NC (by simp [pK]) λx hx=>by
  cases x with
  |tmp t =>
   have ht:t∈o.looksAt full.toArray:=List.mem_append_left _ (List.mem_filterMap.2 ⟨.tmp t,by simpa using hx,rfl⟩);simp [ev,pK,ht]
  |_=>rfl
 rw[<- this];exact h
structure Jz where
 val:Option V
 tf:List Obj->List Obj
def pn (x:Jz):V:=x.val.getD .un
def OG (fs:cT) (k:Nat) (f:List Obj->List Obj):Prop :=
 ∀s,(f s).length=s.length/\(∀id,id ∉ oJ fs k->(f s)[id]?=s[id]?)/\∀s',s'.length=s.length->∀id,id∈oJ fs k->s'[id]?=s[id]?->(f s)[id]?=(f s')[id]?
def Pc (P:Program) (full:List Oper) (bars:List Nat) (fs:cT) (i:Nat) (o:Oper) (x:Jz) (e:Env) (s:List Obj):Prop :=
 (bars.contains i=false->OG fs i x.tf) /\
 match x.val with
 |none=>(∀s,x.tf s=s)/\∃g want d,o.guard=some (g,want)/\mU full g=some d/\(e d=.d (.sc (.bool (!want)))\/e d=.un)
 |some v=>(∀g want,o.guard=some (g,want)->∃d,mU full g=some d/\e d=.d (.sc (.bool want))) /\
   ∀s',s'.length=s.length->(bars.contains i=true->s'=s)->(∀id,S8 fs i id->s'[id]?=s[id]?)->OL P full o e s' v (x.tf s')
def Trace (P:Program) (N:Nat) (full:List Oper) (bars:List Nat) (fs:cT):Nat->List Oper->List Jz->Env->List Obj->Env->List Obj->Prop
 |_,[],[],e,s,e',s'=>e'=e/\s'=s
 |i,o::rest,x::tr,e,s,e',s'=>eS N o.dst/\Pc P full bars fs i o x e s/\Trace P N full bars fs (i+1) rest tr (jH e o.dst (pn x)) (x.tf s) e' s'
 |_,_,_,_,_,_,_=>False
def eU:List Oper->List Jz->(Nat->Bool)->Nat->Env->Env
 |o::l,x::tr,L,k,e=>eU l tr L (k+1) (if L k then jH e o.dst (pn x) else e)
 |_,_,_,_,e=>e
theorem HB{d:Nat}{v:V} (h:e d=v):ca e d v=e:=by
 funext t;unfold ca;split
 ·rename_i ht;subst ht;exact h.symm
 ·rfl
theorem pW:∀(l:List Oper) (tr:List Jz) (L:Nat->Bool) (k:Nat) (e:Env),(∀j,k<=j->L j=false)->eU l tr L k e=e
 |[],_,_,_,_,_=>by simp [eU]
 |_::_,[],_,_,_,_=>by simp [eU]
 |o::l,x::tr,L,k,e,h=>by simp only[eU,h k (ale _)];exact pW l tr L (k+1) e λj hj=>h j ae
theorem KN:∀(m:Nat) (l:List Oper) (tr:List Jz) (k:Nat) (e:Env) (o:Oper) (x:Jz),l[m]?=some o->tr[m]?=some x ->
  eU l tr (λj=>decide (j<k+m+1)) k e=jH (eU l tr (λj=>decide (j<k+m)) k e) o.dst (pn x)
 |_,[],_,_,_,_,_,h,_=>by simp at h
 |_,_::_,[],_,_,_,_,_,h=>by simp at h
 |0,o'::l,x'::tr,k,e,o,x,h1,h2=>by simp only[List.getElem?_cons_zero,alb]at h1 h2;subst h1;subst h2;simp only[eU,al8,al5,decide_false,alk,if_false,show k<k+1 by omega,decide_true,if_true];rw[pW _ _ _ _ _ (λj hj=>cV),pW _ _ _ _ _ (λj hj=>cV)]
 |m+1,o'::l,x'::tr,k,e,o,x,h1,h2=>by have h3:decide (k<k+(m+1)+1)=true:=cV;have h4:decide (k<k+(m+1))=true:=aq;simp only[eU,h3,h4,if_true];have:=KN m l tr (k+1) (jH e o'.dst (pn x')) o x (by simpa using h1) (by simpa using h2);rw[show k+(m+1)+1=k+1+m+1 by omega,show k+(m+1)=k+1+m by omega];exact this
theorem ry (e:Env) (d:Option Nat) (v:V) (t:Nat):jH e d v t=if d=some t then v else e t:=by
 cases d with
 |none=>simp [jH]
 |some d =>
  simp only[jH,ca,alb];by_cases h:t=d
  ·rw[be h,be h.symm]
  ·rw[ap h,ap (Ne.symm h)]
theorem kY (t:Nat):∀(l:List Oper) (tr:List Jz) (L L':Nat->Bool) (k:Nat) (e e':Env),e t=e' t->(∀m o,l[m]?=some o->o.dst=some t->L (k+m)=L' (k+m)) ->
  eU l tr L k e t=eU l tr L' k e' t
 |[],_,_,_,_,_,_,he,_=>by simpa [eU]using he
 |_::_,[],_,_,_,_,_,he,_=>by simpa [eU]using he
 |o::l,x::tr,L,L',k,e,e',he,h=>by
  simp only[eU];refine kY t l tr L L' (k+1) _ _ ?_ λm o' jb hd=>by have:=h (m+1) o' (by simpa using jb) hd;simpa [alL,Nat.add_comm 1 m]using this
  by_cases hd:o.dst=some t
  ·have:=h 0 o rfl hd;simp only[al8]at this;rw[this];split
   ·rw[ry,ry,be hd,be hd]
   ·exact he
  ·have h1:∀(b:Bool) (f:Env),(if b=true then jH f o.dst (pn x) else f) t=f t:=λb f=>by cases b <;> simp [ry,hd]
   rw[h1,h1];exact he
def ia:List Jz->(Nat->Bool)->Nat->List Obj->List Obj
 |x::tr,L,k,s=>ia tr L (k+1) (if L k then x.tf s else s)
 |[],_,_,s=>s
theorem rD:∀(tr:List Jz) (L:Nat->Bool) (k:Nat) (s:List Obj),(∀j,k<=j->L j=false)->ia tr L k s=s
 |[],_,_,_,_=>rfl
 |x::tr,L,k,s,h=>by simp only[ia];rw[rD tr L (k+1) _ λj hj=>h j ae];simp [h k (ale _)]
theorem sP:∀(tr:List Jz) (L L':Nat->Bool) (k:Nat) (s:List Obj),(∀m,m<tr.length->L (k+m)=L' (k+m))->ia tr L k s=ia tr L' k s
 |[],_,_,_,_,_=>rfl
 |x::tr,L,L',k,s,h=>by
  simp only[ia];have h0:L k=L' k:=by have:=h 0 aq;simpa using this
  rw[h0];exact sP tr L L' (k+1) _ λm hm=>by have:=h (m+1) (by simpa using hm);rw[show k+(m+1)=k+1+m by omega]at this;exact this
theorem PL:∀(m:Nat) (tr:List Jz) (k:Nat) (s:List Obj) (x:Jz),tr[m]?=some x ->
  ia tr (λj=>decide (j<k+m+1)) k s=x.tf (ia tr (λj=>decide (j<k+m)) k s)
 |_,[],_,_,_,h=>by simp at h
 |0,x'::tr,k,s,x,h=>by simp only[List.getElem?_cons_zero,alb]at h;subst h;simp only[ia,al8,al5,decide_false,alk,if_false,show k<k+1 by omega,decide_true,if_true];rw[rD _ _ _ _ (λj hj=>cV),rD _ _ _ _ (λj hj=>cV)]
 |m+1,x'::tr,k,s,x,h=>by have h3:decide (k<k+(m+1)+1)=true:=cV;have h4:decide (k<k+(m+1))=true:=aq;simp only[ia,h3,h4,if_true];have:=PL m tr (k+1) (x'.tf s) x (by simpa using h);rw[show k+(m+1)+1=k+1+m+1 by omega,show k+(m+1)=k+1+m by omega];exact this
theorem sg {bars:List Nat}{fs:cT}{R:Nat->Prop}:∀(tr:List Jz) (L L':Nat->Bool) (k:Nat) (s s':List Obj),
  (∀m x,tr[m]?=some x->bars.contains (k+m)=false->OG fs (k+m) x.tf) ->
  (∀m,m<tr.length->L (k+m)=L' (k+m)/\(bars.contains (k+m)=true->L (k+m)=true->s=s'/\∀m',m'<m->L (k+m')=L' (k+m'))\/(bars.contains (k+m)=false/\∀id,R id->id ∉ oJ fs (k+m))) ->
  s.length=s'.length->(∀id,R id->s[id]?=s'[id]?) ->
  (ia tr L k s).length=(ia tr L' k s').length/\∀id,R id->(ia tr L k s)[id]?=(ia tr L' k s')[id]?
 |[],_,_,_,s,s',_,_,hl,h=>⟨hl,h⟩
 |x::tr,L,L',k,s,s',Pk,hd,hl,h=>by
  simp only[ia];have afY:∀m y,tr[m]?=some y->bars.contains (k+1+m)=false->OG fs (k+1+m) y.tf:=λm y hy hb=>by have:=Pk (m+1) y (by simpa using hy) (by rw[show k+(m+1)=k+1+m by omega];exact hb);rwa [show k+(m+1)=k+1+m by omega]at this
  have next:∀t t':List Obj,t.length=t'.length->(∀id,R id->t[id]?=t'[id]?)->(s=s'->L k=L' k->t=t') ->
    (ia tr L (k+1) t).length=(ia tr L' (k+1) t').length/\∀id,R id->(ia tr L (k+1) t)[id]?=(ia tr L' (k+1) t')[id]?:=by
   intro t t' h1 h2 h3;refine sg tr L L' (k+1) t t' afY (λm hm=>?_) h1 h2;have:=hd (m+1) (by simpa using hm);rw[show k+(m+1)=k+1+m by omega]at this;rcases this with ⟨g1,g2⟩|g
   ·refine .inl ⟨g1,λhb Nb=>?_⟩;obtain⟨g3,g4⟩:=g2 hb Nb;have g0:=g4 0 ae;rw[al8]at g0;exact⟨h3 g3 g0,λm' lE=>by
     have:=g4 (m'+1) ae;rwa [show k+(m'+1)=k+1+m' by omega]at this⟩
   ·exact .inr g
  have d0:=hd 0 aq;rw[al8]at d0;have tf0:=Pk 0 x rfl;rw[al8]at tf0;cases hL:L k with
  |false =>
   cases hL':L' k with
   |false =>
    simp only[alk,if_false];exact next s s' hl h λh _=>h
   |true =>
    simp only[alk,if_false,if_true];rcases d0 with ⟨d0,_⟩|⟨d1,d2⟩
    ·rw[hL,hL']at d0;cases d0
    ·obtain⟨f1,f2,_⟩:=tf0 d1 s';exact next s (x.tf s') (by rw[f1];exact hl) (λid dA=>by rw[f2 id (d2 id dA)];exact h id dA) λ_ h'=>by rw[hL,hL']at h';cases h'
  |true =>
   cases hL':L' k with
   |false =>
    simp only[alk,if_false,if_true];rcases d0 with ⟨d0,_⟩|⟨d1,d2⟩
    ·rw[hL,hL']at d0;cases d0
    ·obtain⟨f1,f2,_⟩:=tf0 d1 s;exact next (x.tf s) s' (by rw[f1];exact hl) (λid dA=>by rw[f2 id (d2 id dA)];exact h id dA) λ_ h'=>by rw[hL,hL']at h';cases h'
   |true =>
    simp only[if_true];cases hb:bars.contains k with
    |true =>
     rcases d0 with ⟨_,d0⟩|⟨d1,_⟩
     ·obtain⟨rfl,_⟩:=d0 hb hL;exact next _ _ rfl (λ_ _=>rfl) λ_ _=>rfl
     ·rw[hb]at d1;cases d1
    |false =>
     obtain⟨f1,f2,f3⟩:=tf0 hb s;obtain⟨f1',f2',_⟩:=tf0 hb s';refine next _ _ (by rw[f1,f1'];exact hl) (λid dA=>?_) λh _=>by rw[h]
     by_cases hw:id∈oJ fs k
     ·exact f3 s' hl.symm id hw (h id dA).symm
     ·rw[f2 id hw,f2' id hw];exact h id dA
theorem La {P:Program}{N:Nat}{full:List Oper}{bars:List Nat}{fs:cT}:∀(l:List Oper) (tr:List Jz) (i:Nat) (e:Env) (s:List Obj) (e':Env) (s':List Obj),Trace P N full bars fs i l tr e s e' s' ->
  tr.length=l.length/\e'=eU l tr (λ_=>true) i e/\s'=ia tr (λ_=>true) i s /\
  ∀(m:Nat) (o:Oper) (x:Jz),l[m]?=some o->tr[m]?=some x->eS N o.dst/\Pc P full bars fs (i+m) o x (eU l tr (λj=>decide (j<i+m)) i e) (ia tr (λj=>decide (j<i+m)) i s)
 |[],[],i,e,s,e',s',h=>by obtain⟨rfl,rfl⟩:=h;exact⟨rfl,by simp [eU],rfl,λm o x h=>by simp at h⟩
 |[],_::_,_,_,_,_,_,h=>h.elim
 |_::_,[],_,_,_,_,_,h=>h.elim
 |o::l,x::tr,i,e,s,e',s',h=>by
  obtain⟨hd,hx,ht⟩:=h;obtain⟨h0,h1,h2,h3⟩:=La l tr (i+1) _ _ e' s' ht;refine⟨by simp [h0],by simp only[eU,if_true];exact h1,by simp only[ia,if_true];exact h2,λm o1 x1 ho yb=>?_⟩;cases m with
  |zero =>
   simp only[List.getElem?_cons_zero,alb]at ho yb;subst ho;subst yb;have e1:eU (o::l) (x::tr) (λj=>decide (j<i+0)) i e=e:=pW _ _ _ _ _ λj hj=>cV;have e2:ia (x::tr) (λj=>decide (j<i+0)) i s=s:=rD _ _ _ _ λj hj=>cV;rw[e1,e2];exact⟨hd,hx⟩
  |succ m =>
   have:=h3 m o1 x1 (by simpa using ho) (by simpa using yb);rw[show i+(m+1)=i+1+m by omega];have aE:decide (i<i+1+m)=true:=cV;have e1:eU (o::l) (x::tr) (λj=>decide (j<i+1+m)) i e=eU l tr (λj=>decide (j<i+1+m)) (i+1) (jH e o.dst (pn x)):=by simp only[eU,aE,if_true]
   have e2:ia (x::tr) (λj=>decide (j<i+1+m)) i s=ia tr (λj=>decide (j<i+1+m)) (i+1) (x.tf s):=by simp only[ia,aE,if_true]
   rw[e1,e2];exact this
def xa (bJ:Array Bool) (j:Nat):Bool:=bJ.getD j false
def ZP (bJ:Array Bool):Nat:=(bJ.toList.filter (!·)).length
theorem Xa (h:bJ.getD i true=false):ZP (bJ.setIfInBounds i true)<ZP bJ:=by
 have hi:i<bJ.size:=by
  rcases alw i bJ.size with h'|h'
  ·exact h'
  ·simp [Array.getElem?_eq_none h']at h
 have hv:bJ.toList[i]?=some false:=by rw[Array.getD_eq_getD_getElem?]at h;rw[Array.getElem?_toList];rw[Array.getElem?_eq_getElem hi]at h ⊢;simpa using h
 unfold ZP;rw[Array.toList_setIfInBounds];generalize bJ.toList=l at hv;clear h hi;induction l generalizing i with
 |nil=>simp at hv
 |cons b l ih =>
  cases i with
  |zero =>
   simp only[List.getElem?_cons_zero,alb]at hv;subst hv;simp
  |succ i =>
   have:=ih (i:=i) (by simpa using hv);simp only[alD,List.filter_cons];cases b
   ·simp only[ali,if_true,alg];omega
   ·simpa using this
theorem UD (h:ZP bJ=0) (hi:i<bJ.size):bJ.getD i false=true:=by unfold ZP at h;rw[List.length_eq_zero_iff,List.filter_eq_nil_iff]at h;have:=h bJ[i] aq;simpa [Array.getD,hi]using this
section
variable {P:Program}{N:Nat}{full:List Oper}{bars:List Nat}{fs:cT}{tr:List Jz}{e0:Env}{s0:List Obj}
variable{i:Nat}{oi:Oper}{L:Nat->Bool}{L':Nat->Bool}{s:List Obj}{s1:List Obj}{e1:Env}
theorem pZ (hd:kt full bars fs=true) {j:Nat}{oj:Oper} (hi:full[i]?=some oi) (hj:full[j]?=some oj) (hij:i<j):DQ full (Im full []) bars fs i j oi oj=true:=by simp only[kt,als]at hd;have h1:=hd (oi,i) (by rw[List.mem_zipIdx_iff_getElem?];exact hi);simp only[alo,als]at h1;have h2:=h1.2 (oj,j) (by rw[List.mem_zipIdx_iff_getElem?];exact hj);simpa [hij]using h2
theorem uC (hd:kt full bars fs=true) (hi:full[i]?=some oi) {x:Edge} (hx:x∈oi.after) (hb:Region.binds .any x=true):x.on<i:=by simp only[kt,als]at hd;have h1:=hd (oi,i) (by rw[List.mem_zipIdx_iff_getElem?];exact hi);simp only[alo,als]at h1;have:=h1.1.2 x (by simpa using hx);simpa [hb]using this
theorem rj {L:Nat->Prop} (hL:ma full L) {j:Nat} (h:Zv (Im full []) i j=true) (hj:L j):L i :=
 DC hL full [] aq aq j i h hj
theorem Fi (hd:kt full bars fs=true) (hL:ma full λj=>L j=true) (hi:full[i]?=some oi) (C8:L i=false)
  (hready:∀x∈oi.after.toList,Region.binds .any x=true->L x.on=true) {m:Nat}{om:Oper} (hm:full[m]?=some om) (eX:m≠i) :
  L m=decide (m<i)\/((om.apart full.toArray oi=true/\oi.apart full.toArray om=true)/\bars.contains m=false/\bars.contains i=false/\vo fs m i=true):=by
 have hL':ma full λj=>L j=true\/j=i:=by
  intro j o ho hj x hx hb;rcases hj with hj|rfl
  ·exact .inl (hL j o ho hj x hx hb)
  ·rw[hi]at ho;cases ho;exact .inl (hready x hx hb)
 rcases Nat.lt_or_gt_of_ne eX with aE|hgt
 ·have hp:=pZ hd hm hi aE;simp only[DQ,Bool.or_eq_true]at hp;rcases hp with hp|hp
  ·rcases rj hL' hp (.inr rfl) with h|h
   ·exact .inl (by rw[h];simp [aE])
   ·exact absurd h eX
  ·simp only[alo,Bool.not_eq_true']at hp;obtain⟨⟨⟨⟨a1,a2⟩,a3⟩,a4⟩,a5⟩:=hp;exact .inr ⟨⟨a1,a2⟩,a3,a4,a5⟩
 ·have hp:=pZ hd hi hm hgt;simp only[DQ,Bool.or_eq_true]at hp;rcases hp with hp|hp
  ·cases Ot:L m with
   |false=>exact .inl cV
   |true=>have:=rj hL hp Ot;rw[C8]at this;cases this
  ·simp only[alo,Bool.not_eq_true']at hp;obtain⟨⟨⟨⟨a1,a2⟩,a3⟩,a4⟩,a5⟩:=hp;exact .inr ⟨⟨a2,a1⟩,a4,a3,Cg a5⟩
theorem yk (hd:kt full bars fs=true) (hL:ma full λj=>L j=true) {k m:Nat} (hk:bars.contains k=true) (hLk:L k=true) (FQ:k<full.length) (hm:m<k):L m=true:=by
 have hp:=pZ hd (List.getElem?_eq_getElem (by omega:m<full.length)) (List.getElem?_eq_getElem FQ) hm;simp only[DQ,Bool.or_eq_true]at hp;rcases hp with hp|hp
 ·exact rj hL hp hLk
 ·simp only[alo,Bool.not_eq_true']at hp;rw[hk]at hp;exact absurd hp.1.2 aq
theorem ma.add (hL:ma full λj=>L j=true) (hi:full[i]?=some oi) (hready:∀x∈oi.after.toList,Region.binds .any x=true->L x.on=true)
  (h':∀j,L' j=(L j||decide (j=i))):ma full λj=>L' j=true:=by
 intro j o ho hj x hx hb;have hj:L' j=true:=hj;show L' x.on=true;rw[h',Bool.or_eq_true]at hj ⊢;rcases hj with hj|hj
 ·exact .inl (hL j o ho hj x hx hb)
 ·rw[decide_eq_true_eq]at hj;subst hj;rw[hi]at ho;cases ho;exact .inl (hready x hx hb)
theorem Ax (hd:kt full bars fs=true) (hL:ma full λj=>L j=true) (hi:full[i]?=some oi) (C8:L i=false)
  (hready:∀x∈oi.after.toList,Region.binds .any x=true->L x.on=true) {t:Nat} (ht:t∈oi.looksAt full.toArray):eU full tr L 0 e0 t=eU full tr (λj=>decide (j<0+i)) 0 e0 t:=by
 refine kY t full tr _ _ 0 _ _ rfl λm om hm F4=>?_;simp only[alc];by_cases eX:m=i
 ·subst eX;simp [C8]
 ·rcases Fi hd hL hi C8 hready hm eX with h|⟨⟨h,_⟩,_⟩
  ·exact h
  ·exact absurd ht ((Oper.apart_spec h).1 t F4)
theorem T6 (hd:kt full bars fs=true) (L L':Nat->Bool):eU full tr L 0 e0 0=eU full tr L' 0 e0 0:=by refine kY 0 full tr _ _ 0 _ _ rfl λm om hm F4=>?_;unfold kt at hd;have:=List.all_eq_true.1 hd (om,m) (List.mem_zipIdx_iff_getElem?.2 hm);simp [YX,F4]at this
theorem XV (hd:kt full bars fs=true) (hL:ma full λj=>L j=true) (hi:full[i]?=some oi) (C8:L i=false)
  (hready:∀x∈oi.after.toList,Region.binds .any x=true->L x.on=true) {x:Jz} (hx:tr[i]?=some x) (h':∀j,L' j=(L j||decide (j=i))) :
  eU full tr L' 0 e0=jH (eU full tr L 0 e0) oi.dst (pn x):=by
 funext t;by_cases hdt:oi.dst=some t
 ·rw[ry,be hdt];have h1:eU full tr L' 0 e0 t=eU full tr (λj=>decide (j<0+i+1)) 0 e0 t:=by
   refine kY t full tr _ _ 0 _ _ rfl λm om hm F4=>?_;simp only[alc];rw[h'];by_cases eX:m=i
   ·subst eX;simp
   ·rcases Fi hd hL hi C8 hready hm eX with h|⟨⟨h,_⟩,_⟩
    ·rw[h];exact ZdE
    ·exact absurd hdt ((Oper.apart_spec h).2.1 t F4)
  rw[h1,KN i full tr 0 e0 oi x hi hx,ry,be hdt]
 ·rw[ry,ap hdt];refine kY t full tr _ _ 0 _ _ rfl λm om hm F4=>?_;simp only[alc];rw[h'];by_cases eX:m=i
  ·subst eX;rw[hi]at hm;cases hm;exact absurd F4 hdt
  ·simp [eX]
theorem Ak (hd:kt full bars fs=true) (hl:tr.length=full.length) (Pk:∀m x,tr[m]?=some x->bars.contains m=false->OG fs m x.tf) (hL:ma full λj=>L j=true) (hi:full[i]?=some oi) (C8:L i=false)
  (hready:∀x∈oi.after.toList,Region.binds .any x=true->L x.on=true) {R:Nat->Prop} (hR:∀m,bars.contains i=false->vo fs m i=true->∀id,R id->id ∉ oJ fs m) :
  (ia tr L 0 s0).length=(ia tr (λj=>decide (j<0+i)) 0 s0).length/\∀id,R id->(ia tr L 0 s0)[id]?=(ia tr (λj=>decide (j<0+i)) 0 s0)[id]?:=by
 have hif:i<full.length:=(List.getElem?_eq_some_iff.1 hi).1;refine sg (bars:=bars) (fs:=fs) tr _ _ 0 s0 s0 (λm x hx hb=>by rw[alc]at hb ⊢;exact Pk m x hx hb) (λm hm=>?_) rfl λ_ _=>rfl;simp only[alc];have aaT:bars.contains m=true->L m=true->m<i->∀m',m'<m->L m'=decide (m'<i):=by intro hb Ot hmi m' lE;rw[yk hd hL hb Ot ae lE];simp;omega
 by_cases eX:m=i
 ·subst eX;exact .inl ⟨by simp [C8],λ_ h=>by rw[C8]at h;cases h⟩
 ·rcases Fi hd hL hi C8 hready (List.getElem?_eq_getElem (by omega:m<full.length)) eX with h|⟨_,h1,h2,h3⟩
  ·exact .inl ⟨h,λhb Ot=>⟨trivial,aaT hb Ot (by rw[Ot]at h;simpa using h.symm)⟩⟩
  ·exact .inr ⟨h1,hR m h2 h3⟩
theorem aaF (hd:kt full bars fs=true) (hl:tr.length=full.length) (Pk:∀m x,tr[m]?=some x->bars.contains m=false->OG fs m x.tf) (hL:ma full λj=>L j=true) (hi:full[i]?=some oi) (C8:L i=false)
  (hready:∀x∈oi.after.toList,Region.binds .any x=true->L x.on=true) {x:Jz} (hx:tr[i]?=some x) (h':∀j,L' j=(L j||decide (j=i))) :
  ia tr L' 0 s0=x.tf (ia tr L 0 s0):=by
 have hif:i<full.length:=(List.getElem?_eq_some_iff.1 hi).1;have aE:=PL i tr 0 s0 x hx;rw[alc]at aE;have aaT:∀m,m<tr.length->bars.contains m=true->L m=true->m<i->∀m',m'<m->L m'=decide (m'<i):=by intro m hm hb Ot hmi m' lE;rw[yk hd hL hb Ot ae lE];simp;omega
 by_cases hb:bars.contains i=true
 ·
  have bR:∀m,m<tr.length->L m=decide (m<i):=by
   intro m hm;by_cases eX:m=i
   ·subst eX;simp [C8]
   ·rcases Fi hd hL hi C8 hready (List.getElem?_eq_getElem (by omega:m<full.length)) eX with h|⟨_,_,h2,_⟩
    ·exact h
    ·rw[hb]at h2;cases h2
  rw[sP tr L (λj=>decide (j<i)) 0 s0 λm hm=>by rw[alc];exact bR m hm,<- aE];refine sP tr _ _ 0 s0 λm hm=>?_;rw[alc,h',bR m hm];by_cases eX:m=i
  ·subst eX;simp
  ·exact ZdE
 ·have hb:bars.contains i=false:=by simpa using hb
  obtain⟨f1,f2,f3⟩:=Pk i x hx hb (ia tr L 0 s0);have agl:=sg (bars:=bars) (fs:=fs) (R:=λid=>id ∉ oJ fs i) tr L' L 0 s0 s0 (λm y hy hb=>by rw[alc]at hb ⊢;exact Pk m y hy hb) (λm hm=>by
    simp only[alc];by_cases eX:m=i
    ·subst eX;exact .inr ⟨hb,λid dA=>dA⟩
    ·have e1:L' m=L m:=by rw[h'];simp [eX]
     refine .inl ⟨e1,λhbm Ot=>⟨trivial,λm' lE=>?_⟩⟩;rw[e1]at Ot;have:=yk hd hL hbm Ot ae lE;rw[h',this];rfl) rfl λ_ _=>rfl
  have onW:=sg (bars:=bars) (fs:=fs) (R:=λid=>id∈oJ fs i) tr L' (λj=>decide (j<i+1)) 0 s0 s0 (λm y hy hb=>by rw[alc]at hb ⊢;exact Pk m y hy hb) (λm hm=>by
    simp only[alc];by_cases eX:m=i
    ·subst eX;refine .inl ⟨by rw[h'];simp,λhbm _=>by rw[hb]at hbm;cases hbm⟩
    ·have e1:L' m=L m:=by rw[h'];simp [eX]
     rcases Fi hd hL hi C8 hready (List.getElem?_eq_getElem (by omega:m<full.length)) eX with h|⟨_,h1,_,h3⟩
     ·refine .inl ⟨by rw[e1,h,decide_eq_decide];omega,λhbm Ot=>⟨trivial,λm' lE=>?_⟩⟩;rw[e1]at Ot;have hmi:m<i:=by rw[Ot]at h;simpa using h.symm
      rw[h',aaT m hm hbm Ot hmi m' lE];simp only[show m'≠i by omega,decide_false,amo];rw[decide_eq_decide];omega
     ·exact .inr ⟨h1,λid dA=>(uY (Cg h3) dA).2⟩) rfl λ_ _=>rfl
  refine List.ext_getElem? λid=>?_;by_cases hw:id∈oJ fs i
  ·have:=Ak (s0:=s0) hd hl Pk hL hi C8 hready (R:=λid=>id∈oJ fs i) (λm _ hc id dA hm=>(uY hc hm).2 dA);rw[alc]at this;rw[onW.2 id hw,aE,f3 _ this.1.symm id hw (this.2 id hw).symm]
  ·rw[agl.2 id hw,f2 id hw]
theorem Mz {σ:Gh}{w:World}{e:Env}{a:Act}{o:Oper}{g:Nat}{want:Bool}{d:Nat} (hR:eE σ s w N e a) (ho:o.guard=some (g,want)) (hg:mU full g=some d) :
  (e d=.d (.sc (.bool want))->Region.wanted o (yielded full.toArray a.tmps)=true)/\(e d=.d (.sc (.bool (!want)))\/e d=.un->Region.wanted o (yielded full.toArray a.tmps)=false):=by
 constructor
 ·intro h;have hw:me (mU full g) e want (λ_=>True) (λ_=>False):=by rw[hg];simp [me,h]
  obtain⟨_,_,h|h⟩:=yz hR ho hw
  ·exact h.1
  ·exact h.2.elim
 ·intro h;have hw:me (mU full g) e want (λ_=>False) (λ_=>True):=by rw[hg];rcases h with h|h <;> simp [me,h]
  obtain⟨_,_,h|h⟩:=yz hR ho hw
  ·exact h.2.elim
  ·exact h.1
theorem RU (hd:kt full bars fs=true) (ht:Trace P N full bars fs 0 full tr e0 s0 e1 s1)
  {σ00:Gh}{s00:List Obj}{w00:World}{Q:Exit->Env->List Obj->Prop}{r:Option Nat}{D:List Deferred}{ws:World} (hQ:Q .normal e1 s1):∀(fuel:Nat) (bJ:Array Bool) (σ:Gh) (w:World) (a:Act),bJ.size=full.length->ZP bJ<=fuel ->
  (ma full λj=>xa bJ j=true)->qi ws w->aK σ00 s00 w00 σ (ia tr (xa bJ) 0 s0) w->Inv σ (ia tr (xa bJ) 0 s0) w->eE σ (ia tr (xa bJ) 0 s0) w N (eU full tr (xa bJ) 0 e0) a ->
  wpAnyIn (G7 r) 0 P .any full.toArray (QR ws D (QX σ00 s00 w00 N Q)) fuel bJ (Act.wD a D) w:=by
 intro fuel;obtain⟨hl,t1,t2,t3⟩:=La full tr 0 e0 s0 e1 s1 ht;have Pk:∀m x,tr[m]?=some x->bars.contains m=false->OG fs m x.tf:=by
  intro m x hx hb;have hm:m<full.length:=by have:=(List.getElem?_eq_some_iff.1 hx).1;omega
  have:=(t3 m full[m] x (List.getElem?_eq_getElem hm) hx).2.1;rw[alc]at this;exact this hb
 have Jp:∀bJ:Array Bool,bJ.size=full.length->Region.ready .any full.toArray bJ=[]->∀j,j<full.length->xa bJ j=true:=by
  intro bJ gr hr j;induction j using Nat.strongRecOn with
  |_ j ih =>
   intro hj;cases hlj:xa bJ j with
   |true=>rfl
   |false =>
    exfalso;have:j∈Region.ready .any full.toArray bJ:=by
     rw[mem_ready];refine⟨?_,full[j],by simp [hj],λx hx hb=>?_⟩
     ·unfold xa at hlj;have:j<bJ.size:=ae;simpa [Array.getD,this]using hlj
     ·exact ih x.on (uC hd (List.getElem?_eq_getElem hj) hx hb) (by
       have:=uC hd (List.getElem?_eq_getElem hj) hx hb;omega)
    rw[hr]at this;cases this
 have fin:∀(bJ:Array Bool) (σ:Gh) (w:World) (a:Act),(∀j,j<full.length->xa bJ j=true)->qi ws w->aK σ00 s00 w00 σ (ia tr (xa bJ) 0 s0) w->Inv σ (ia tr (xa bJ) 0 s0) w ->
   eE σ (ia tr (xa bJ) 0 s0) w N (eU full tr (xa bJ) 0 e0) a->QR ws D (QX σ00 s00 w00 N Q) .normal (Act.wD a D) w:=by
  intro bJ σ w a bR hk hE hI hR;have he:eU full tr (xa bJ) 0 e0=e1:=by rw[t1];funext t;refine kY t full tr _ _ 0 _ _ rfl λm om hm _=>?_;rw[alc];exact bR m (List.getElem?_eq_some_iff.1 hm).1
  have hs:ia tr (xa bJ) 0 s0=s1:=by rw[t2];refine sP tr _ _ 0 _ λm hm=>?_;rw[alc];exact bR m ae
  rw[he,hs]at hR;rw[hs]at hE hI;exact It hk hR.1 ⟨e1,σ,s1,hE,hI,hR,hQ⟩
 have L8:∀bJ:Array Bool,(∀j,j<full.length->xa bJ j=true)->Region.ready .any full.toArray bJ=[]:=by
  intro bJ bR;rw[List.eq_nil_iff_forall_not_mem];intro j hj;rw[mem_ready]at hj;obtain⟨h0,o,ho,_⟩:=hj;have WJ:j<full.length:=by simpa using (Array.getElem?_eq_some_iff.1 ho).1
  have:=bR j WJ;unfold xa at this;rw[Array.getD_eq_getD_getElem?]at this h0;cases hx:bJ[j]? with
  |none=>rw[hx]at h0;cases h0
  |some b=>rw[hx]at this h0;simp only[amk]at this h0;rw[this]at h0;cases h0
 induction fuel with
 |zero =>
  intro bJ σ w a gr hu hL hk hE hI hR;have bR:∀j,j<full.length->xa bJ j=true:=λj hj=>UD ae ae;exact⟨L8 bJ bR,fin bJ σ w a bR hk hE hI hR⟩
 |succ fuel ih =>
  intro bJ σ w a gr hu hL hk hE hI hR;refine⟨λhr=>fin bJ σ w a (Jp bJ gr hr) hk hE hI hR,λi hir=>?_⟩;rw[mem_ready]at hir;obtain⟨h0,o,ho,Y8⟩:=hir;have hif:i<full.length:=by simpa using (Array.getElem?_eq_some_iff.1 ho).1
  have VR:full[i]?=some o:=by simpa using ho
  have C8:xa bJ i=false:=by unfold xa;have:i<bJ.size:=ae;simp only[Array.getD,this,dif_pos]at h0 ⊢;exact h0
  have hready:∀x∈o.after.toList,Region.binds .any x=true->xa bJ x.on=true:=λx hx hb=>Y8 x (by simpa using hx) hb;have hx:∃x,tr[i]?=some x:=⟨tr[i],List.getElem?_eq_getElem ae⟩
  obtain⟨x,hx⟩:=hx;have h':∀j,xa (bJ.setIfInBounds i true) j=(xa bJ j||decide (j=i)):=by
   intro j;unfold xa;by_cases Zj:j=i
   ·subst Zj;have:j<bJ.size:=ae;simp [this]
   ·rw[getD_set_ne false (Ne.symm Zj)];simp [Zj]
  have O0:=ih (bJ.setIfInBounds i true);have heP:=XV (tr:=tr) (e0:=e0) hd hL VR C8 hready hx h';have hsP:=aaF (s0:=s0) hd hl Pk hL VR C8 hready hx h';have cQ:=ma.add hL VR hready h';have hul:=Xa h0;obtain⟨F4,_,NS⟩:=t3 i o x VR hx;unfold wpOpIn;rw[ho];simp only;cases hv:x.val with
  |none =>
   rw[hv]at NS;obtain⟨bL,g,want,d,hg,hgs,VX⟩:=NS;have Un:d∈o.looksAt full.toArray:=by
    unfold mU at hgs;split at hgs
    ·rename_i og hog;simp [Oper.looksAt,hg,hog,hgs]
    ·cases hgs
   rw[<- Ax (tr:=tr) (e0:=e0) hd hL VR C8 hready Un]at VX;rw[show Region.wanted o (yielded full.toArray (Act.wD a D).tmps)=false from (Mz hR hg hgs).2 VX];simp only[alk,if_false];rw[bL]at hsP;rw[Ba];refine⟨λ_ _=>trivial,?_⟩;refine O0 σ w _ (by simpa using gr) ae cQ hk (by rw[hsP];exact hE) (by rw[hsP];exact hI) ?_;rw[hsP,heP];have:pn x=.un:=by simp [pn,hv]
   rw[this];exact hR.put F4 .un
  |some v =>
   rw[hv]at NS;obtain⟨hgs,I2⟩:=NS;have ack:Region.wanted o (yielded full.toArray a.tmps)=true:=by
    cases hg:o.guard with
    |none=>simp [Region.wanted,hg]
    |some gw =>
     obtain⟨g,want⟩:=gw;obtain⟨d,VX,hgv⟩:=hgs g want hg;have Un:d∈o.looksAt full.toArray:=by
      unfold mU at VX;split at VX
      ·rename_i og hog;simp [Oper.looksAt,hg,hog,VX]
      ·cases VX
     rw[<- Ax (tr:=tr) (e0:=e0) hd hL VR C8 hready Un]at hgv;exact(Mz hR hg VX).1 hgv
   rw[be (show Region.wanted o (yielded full.toArray (Act.wD a D).tmps)=true from ack)];have ab5:OL P full o (eU full tr (xa bJ) 0 e0) (ia tr (xa bJ) 0 s0) v (ia tr (xa (bJ.setIfInBounds i true)) 0 s0):=by
    have hm:pK full o (eU full tr (xa bJ) 0 e0)=pK full o (eU full tr (λj=>decide (j<0+i)) 0 e0):=LF (T6 hd _ _) λt ht=>Ax hd hL VR C8 hready ht;unfold OL;rw[hm,hsP];refine I2 _ ?_ ?_ ?_
    ·exact(Ak (s0:=s0) hd hl Pk hL VR C8 hready (R:=λ_=>False) (λ_ _ _ _ h=>h.elim)).1
    ·intro hb;rw[alc]at hb;have:=Ak (s0:=s0) hd hl Pk hL VR C8 hready (R:=λ_=>True) (λ_ h=>by rw[hb]at h;cases h);exact List.ext_getElem? λid=>this.2 id trivial
    ·intro id dA;rw[alc]at dA;exact(Ak (s0:=s0) hd hl Pk hL VR C8 hready (R:=λid=>S8 fs i id) (λm _ hc id dA hw=>(uY hc hw).1 dA)).2 id dA
   refine Oper.wpIn_mono (λa' w' ⟨a0,h1,u,v',σ',s',ha,yn,jR,qu,hK⟩=>?_) (PW (λa' w' ⟨u,_,_,_,ha,_⟩=>⟨u,ha⟩) (ab5 σ w N a hI (hR.mask full o)));obtain⟨rfl,rfl⟩:=hK;subst ha h1;refine O0 σ' w' _ (by simpa using gr) ae cQ (hk.trans (.of hI yn)) (hE.trans yn) jR ?_;rw[heP];have:pn x=v':=by simp [pn,hv]
   rw[this];exact(hR.bj yn).put F4 qu
theorem L0 (hm:P.follows .mixedOrders=true) (hd:kt full bars fs=true) {e:Env} (ht:Trace P N full bars fs 0 full tr e s e1 s1) {K:Env->List Obj->Prop} (hK:K e1 s1):tv P N full e s K:=by
 intro σ0 s00 w0 Q hKQ σ w a id hE hI hR;intro r D;refine wpIn_region_any hm ?_;have hf:∀j,xa (Array.replicate full.toArray.size false) j=false:=by intro j;unfold xa;rw[Array.getD_eq_getD_getElem?,Array.getElem?_replicate];split <;> rfl
 have hs:ia tr (xa (Array.replicate full.toArray.size false)) 0 s=s:=rD _ _ _ _ λj _=>hf j;have he:eU full tr (xa (Array.replicate full.toArray.size false)) 0 e=e:=pW _ _ _ _ _ λj _=>hf j;refine RU hd ht (hKQ e1 s1 hK) _ _ σ _ a aq ?_ (λj o _ hj=>by have hj:xa _ j=true:=hj;rw[hf j]at hj;cases hj) (λ_ _ h _=>h) ?_ ?_ ?_
 ·unfold ZP;refine al7 (List.length_filter_le _ _) aq
 ·rw[hs];exact hE.trans (pT hI).1
 ·rw[hs];exact(pT hI).2
 ·rw[hs,he];exact hR.bj (pT hI).1
end
end Go.VL
